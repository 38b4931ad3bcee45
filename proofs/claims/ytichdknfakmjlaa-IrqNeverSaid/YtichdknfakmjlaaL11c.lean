/-
  gannetlaw11.IrqChooses; arguments opened.
-/
import Derived.Test.YtichdknfakmjlaaL11b
import Derived.Test.YtichdknfakmjlaaOpenS
namespace Go.Proofs.Ytichdknfakmjlaa
open Go.RowKit Pl

theorem StpB.below {w w' : World} {a : Option Addr} {len : Nat} {Rg : Nat → Nat} {Bv : Nat → Nat} (h : StpB w a len Rg Bv w.heap.size) (hb : Below w.heap.size w w') : StpB w' a len Rg Bv w.heap.size := StpB.only (S := fun _ => False) h (Only.of hb) (fun _ _ e => e)
set_option maxRecDepth 100000 in
set_option maxHeartbeats 2000000 in
theorem irqChooses_calls (sa sb : Option Addr) (n cn m cm : Nat) (Ra Ba Rb Bb : Nat → Nat) (w : World) (hSa : StpB w sa n Ra Ba w.heap.size) (hSb : StpB w sb m Rb Bb w.heap.size) :
    Calls Try.prog 3 #[.slice sa n cn, .slice sb m cm] w fun e w' => e = .returned (.bool true) ∧ Below w.heap.size w w' := by
  by_cases hn : 60 < n
  · have i1 : (60 : Int) < (n : Int) := by omega
    clear hn
    go_enter Try.func3, Try.ntmps3
    (go_wp2_with fail; refine Cl.m (live11_calls _) ?_; intro w1 hb1)
    (go_wp2_with fail; go_ret; exact ⟨rfl, by (repeat (first | exact Below.refl _ _ | assumption | refine Below.drew ?_ | refine Bl.alloc ?_ _ | refine below_drewN ?_ _ | refine Bl.chain ?_ (by assumption) (Nat.le_refl _)))⟩)
  · have i1 : (decide ((60 : Int) < (n : Int))) = false := by rw [decide_eq_false_iff_not]; omega
    by_cases hm : 60 < m
    · have i2 : (60 : Int) < (m : Int) := by omega
      clear hn hm
      go_enter Try.func3, Try.ntmps3
      (go_wp2_with fail; refine Cl.m (live11_calls _) ?_; intro w1 hb1)
      (go_wp2_with fail; go_ret; exact ⟨rfl, by (repeat (first | exact Below.refl _ _ | assumption | refine Below.drew ?_ | refine Bl.alloc ?_ _ | refine below_drewN ?_ _ | refine Bl.chain ?_ (by assumption) (Nat.le_refl _)))⟩)
    · have i2 : (decide ((60 : Int) < (m : Int))) = false := by rw [decide_eq_false_iff_not]; omega
      have n60 : n ≤ 60 := by omega
      have m60 : m ≤ 60 := by omega
      clear hn hm
      go_enter Try.func3, Try.ntmps3
      (go_wp2_with fail; refine Cl.m (live11_calls _) ?_; intro w1 hb1)
      go_wp2_with fail
      refine (iqNew_calls _).mono ?_
      rintro e w2 ⟨g, rfl, hI2, hg, hb2⟩
      have hb02 := hb1.trans (hb2.mono hb1.size)
      have hs1 := hb1.size
      have hgl := hI2.lt
      have hI3 : IB (w2.alloc (.cells #[.int .u8 0, .bool false] 28)) g 0 false := Blk.alloc hI2 _
      have hR3 : RI (w2.alloc (.cells #[.int .u8 0, .bool false] 28)) w2.heap.size 0 false := Blk.new _ _ _
      have hb03 : Below w.heap.size w (w2.alloc (.cells #[.int .u8 0, .bool false] 28)) := hb02.alloc hb02.size _
      have hs2 := hb02.size
      go_wp2_with fail
      generalize w2.alloc (.cells #[.int .u8 0, .bool false] 28) = w3 at *
      generalize w2.heap.size = h at *
      clear hI2 hb2 hb1 hb02
      refine (play11_calls g h sa n cn 0 false Ra Ba w.heap.size _ (by omega) (by omega) (by omega) (by omega) n60 hI3 hR3 (hSa.below hb03)).mono ?_
      rintro e w4 ⟨rfl, d, u, hd, hI4, hR4, ho4⟩
      have hb04 := hb03.trans (ho4.below hb03.size (fun j e => by omega))
      clear hI3 hR3 hb03 ho4 w3
      go_wp2_with fail
      refine (iqClone_calls g d u _ hI4).mono ?_
      rintro e w5 ⟨g', rfl, hI5, hg', hb5⟩
      have hIo : IB w5 g d u := Blk.below hI4 hb5 hI4.lt
      have hRo : RI w5 h d u := Blk.below hR4 hb5 hR4.lt
      have hb05 := hb04.trans (hb5.mono hb04.size)
      have hs4 := hb04.size
      have hg4 := hI4.lt
      have hh4 := hR4.lt
      have hg5 := hI5.lt
      clear hI4 hR4 hb5 hb04
      have c0 : w5.drew.cell? ⟨h, 0, none⟩ = some (.int .u8 (d : Int)) := Blk.cell hRo 0
      have c1 : w5.drew.cell? ⟨h, 1, none⟩ = some (.bool u) := Blk.cell hRo 1
      have k0 : ∀ o : Obj, (w5.drew.alloc o).cell? ⟨h, 0, none⟩ = some (.int .u8 (d : Int)) := fun o => Blk.cell (Blk.alloc (Blk.drew hRo) o) 0
      have k1 : ∀ o : Obj, (w5.drew.alloc o).cell? ⟨h, 1, none⟩ = some (.bool u) := fun o => Blk.cell (Blk.alloc (Blk.drew hRo) o) 1
      go_wp2_with fail
      go_region_held3 (fun w' => w'.cell? ⟨h, 0, none⟩ = some (.int .u8 (d : Int)) ∧ w'.cell? ⟨h, 1, none⟩ = some (.bool u)) (first | exact ⟨k0 _, k1 _⟩ | exact ⟨c0, c1⟩) (fail)
      clear k0 k1 c0 c1
      have hI6 : IB ((w5.alloc (.cells #[.int .u8 (d : Int), .bool u] 28)).drew) g' d u := Blk.drew (Blk.alloc hI5 _)
      have hR6 : RI ((w5.alloc (.cells #[.int .u8 (d : Int), .bool u] 28)).drew) w5.heap.size d u := Blk.drew (Blk.new _ _ _)
      have hIo6 : IB ((w5.alloc (.cells #[.int .u8 (d : Int), .bool u] 28)).drew) g d u := Blk.drew (Blk.alloc hIo _)
      have hRo6 : RI ((w5.alloc (.cells #[.int .u8 (d : Int), .bool u] 28)).drew) h d u := Blk.drew (Blk.alloc hRo _)
      have hb06 : Below w.heap.size w ((w5.alloc (.cells #[.int .u8 (d : Int), .bool u] 28)).drew) := (hb05.alloc hb05.size _).drew
      have hs5 := hb05.size
      go_wp2_with fail
      generalize (w5.alloc (.cells #[.int .u8 (d : Int), .bool u] 28)).drew = w6 at *
      clear hI5 hIo hRo hb05
      have hpl : Calls Try.prog 8 #[.pointer (some ⟨g', 0, none⟩), .pointer (some ⟨w5.heap.size, 0, none⟩), .slice sb m cm] w6.drew fun e w' => e = .returned (.bool true) ∧ (w'.cell? ⟨h, 0, none⟩ = some (.int .u8 (d : Int)) ∧ w'.cell? ⟨h, 1, none⟩ = some (.bool u)) ∧ IB w' g d u ∧ Below w.heap.size w w' :=
        (play11_calls g' w5.heap.size sb m cm d u Rb Bb w.heap.size w6.drew (by omega) (by omega) (by omega) hd m60 hI6.drew hR6.drew (hSb.below hb06.drew)).mono fun e w' he => by
          obtain ⟨rfl, d', u', _, _, _, ho⟩ := he
          have h1 : RI w' h d u := Blk.only (w := w6.drew) hRo6 ho (by omega)
          exact ⟨rfl, ⟨h1.cell 0, h1.cell 1⟩, Blk.only (w := w6.drew) hIo6 ho (by omega), hb06.drew.trans (ho.below (by exact hb06.size) (fun j e => by omega))⟩
      have e0 : w6.drew.cell? ⟨h, 0, none⟩ = some (.int .u8 (d : Int)) := Blk.cell hRo6 0
      have e1 : w6.drew.cell? ⟨h, 1, none⟩ = some (.bool u) := Blk.cell hRo6 1
      have n1 : ((d : Int) == (d : Int)) = true := beq_self_eq_true _
      have n2 : (u == u) = true := beq_self_eq_true _
      go_region_held3 (fun w' => (w'.cell? ⟨h, 0, none⟩ = some (.int .u8 (d : Int)) ∧ w'.cell? ⟨h, 1, none⟩ = some (.bool u)) ∧ IB w' g d u ∧ Below w.heap.size w w') (first | exact ⟨⟨e0, e1⟩, hIo6.drew, hb06.drew⟩ | assumption) (first
        | (go_at_call 8; refine hpl.mono ?_; rintro e w7 ⟨rfl, hS7⟩)
        | (go_at_call 10; refine (iqDisable_calls g d u _ (hS7.2.1)).mono ?_; rintro e w' ⟨rfl, rfl⟩)
        | (go_at_call 11; refine (iqDue_calls g d u _ (hS7.2.1)).mono ?_; rintro e w' ⟨rfl, rfl⟩))
      all_goals
        go_wp2_with fail
        go_ret
        exact ⟨rfl, hS7.2.2⟩
section
open Go.ChangeShapes Go.WideShapes Go.ChangeAt
variable {H : Type} {enc : TypeId × Value → H} {W : World} {base : Nat}
theorem open_stp {v : Value} {d : DataW H} {p : List MemPlace} (hv : Value.okWide Try.prog W .any base 22 v) (hd : DataW.Trod enc Try.prog W 0 (fun _ => true) true 22 v d p) :
    ∃ (a : Option Addr) (len cap : Nat) (Rg Bv : Nat → Nat), v = .slice a len cap ∧ StpB W a len Rg Bv W.heap.size := by
  obtain ⟨a, len, cap, C, rfl, hr, hl, hm, hf⟩ := open_rows Try.underlying22 Try.underlying49 (by kernel_rfl) (by kernel_rfl) (by decide) hv hd
  refine ⟨a, len, cap, fun i => cellNat (C i 0), fun i => cellNat (C i 1), rfl, fun i hi => ?_⟩
  obtain ⟨b, off, rfl, hlt, hc⟩ := hr i hi
  obtain ⟨_, _, h0⟩ := hf i hi 0 _ rfl
  obtain ⟨_, _, h1⟩ := hf i hi 1 _ rfl
  obtain ⟨x, hx, hxl⟩ := field_u8 Try.underlying5 h0
  obtain ⟨y, hy, hyl⟩ := field_u8 Try.underlying5 h1
  have c0 := hc 0 (by decide)
  have c1 := hc 1 (by decide)
  rw [hx] at c0
  rw [hy] at c1
  refine ⟨b, off, rfl, hlt, ?_, ?_, ?_, ?_⟩
  · simp only [hx, cellNat_int]; exact c0
  · simp only [hy, cellNat_int]; rw [Nat.add_assoc]; exact c1
  · simp only [hx, cellNat_int]; exact hxl
  · simp only [hy, cellNat_int]; exact hyl
theorem walk_IrqChooses {v0 v1 : Value} {d0 d1 : DataW H} {p0 p1 : List MemPlace}
    (_hsh : W.ShapedOpen Try.prog) (_hsz : (DataW.weightsEach Try.prog [22, 22] [d0, d1]).all (· ≤ reachBytes) = true)
    (hv0 : Value.okWide Try.prog W .any base 22 v0) (hd0 : DataW.Trod enc Try.prog W 0 (fun _ => true) true 22 v0 d0 p0) (hv1 : Value.okWide Try.prog W .any base 22 v1) (hd1 : DataW.Trod enc Try.prog W 0 (fun _ => true) true 22 v1 d1 p1) :
    Calls Try.prog 3 #[v0, v1] W fun e W' => e = .returned (.bool true) ∧ Below W.heap.size W W' := by
  obtain ⟨sa, n, cn, Ra, Ba, rfl, hSa⟩ := open_stp hv0 hd0
  obtain ⟨sb, m, cm, Rb, Bb, rfl, hSb⟩ := open_stp hv1 hd1
  exact irqChooses_calls sa sb n cn m cm Ra Ba Rb Bb W hSa hSb
end

end Go.Proofs.Ytichdknfakmjlaa
