/-
  gannetlaw18: MmuMoves.
-/
import Derived.Test.YtjaibacpojpfhaaL18d
namespace Go.Proofs.Ytjaibacpojpfhaa
open Go.RowKit Pl

theorem eqBk2 (A : Nat → Nat) (W : World) : (binOp .eql 22 (.agg (bk8 A)) (.agg #[.int .u8 (A 0 : Int), .int .u8 (A 1 : Int), .int .u8 (A 2 : Int), .int .u8 (A 3 : Int), .int .u8 (A 4 : Int), .int .u8 (A 5 : Int), .int .u8 (A 6 : Int), .int .u8 (A 7 : Int)])).run Try.prog W = .ok (.bool true) W := eqBk A (fun i => (A i : Int)) true (by simp) W
set_option maxRecDepth 100000 in
set_option maxHeartbeats 16000000 in
theorem mmuMoves_calls (a b : Option Addr) (n m ca cb l : Nat) (A K M V K2 M2 V2 : Nat → Nat) (w : World) (hS : SteB w a n K M V w.heap.size) (hT : SteB w b m K2 M2 V2 w.heap.size) :
    Calls Try.prog 3 #[.agg (bk8 A), .int .u8 (l : Int), .slice a n ca, .slice b m cb] w fun e w' => e = .returned (.bool true) ∧ Below w.heap.size w w' := by
  by_cases hn : 200 < n
  · have i1 : (200 : Int) < (n : Int) := by omega
    go_enter Try.func3, Try.ntmps3
    (go_wp2_with fail; refine Cl.m (live18_calls _) ?_; intro w1 hb1)
    (go_wp2_with fail; go_ret; exact ⟨rfl, by (repeat (first | exact Below.refl _ _ | assumption | refine Below.drew ?_ | refine Bl.alloc ?_ _ | refine below_drewN ?_ _ | refine Bl.chain ?_ (by assumption) (Nat.le_refl _)))⟩)
  · have i1 : (decide ((200 : Int) < (n : Int))) = false := by rw [decide_eq_false_iff_not]; omega
    by_cases hm : 200 < m
    · have i2 : (200 : Int) < (m : Int) := by omega
      clear hn
      go_enter Try.func3, Try.ntmps3
      (go_wp2_with fail; refine Cl.m (live18_calls _) ?_; intro w1 hb1)
      (go_wp2_with fail; go_ret; exact ⟨rfl, by (repeat (first | exact Below.refl _ _ | assumption | refine Below.drew ?_ | refine Bl.alloc ?_ _ | refine below_drewN ?_ _ | refine Bl.chain ?_ (by assumption) (Nat.le_refl _)))⟩)
    · have i2 : (decide ((200 : Int) < (m : Int))) = false := by rw [decide_eq_false_iff_not]; omega
      have hn2 : n ≤ 200 := by omega
      have hm2 : m ≤ 200 := by omega
      clear hn hm
      have hX0 : Blk (w.alloc (.cells (bk8 A) 22)) w.heap.size 22 (bk8 A) := Blk.new _ _ _
      have hbA : Below w.heap.size w (w.alloc (.cells (bk8 A) 22)) := Bl.alloc (Below.refl _ _) _
      go_enter Try.func3, Try.ntmps3
      (go_wp2_with fail; refine Cl.m (live18_calls _) ?_; intro w1 hb1)
      have hX1 := hX0.below hb1 hX0.lt
      have hb01 : Below w.heap.size w w1 := hbA.trans (hb1.mono hbA.size)
      go_wp2_with (refine wpList_load_row rfl 22 _ rfl w.heap.size rfl _ (bk8 A) (0, 0) _ hX1 Try.underlying22 rfl (by kernel_rfl) ?_)
      refine (mmOf_calls l A _).mono ?_
      rintro e w2 ⟨g, rfl, hM2, hg, hb2⟩
      have hX2 := hX1.below hb2 hX1.lt
      have hb02 : Below w.heap.size w w2 := hb01.trans (hb2.mono hb01.size)
      have hgX : w.heap.size < g := Nat.lt_of_lt_of_le hX1.lt hg
      have hxx := fun n (h : n < 8) => (hX2.cell n).trans (bk8_get A n h)
      have x0 := hxx 0 (by omega)
      have x1 := hxx 1 (by omega)
      have x2 := hxx 2 (by omega)
      have x3 := hxx 3 (by omega)
      have x4 := hxx 4 (by omega)
      have x5 := hxx 5 (by omega)
      have x6 := hxx 6 (by omega)
      have x7 := hxx 7 (by omega)
      clear hxx
      go_wp2_with fail
      have hR3 : RM (w2.alloc (.cells #[.int .u8 (A 0 : Int), .int .u8 (A 1 : Int), .int .u8 (A 2 : Int), .int .u8 (A 3 : Int), .int .u8 (A 4 : Int), .int .u8 (A 5 : Int), .int .u8 (A 6 : Int), .int .u8 (A 7 : Int), .int .u8 (l : Int)] 29)) w2.heap.size A l := Blk.new _ _ _
      have hM3 : MB (w2.alloc (.cells #[.int .u8 (A 0 : Int), .int .u8 (A 1 : Int), .int .u8 (A 2 : Int), .int .u8 (A 3 : Int), .int .u8 (A 4 : Int), .int .u8 (A 5 : Int), .int .u8 (A 6 : Int), .int .u8 (A 7 : Int), .int .u8 (l : Int)] 29)) g A l := Blk.alloc hM2 _
      have hb03 : Below w.heap.size w (w2.alloc (.cells #[.int .u8 (A 0 : Int), .int .u8 (A 1 : Int), .int .u8 (A 2 : Int), .int .u8 (A 3 : Int), .int .u8 (A 4 : Int), .int .u8 (A 5 : Int), .int .u8 (A 6 : Int), .int .u8 (A 7 : Int), .int .u8 (l : Int)] 29)) := Bl.alloc hb02 _
      have hgh : g < w2.heap.size := hM2.lt
      generalize hh : w2.heap.size = h at *
      generalize (w2.alloc (.cells #[.int .u8 (A 0 : Int), .int .u8 (A 1 : Int), .int .u8 (A 2 : Int), .int .u8 (A 3 : Int), .int .u8 (A 4 : Int), .int .u8 (A 5 : Int), .int .u8 (A 6 : Int), .int .u8 (A 7 : Int), .int .u8 (l : Int)] 29)) = w3 at *
      clear x0 x1 x2 x3 x4 x5 x6 x7 hX0 hX1 hX2 hbA hb1 hb2 hb01 hb02
      have lift : ∀ w', Below w.heap.size w w' → ∀ (a : Option Addr) (n : Nat) (K M V : Nat → Nat) (B : Nat), SteB w a n K M V w.heap.size → w.heap.size ≤ B → SteB w' a n K M V B := fun w' hb a n K M V B hS hB =>
        (hS.only (S := fun j => w.heap.size ≤ j) ⟨hb.os, hb.tape, hb.output, hb.size, fun j hj hs => hb.block j (by omega)⟩ (fun j hj e => by omega)).mono hB
      refine (play18_calls g h a n ca l K M V A w3 hn2 hgh hM3 hR3 (lift w3 hb03 a n K M V g hS (by omega))).mono ?_
      rintro e w4 ⟨rfl, B, q, hM4, hR4, ho4⟩
      have hb04 : Below w.heap.size w w4 := hb03.trans (ho4.below hb03.size (fun j e => by omega))
      go_wp2_with fail
      refine (mmClone_calls g q B w4 hM4).mono ?_
      rintro e w6 ⟨g', rfl, hG6, hg6, hb6⟩
      have hM6 : MB w6 g B q := Blk.below hM4 hb6 hM4.lt
      have hR6 : RM w6 h B q := Blk.below hR4 hb6 hR4.lt
      have hb06 : Below w.heap.size w w6 := hb04.trans (hb6.mono hb04.size)
      have hhg : h < g' := Nat.lt_of_lt_of_le hR4.lt hg6
      have hR6d : RM w6.drew h B q := hR6
      have kB : ∀ o : Obj, (w6.alloc o).drew.cell? ⟨h, 0, none⟩ = some (.int .u8 (B 0 : Int)) ∧ (w6.alloc o).drew.cell? ⟨h, 1, none⟩ = some (.int .u8 (B 1 : Int)) ∧ (w6.alloc o).drew.cell? ⟨h, 2, none⟩ = some (.int .u8 (B 2 : Int)) ∧ (w6.alloc o).drew.cell? ⟨h, 3, none⟩ = some (.int .u8 (B 3 : Int)) ∧ (w6.alloc o).drew.cell? ⟨h, 4, none⟩ = some (.int .u8 (B 4 : Int)) ∧ (w6.alloc o).drew.cell? ⟨h, 5, none⟩ = some (.int .u8 (B 5 : Int)) ∧ (w6.alloc o).drew.cell? ⟨h, 6, none⟩ = some (.int .u8 (B 6 : Int)) ∧ (w6.alloc o).drew.cell? ⟨h, 7, none⟩ = some (.int .u8 (B 7 : Int)) ∧ (w6.alloc o).drew.cell? ⟨h, 8, none⟩ = some (.int .u8 (q : Int)) := fun o => RM.nine (w := (w6.alloc o).drew) (Blk.alloc hR6 o)
      clear hM3 hR3 ho4 hM4 hR4 hb6 hb03 hb04
      go_wp2_with fail
      go_region_held3 (fun w' => w'.cell? ⟨h, 0, none⟩ = some (.int .u8 (B 0 : Int)) ∧ w'.cell? ⟨h, 1, none⟩ = some (.int .u8 (B 1 : Int)) ∧ w'.cell? ⟨h, 2, none⟩ = some (.int .u8 (B 2 : Int)) ∧ w'.cell? ⟨h, 3, none⟩ = some (.int .u8 (B 3 : Int)) ∧ w'.cell? ⟨h, 4, none⟩ = some (.int .u8 (B 4 : Int)) ∧ w'.cell? ⟨h, 5, none⟩ = some (.int .u8 (B 5 : Int)) ∧ w'.cell? ⟨h, 6, none⟩ = some (.int .u8 (B 6 : Int)) ∧ w'.cell? ⟨h, 7, none⟩ = some (.int .u8 (B 7 : Int)) ∧ w'.cell? ⟨h, 8, none⟩ = some (.int .u8 (q : Int))) (first | exact kB _ | exact RM.nine hR6d) (fail)
      have hX8 : RM (w6.alloc (.cells #[.int .u8 (B 0 : Int), .int .u8 (B 1 : Int), .int .u8 (B 2 : Int), .int .u8 (B 3 : Int), .int .u8 (B 4 : Int), .int .u8 (B 5 : Int), .int .u8 (B 6 : Int), .int .u8 (B 7 : Int), .int .u8 (q : Int)] 29)).drew w6.heap.size B q := Blk.new _ _ _
      have ho8 : Only (fun _ => False) w6 (w6.alloc (.cells #[.int .u8 (B 0 : Int), .int .u8 (B 1 : Int), .int .u8 (B 2 : Int), .int .u8 (B 3 : Int), .int .u8 (B 4 : Int), .int .u8 (B 5 : Int), .int .u8 (B 6 : Int), .int .u8 (B 7 : Int), .int .u8 (q : Int)] 29)).drew := ((Only.refl _ _).alloc _).drew
      have hgl : g' < w6.heap.size := hG6.lt
      generalize hh8 : w6.heap.size = h' at *
      generalize (w6.alloc (.cells #[.int .u8 (B 0 : Int), .int .u8 (B 1 : Int), .int .u8 (B 2 : Int), .int .u8 (B 3 : Int), .int .u8 (B 4 : Int), .int .u8 (B 5 : Int), .int .u8 (B 6 : Int), .int .u8 (B 7 : Int), .int .u8 (q : Int)] 29)).drew = w8 at *
      have hG8 : MB w8 g' B q := Blk.only hG6 ho8 (fun e => e)
      have hM8 : MB w8 g B q := Blk.only hM6 ho8 (fun e => e)
      have hR8 : RM w8 h B q := Blk.only hR6 ho8 (fun e => e)
      have hb08 : Below w.heap.size w w8 := hb06.trans (ho8.below hb06.size (fun _ e => e.elim))
      have hb08d : Below w.heap.size w w8.drew := Below.drew hb08
      have hPl := play18_calls g' h' b m cb q K2 M2 V2 B w8.drew hm2 hgl hG8 hX8 (lift w8.drew hb08d b m K2 M2 V2 g' hT (by omega))
      have hRd : RM w8.drew h B q := hR8
      have hMd : MB w8.drew g B q := hM8
      have hEq := eqBk2 B
      have zq : ((q : Int) == (q : Int)) = true := beq_self_eq_true _
      clear kB hG6 hM6 hR6 hR6d hX8 ho8 hG8 hM8 hR8 lift hS hT
      go_wp2_with fail
      go_region_held3 (fun w' => w'.cell? ⟨h, 0, none⟩ = some (.int .u8 (B 0 : Int)) ∧ w'.cell? ⟨h, 1, none⟩ = some (.int .u8 (B 1 : Int)) ∧ w'.cell? ⟨h, 2, none⟩ = some (.int .u8 (B 2 : Int)) ∧ w'.cell? ⟨h, 3, none⟩ = some (.int .u8 (B 3 : Int)) ∧ w'.cell? ⟨h, 4, none⟩ = some (.int .u8 (B 4 : Int)) ∧ w'.cell? ⟨h, 5, none⟩ = some (.int .u8 (B 5 : Int)) ∧ w'.cell? ⟨h, 6, none⟩ = some (.int .u8 (B 6 : Int)) ∧ w'.cell? ⟨h, 7, none⟩ = some (.int .u8 (B 7 : Int)) ∧ w'.cell? ⟨h, 8, none⟩ = some (.int .u8 (q : Int))) (first | exact RM.nine hRa | exact RM.nine hR9 | exact RM.nine hRd)
        (first
        | (go_at_call 9; refine hPl.mono ?_; rintro e w9 ⟨rfl, B9, q9, _, _, ho9⟩; have hM9 : MB w9 g B q := Blk.only hMd ho9 (by omega); have hR9 : RM w9 h B q := Blk.only hRd ho9 (by omega))
        | (go_at_call 11; refine Cl.m (mmBanks_calls g q B _ hM9) ?_; intro wa hba; have hMa : MB wa g B q := Blk.below hM9 hba (Blk.lt hM9); have hRa : RM wa h B q := Blk.below hR9 hba (Blk.lt hR9))
        | (go_at_call 12; refine Cl.p (mmLast_calls g q B _ hMa) ?_))
      all_goals
        go_wp2_with fail
        go_ret
        exact ⟨rfl, (hb08d.trans (ho9.below hb08d.size (fun j e => by omega))).trans (hba.mono (by have := hb08d.size; have := ho9.size; omega))⟩
section
open Go.ChangeShapes Go.WideShapes Go.ChangeAt
variable {H : Type} {enc : TypeId × Value → H} {W : World} {base : Nat}
theorem open_ste {v : Value} {d : DataW H} {p : List MemPlace} (hv : Value.okWide Try.prog W .any base 23 v) (hd : DataW.Trod enc Try.prog W 0 (fun _ => true) true 23 v d p) :
    ∃ (a : Option Addr) (len cap : Nat) (K M V : Nat → Nat), v = .slice a len cap ∧ SteB W a len K M V W.heap.size := by
  obtain ⟨a, len, cap, C, rfl, hr, hl, hm, hf⟩ := open_rows Try.underlying23 Try.underlying55 (by kernel_rfl) (by kernel_rfl) (by decide) hv hd
  refine ⟨a, len, cap, fun i => cellNat (C i 0), fun i => cellNat (C i 1), fun i => cellNat (C i 2), rfl, fun i hi => ?_⟩
  obtain ⟨b, off, rfl, hlt, hc⟩ := hr i hi
  obtain ⟨_, _, h0⟩ := hf i hi 0 _ rfl
  obtain ⟨_, _, h1⟩ := hf i hi 1 _ rfl
  obtain ⟨_, _, h2⟩ := hf i hi 2 _ rfl
  obtain ⟨x, hx, hxl⟩ := field_u8 Try.underlying5 h0
  obtain ⟨y, hy, hyl⟩ := field_u8 Try.underlying5 h1
  obtain ⟨z, hz, hzl⟩ := field_u8 Try.underlying5 h2
  have c0 := hc 0 (by decide)
  have c1 := hc 1 (by decide)
  have c2 := hc 2 (by decide)
  rw [hx] at c0
  rw [hy] at c1
  rw [hz] at c2
  refine ⟨b, off, rfl, hlt, ?_, ?_, ?_, ?_, ?_⟩
  · simp only [hx, cellNat_int]; exact c0
  · simp only [hy, cellNat_int]; rw [Nat.add_assoc]; exact c1
  · simp only [hz, cellNat_int]; rw [Nat.add_assoc]; exact c2
  · simp only [hx, cellNat_int]; exact hxl
  · simp only [hy, cellNat_int]; exact hyl
theorem walk_MmuMoves {v0 v1 v2 v3 : Value} {d0 d1 d2 d3 : DataW H} {p0 p1 p2 p3 : List MemPlace}
    (_hsh : W.ShapedOpen Try.prog) (_hsz : (DataW.weightsEach Try.prog [22, 5, 23, 23] [d0, d1, d2, d3]).all (· ≤ reachBytes) = true)
    (hv0 : Value.okWide Try.prog W .any base 22 v0) (hd0 : DataW.Trod enc Try.prog W 0 (fun _ => true) true 22 v0 d0 p0) (hv1 : Value.okWide Try.prog W .any base 5 v1) (hd1 : DataW.Trod enc Try.prog W 0 (fun _ => true) true 5 v1 d1 p1) (hv2 : Value.okWide Try.prog W .any base 23 v2) (hd2 : DataW.Trod enc Try.prog W 0 (fun _ => true) true 23 v2 d2 p2) (hv3 : Value.okWide Try.prog W .any base 23 v3) (hd3 : DataW.Trod enc Try.prog W 0 (fun _ => true) true 23 v3 d3 p3) :
    Calls Try.prog 3 #[v0, v1, v2, v3] W fun e W' => e = .returned (.bool true) ∧ Below W.heap.size W W' := by
  obtain ⟨l0, rfl, hl0⟩ := open_arr Try.underlying22 Try.underlying5 (by kernel_rfl) (by kernel_rfl) hv0 hd0
  obtain ⟨x1, rfl, h1⟩ := open_u8 Try.underlying5 hv1 hd1
  obtain ⟨a2, n2, c2, K2, M2, V2, rfl, hS2⟩ := open_ste hv2 hd2
  obtain ⟨a3, n3, c3, K3, M3, V3, rfl, hS3⟩ := open_ste hv3 hd3
  have e8 : arr 8 (fun i => Value.int .u8 (l0 i)) = bk8 (fun i => (l0 i).toNat) := by
    show _ = arr 8 (fun i => Value.int .u8 (((l0 i).toNat : Nat) : Int))
    refine arr_congr fun i hi => ?_
    have := bounds_u8 (hl0 i hi)
    rw [Int.toNat_of_nonneg (by omega)]
  rw [e8]
  exact mmuMoves_calls a2 a3 n2 n3 c2 c3 x1 _ K2 M2 V2 K3 M3 V3 W hS2 hS3
end
end Go.Proofs.Ytjaibacpojpfhaa
