/-
  gannetlaw07: LinesGo.
-/
import Derived.Test.YtdnpfddepnefnaaL07b
import Derived.Deep.RegionHeld3
namespace Go.Proofs.Ytdnpfddepnefnaa
open Go.RowKit

/-- What stays while the clone goes on. -/
def PGo (g h : Nat) (o' o : Option Addr) (n c' c s : Nat) (Ln : Nat → Nat) (Up : Nat → Bool) (r : Bool) (w0 w : World) : Prop := LB w g o' n c' s Ln Up r ∧ RL w h o n c s r ∧ Below w0.heap.size w0 w
theorem PGo.seen {g h : Nat} {o' o : Option Addr} {n c' c s : Nat} {Ln : Nat → Nat} {Up : Nat → Bool} {r : Bool} {w0 w : World} (p : PGo g h o' o n c' c s Ln Up r w0 w) : w.cell? ⟨h, 1, none⟩ = some (.int .i64 (s : Int)) := Blk.cell p.2.1 1
theorem PGo.rose {g h : Nat} {o' o : Option Addr} {n c' c s : Nat} {Ln : Nat → Nat} {Up : Nat → Bool} {r : Bool} {w0 w : World} (p : PGo g h o' o n c' c s Ln Up r w0 w) : w.cell? ⟨h, 2, none⟩ = some (.bool r) := Blk.cell p.2.1 2
theorem PGo.all {g h : Nat} {o' o : Option Addr} {n c' c s : Nat} {Ln : Nat → Nat} {Up : Nat → Bool} {r : Bool} {w0 w : World} (p : PGo g h o' o n c' c s Ln Up r w0 w) : w.cell? ⟨h, 1, none⟩ = some (.int .i64 (s : Int)) ∧ w.cell? ⟨h, 2, none⟩ = some (.bool r) ∧ PGo g h o' o n c' c s Ln Up r w0 w := ⟨p.seen, p.rose, p⟩
set_option maxRecDepth 100000 in
set_option maxHeartbeats 4000000 in
theorem linesGo_calls (o : Option Addr) (n c : Nat) (St : Nat → Int) (Ln : Nat → Nat) (Up : Nat → Bool) (a : Option Addr) (m ca : Nat) (T : Nat → Int) (K : Nat → Bool) (b : Option Addr) (m2 cb : Nat) (T2 : Nat → Int) (K2 : Nat → Bool) (w : World) (hE : EdgB w o n St Ln Up w.heap.size) (hS : StpB w a m T K w.heap.size) (hS2 : StpB w b m2 T2 K2 w.heap.size) :
    Calls Try.prog 5 #[.slice o n c, .slice a m ca, .slice b m2 cb] w fun e w' => e = .returned (.bool true) ∧ Below w.heap.size w w' := by
  have hfl := fld_flt
  by_cases h1 : 60 < n
  · have i1 : (60 : Int) < (n : Int) := by omega
    clear hfl
    go_enter Try.func5, Try.ntmps5
    (go_wp2_with fail; refine Cl.m (live07_calls _) ?_; intro w1 hb1)
    (go_wp2_with fail; go_ret; exact ⟨rfl, by (repeat (first | exact Below.refl _ _ | assumption | refine Below.drew ?_ | refine Bl.alloc ?_ _ | refine below_drewN ?_ _ | refine Bl.chain ?_ (by assumption) (Nat.le_refl _)))⟩)
  · have i1 : (decide ((60 : Int) < (n : Int))) = false := by rw [decide_eq_false_iff_not]; omega
    clear h1
    by_cases h2 : 40 < m
    · have i2 : (40 : Int) < (m : Int) := by omega
      clear hfl
      go_enter Try.func5, Try.ntmps5
      (go_wp2_with fail; refine Cl.m (live07_calls _) ?_; intro w1 hb1)
      (go_wp2_with fail; go_ret; exact ⟨rfl, by (repeat (first | exact Below.refl _ _ | assumption | refine Below.drew ?_ | refine Bl.alloc ?_ _ | refine below_drewN ?_ _ | refine Bl.chain ?_ (by assumption) (Nat.le_refl _)))⟩)
    · have i2 : (decide ((40 : Int) < (m : Int))) = false := by rw [decide_eq_false_iff_not]; omega
      by_cases h3 : 40 < m2
      · have i3 : (40 : Int) < (m2 : Int) := by omega
        clear hfl h2
        go_enter Try.func5, Try.ntmps5
        (go_wp2_with fail; refine Cl.m (live07_calls _) ?_; intro w1 hb1)
        (go_wp2_with fail; go_ret; exact ⟨rfl, by (repeat (first | exact Below.refl _ _ | assumption | refine Below.drew ?_ | refine Bl.alloc ?_ _ | refine below_drewN ?_ _ | refine Bl.chain ?_ (by assumption) (Nat.le_refl _)))⟩)
      · have i3 : (decide ((40 : Int) < (m2 : Int))) = false := by rw [decide_eq_false_iff_not]; omega
        have hm : m ≤ 40 := by omega
        have hm2 : m2 ≤ 40 := by omega
        clear h2 h3
        go_enter Try.func5, Try.ntmps5
        (go_wp2_with fail; refine Cl.m (live07_calls _) ?_; intro w1 hb1)
        have hE1 : EdgB w1 o n St Ln Up w1.heap.size := (hE.below hb1 (Nat.le_refl _)).mono hb1.size
        obtain ⟨p, hp⟩ : ∃ p, chkV St Ln n = p := ⟨_, rfl⟩
        obtain ⟨p1, p2⟩ := p
        have hs1 := hb1.size
        by_cases h0 : p1 = 0
        · have hnl := chkV_nil (St := St) (Ln := Ln) (n := n) (by rw [hp]; exact h0)
          have hok := chkV_ok hnl.1
          clear hp
          go_wp2_with fail
          refine (lnNew_calls o n c St Ln Up w1 hE1 (by rw [hnl.1]) hnl.2).mono ?_
          rintro e w2 ⟨g, o', c', rfl, hL2, hG2, hg, hb2⟩
          have hb02 := hb1.trans (hb2.mono hb1.size)
          have hz2 : Blk (w2.alloc (.cells #[.int .i64 0, .int .i64 0] 26)) w2.heap.size 26 #[.int .i64 0, .int .i64 0] := Blk.new _ _ _
          have hL3 : LB (w2.alloc (.cells (fltA (0, 0)) 26)) g o' n c' 0 Ln Up false := Blk.alloc hL2 _
          have hf3 : Only (fun _ => False) w2 (w2.alloc (.cells (fltA (0, 0)) 26)) := (Only.refl _ _).alloc _
          have hb03 : Below w.heap.size w (w2.alloc (.cells (fltA (0, 0)) 26)) := hb02.alloc hb02.size _
          go_wp2_with (refine wpList_store_row rfl 26 _ _ rfl w2.heap.size _ rfl rfl 26 _ hz2 (by kernel_rfl) rfl (by kernel_rfl) ?_; rw [setRow_new])
          generalize w2.alloc (.cells (fltA (0, 0)) 26) = w3 at *
          have hG3 := hG2.only hf3 (fun _ _ e => e)
          clear hz2 hL2 hG2 hE1
          have hE3 : EdgB w3 o n St Ln Up w3.heap.size := (hE.below hb03 (Nat.le_refl _)).mono hb03.size
          have hck := rlCheck_calls o n c St Ln Up w3 hE3
          rw [hnl.1] at hck
          have hck : Calls Try.prog 8 #[.slice o n c] w3 fun e w' => e = .returned (.agg #[.int .i64 0, .int .i64 0]) ∧ Below w3.heap.size w3 w' := hck
          refine Cl.m hck ?_
          intro w4 hb4
          have hL4 := Blk.below hL3 hb4 (Blk.lt hL3)
          have hgl := Blk.lt hL3
          have hG4 := hG3.below hb4 (Nat.le_of_lt hgl)
          have hb04 := hb03.trans (hb4.mono hb03.size)
          have hs4 := hb4.size
          go_wp2_with fail
          have hR5 : RL (w4.alloc (.cells #[.slice o n c, .int .i64 0, .bool false] 36)) w4.heap.size o n c 0 false := Blk.new _ _ _
          have hL5 : LB (w4.alloc (.cells #[.slice o n c, .int .i64 0, .bool false] 36)) g o' n c' 0 Ln Up false := Blk.alloc hL4 _
          have ho5 : Only (fun _ => False) w4 (w4.alloc (.cells #[.slice o n c, .int .i64 0, .bool false] 36)) := (Only.refl _ _).alloc _
          have hb05 : Below w.heap.size w (w4.alloc (.cells #[.slice o n c, .int .i64 0, .bool false] 36)) := hb04.alloc hb04.size _
          obtain ⟨h, hh⟩ : ∃ h, w4.heap.size = h := ⟨_, rfl⟩
          rw [hh] at hR5 ⊢
          generalize w4.alloc (.cells #[.slice o n c, .int .i64 0, .bool false] 36) = w5 at *
          have hG5 := hG4.only ho5 (fun _ _ e => e)
          clear hL3 hG3 hE3 hck hL4 hG4 hb4 ho5 hb04
          have lift : ∀ w', Below w.heap.size w w' → ∀ (a : Option Addr) (m : Nat) (T : Nat → Int) (K : Nat → Bool), StpB w a m T K w.heap.size → StpB w' a m T K w.heap.size := fun w' hb a m T K hS =>
            (hS.only (S := fun j => w.heap.size ≤ j) ⟨hb.os, hb.tape, hb.output, hb.size, fun j hj hs => hb.block j (by omega)⟩ (fun j hj e => by omega))
          have hgh : g < h := by omega
          have hog : 0 < n → ∀ x, o' = some x → ¬ (x.block = g ∨ x.block = h) := fun h0 x hx e => by
            obtain ⟨b, off, ha, hlt, _⟩ := hG5 0 h0
            rw [hx] at ha
            cases ha
            simp only at e
            omega
          have hol : 0 < n → ∀ x, o = some x → x.block < w.heap.size := fun h0 x hx => by
            obtain ⟨b, off, ha, hlt, _⟩ := hE 0 h0
            rw [hx] at ha
            cases ha
            exact hlt
          have hoh : 0 < n → ∀ x, o = some x → ¬ (x.block = g ∨ x.block = h) := fun h0 x hx e => by have := hol h0 x hx; omega
          have hgl5 := Blk.lt hL5
          refine (play07_calls g h o' o n c' c 0 St Ln Up false a m ca T K w.heap.size w5 hok hm (by omega) (by omega) hL5 hR5 (hG5.mono (by omega)) ((hE.below hb05 (Nat.le_refl _)).mono hb05.size) hog hoh (lift w5 hb05 a m T K hS) (by omega) (by omega)).mono ?_
          rintro e w6 ⟨rfl, s, r, hs, hL6, hR6, ho6⟩
          have hb06 := hb05.trans (ho6.below hb05.size (fun j e => by omega))
          have hG6 : EdgB w6 o' n St Ln Up g := hG5.only ho6 (fun j hj e => by omega)
          have hgl6 := Blk.lt hL6
          have hhl6 := Blk.lt hR6
          go_wp2_with fail
          refine (lnClone_calls g o' n c' s St Ln Up r w6 hnl.2 hL6 (hG6.mono (by omega))).mono ?_
          rintro e w7 ⟨g2, o2, c2, rfl, hM7, hJ7, hlo, hg2, hb7⟩
          have hL7 := Blk.below hL6 hb7 hgl6
          have hR7 := Blk.below hR6 hb7 hhl6
          have hb07 := hb06.trans (hb7.mono hb06.size)
          have hgl7 := Blk.lt hM7
          go_wp2_with fail
          refine (rlCopy_calls h o n c s r w7 hR7).mono ?_
          rintro e w8 ⟨h2, rfl, hX8, hh2, hb8⟩
          have hL8 := Blk.below hL7 hb8 (Blk.lt hL7)
          have hR8 := Blk.below hR7 hb8 (Blk.lt hR7)
          have hM8 := Blk.below hM7 hb8 (Blk.lt hM7)
          have hb08 := hb07.trans (hb8.mono hb07.size)
          have hJ8 := hJ7.below hb8 (Nat.le_refl _)
          have hb08d := hb08.drew
          have hog2 : 0 < n → ∀ x, o2 = some x → ¬ (x.block = g2 ∨ x.block = h2) := fun h0 x hx e => by
            obtain ⟨b, off, ha, hlt, _⟩ := hJ8 0 h0
            have := hlo x hx
            rw [hx] at ha
            cases ha
            simp only at e this
            omega
          have hoh2 : 0 < n → ∀ x, o = some x → ¬ (x.block = g2 ∨ x.block = h2) := fun h0 x hx e => by have := hol h0 x hx; omega
          have hs8 := hb8.size
          have hPl := play07_calls g2 h2 o2 o n c2 c s St Ln Up r b m2 cb T2 K2 w.heap.size w8.drew hok hm2 (by omega) hs hM8 hX8 (hJ8.mono hs8) ((hE.below hb08d (Nat.le_refl _)).mono hb08d.size) hog2 hoh2 (lift w8.drew hb08d b m2 T2 K2 hS2) (by omega) (by omega)
          have hP8 : PGo g h o' o n c' c s Ln Up r w w8.drew := ⟨hL8, hR8, hb08d⟩
          have hPP : ∀ w9, Only (fun b => b = g2 ∨ b = h2) w8.drew w9 → PGo g h o' o n c' c s Ln Up r w w9 := fun w9 ho9 => ⟨Blk.only (w := w8.drew) hL8 ho9 (by omega), Blk.only (w := w8.drew) hR8 ho9 (by omega), hb08d.trans (ho9.below hb08d.size (fun j e => by have := hb06.size; omega))⟩
          have z3 : ((s : Int) == (s : Int)) = true := beq_self_eq_true _
          have z4 : (r == r) = true := beq_self_eq_true _
          clear hog hol hoh lift hS hS2 hJ8 hM8 hX8 hL8 hR8 hM7 hL7 hR7 hJ7 hlo hb7 hb8 hG6 ho6 hL6 hR6 hL5 hR5 hG5 hb05 hog2 hoh2 hE hb1 hb02 hb2 hf3 hb03
          go_wp2_with fail
          go_region_held3 (fun w' => w'.cell? ⟨h, 1, none⟩ = some (.int .i64 (s : Int)) ∧ w'.cell? ⟨h, 2, none⟩ = some (.bool r) ∧ PGo g h o' o n c' c s Ln Up r w w')
            (first | exact PGo.all (by assumption))
            (first
            | (go_at_call 13; refine hPl.mono ?_; rintro e w9 ⟨rfl, s9, r9, _, _, _, ho9⟩; have hP9 := hPP w9 ho9; clear hP8)
            | (go_at_call 16; refine Cl.p (lnSeen_calls g o' n c' s Ln Up r _ hP9.1) ?_)
            | (go_at_call 17; refine Cl.p (lnRose_calls g o' n c' s Ln Up r _ hP9.1) ?_))
          all_goals
            go_wp2_with fail
            go_ret
            exact ⟨rfl, hP9.2.2⟩
        · have hnb := lnNew_bad o n c St Ln Up w1 hE1 (by rw [hp]; exact h0)
          rw [hp] at hnb
          have z3 : ((p1 : Int) != 0) = true := by rw [bne_iff_ne]; omega
          go_wp2_with fail
          refine Cl.m hnb ?_
          intro w2 hb2
          have hb02 := hb1.trans (hb2.mono hb1.size)
          have hz2 : Blk (w2.alloc (.cells #[.int .i64 0, .int .i64 0] 26)) w2.heap.size 26 #[.int .i64 0, .int .i64 0] := Blk.new _ _ _
          have hF3 : Blk (w2.alloc (.cells (fltA (p1, p2)) 26)) w2.heap.size 26 (fltA (p1, p2)) := Blk.new _ _ _
          have hb03 : Below w.heap.size w (w2.alloc (.cells (fltA (p1, p2)) 26)) := hb02.alloc hb02.size _
          go_wp2_with (refine wpList_store_row rfl 26 _ _ rfl w2.heap.size _ rfl rfl 26 _ hz2 (by kernel_rfl) rfl (by kernel_rfl) ?_; rw [setRow_new])
          generalize w2.alloc (.cells (fltA (p1, p2)) 26) = w3 at *
          have hE3 : EdgB w3 o n St Ln Up w3.heap.size := (hE.below hb03 (Nat.le_refl _)).mono hb03.size
          have hck := rlCheck_calls o n c St Ln Up w3 hE3
          rw [hp] at hck
          have hck : Calls Try.prog 8 #[.slice o n c] w3 fun e w' => e = .returned (.agg #[.int .i64 (p1 : Int), .int .i64 (p2 : Int)]) ∧ Below w3.heap.size w3 w' := hck
          refine Cl.m hck ?_
          intro w4 hb4
          have hF4 := hF3.below hb4 hF3.lt
          have hb04 := hb03.trans (hb4.mono hb03.size)
          have q0 : w4.cell? ⟨w2.heap.size, 0, none⟩ = some (.int .i64 (p1 : Int)) := Blk.cell hF4 0
          go_wp2_with fail
          go_ret
          exact ⟨rfl, hb04⟩
section
open Go.ChangeShapes Go.WideShapes Go.ChangeAt
variable {H : Type} {enc : TypeId × Value → H} {W : World} {base : Nat}
theorem open_stp {v : Value} {d : DataW H} {p : List MemPlace} (hv : Value.okWide Try.prog W .any base 33 v) (hd : DataW.Trod enc Try.prog W 0 (fun _ => true) true 33 v d p) :
    ∃ (a : Option Addr) (len cap : Nat) (T : Nat → Int) (K : Nat → Bool), v = .slice a len cap ∧ StpB W a len T K W.heap.size := by
  obtain ⟨a, len, cap, C, rfl, hr, hl, hm, hf⟩ := open_rows Try.underlying33 Try.underlying56 (by kernel_rfl) (by kernel_rfl) (by decide) hv hd
  refine ⟨a, len, cap, fun i => cellInt (C i 0), fun i => cellBool (C i 1), rfl, fun i hi => ?_⟩
  obtain ⟨b, off, rfl, hlt, hc⟩ := hr i hi
  obtain ⟨_, _, h0⟩ := hf i hi 0 _ rfl
  obtain ⟨_, _, h1⟩ := hf i hi 1 _ rfl
  obtain ⟨s, hs, _⟩ := field_i64 Try.underlying2 h0
  obtain ⟨u, hu⟩ := field_bool Try.underlying4 h1
  have c0 := hc 0 (by decide)
  have c1 := hc 1 (by decide)
  rw [hs] at c0
  rw [hu] at c1
  refine ⟨b, off, rfl, hlt, ?_, ?_⟩
  · simp only [hs, cellInt]; exact c0
  · simp only [hu, cellBool]; rw [Nat.add_assoc]; exact c1
theorem walk_LinesGo {v0 v1 v2 : Value} {d0 d1 d2 : DataW H} {p0 p1 p2 : List MemPlace}
    (_hsh : W.ShapedOpen Try.prog) (_hsz : (DataW.weightsEach Try.prog [22, 33, 33] [d0, d1, d2]).all (· ≤ reachBytes) = true)
    (hv0 : Value.okWide Try.prog W .any base 22 v0) (hd0 : DataW.Trod enc Try.prog W 0 (fun _ => true) true 22 v0 d0 p0) (hv1 : Value.okWide Try.prog W .any base 33 v1) (hd1 : DataW.Trod enc Try.prog W 0 (fun _ => true) true 33 v1 d1 p1) (hv2 : Value.okWide Try.prog W .any base 33 v2) (hd2 : DataW.Trod enc Try.prog W 0 (fun _ => true) true 33 v2 d2 p2) :
    Calls Try.prog 5 #[v0, v1, v2] W fun e W' => e = .returned (.bool true) ∧ Below W.heap.size W W' := by
  obtain ⟨a0, n0, c0, St, Ln, Up, rfl, hE, hn, _⟩ := open_edges hv0 hd0
  obtain ⟨a1, n1, c1, T1, K1, rfl, hS1⟩ := open_stp hv1 hd1
  obtain ⟨a2, n2, c2, T2, K2, rfl, hS2⟩ := open_stp hv2 hd2
  exact linesGo_calls a0 n0 c0 St Ln Up a1 n1 c1 T1 K1 a2 n2 c2 T2 K2 W hE hS1 hS2
end
end Go.Proofs.Ytdnpfddepnefnaa
