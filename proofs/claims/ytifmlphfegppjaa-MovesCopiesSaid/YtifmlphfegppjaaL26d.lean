/-
  gannetlaw26: MovesParts, MovesWays.
-/
import Derived.Test.YtifmlphfegppjaaL26c
namespace Go.Proofs.Ytifmlphfegppjaa
open Go.RowKit

theorem mvAtN_calls (k f t i : Nat) (w : World) (hk : k < 5) (hf : f < 65536) (ht : t < 65536) (hi : i < 9223372036854775808) :
    Calls Try.prog 12 #[.int .u8 (k : Int), .int .u16 (f : Int), .int .u16 (t : Int), .int .i64 (i : Int)] w fun e w' => e = .returned (.tuple #[.agg #[.int .u16 (wyF k f (i % 65536) : Nat), .int .u16 (wyT k t (i % 65536) : Nat)], .bool true]) ∧ Below w.heap.size w w' := by
  have i1 : (decide ((5 : Int) ≤ (k : Int))) = false := by rw [decide_eq_false_iff_not]; omega
  have i2 : (decide ((i : Int) < 0)) = false := by rw [decide_eq_false_iff_not]; omega
  have hB : Below w.heap.size w (w.alloc (.cells #[.int .u16 0, .int .u16 0] 36)) := (Below.refl _ _).alloc (Nat.le_refl _) _
  have hz : Blk (w.alloc (.cells #[.int .u16 0, .int .u16 0] 36)) w.heap.size 36 #[.int .u16 0, .int .u16 0] := Blk.new _ _ _
  go_enter Try.func12, Try.ntmps12
  go_wp2_with fail
  refine Cl.m (mvWay_calls k f t (i % 65536) _ _ (by first | omega | (simp only [IntKind.wrap_u16]; omega)) hk hf ht (by omega)) ?_
  intro w1 hb1
  have hz1 := hz.below hb1 hz.lt
  have hb2 : Below w.heap.size w w1 := hB.trans (hb1.mono (by simp))
  go_wp2_with (refine wpList_store_row rfl 36 _ _ rfl w.heap.size _ rfl rfl 36 _ hz1 (by kernel_rfl) rfl (by kernel_rfl) ?_)
  refine bodyPost_ret (results_ct rfl rfl (hz1.setRow _) Try.underlying36 rfl (by kernel_rfl)) rfl ⟨rfl, below_setRow hb2 (Nat.le_refl _) _⟩
theorem mvAtBad_calls (k : Nat) (f t i : Int) (w : World) (h : 5 ≤ k ∨ i < 0) :
    Calls Try.prog 12 #[.int .u8 (k : Int), .int .u16 f, .int .u16 t, .int .i64 i] w fun e w' => e = .returned (.tuple #[.agg #[.int .u16 0, .int .u16 0], .bool false]) ∧ Below w.heap.size w w' := by
  by_cases hk : 5 ≤ k
  · have i1 : (5 : Int) ≤ (k : Int) := by omega
    clear h
    go_enter Try.func12, Try.ntmps12
    go_wp2_with fail
    refine bodyPost_ret (results_ct rfl rfl (heap_alloc_new w _) Try.underlying36 rfl (by kernel_rfl)) rfl ⟨rfl, (Below.refl _ _).alloc (Nat.le_refl _) _⟩
  · have i1 : (decide ((5 : Int) ≤ (k : Int))) = false := by rw [decide_eq_false_iff_not]; omega
    have i2 : i < 0 := by omega
    clear h hk
    go_enter Try.func12, Try.ntmps12
    go_wp2_with fail
    refine bodyPost_ret (results_ct rfl rfl (heap_alloc_new w _) Try.underlying36 rfl (by kernel_rfl)) rfl ⟨rfl, (Below.refl _ _).alloc (Nat.le_refl _) _⟩
set_option maxHeartbeats 4000000 in
theorem rAtN_calls (k f t i : Nat) (w : World) (hk : k < 5) (hf : f < 65536) (ht : t < 65536) (hi : i < 9223372036854775808) :
    Calls Try.prog 10 #[.int .u8 (k : Int), .int .u16 (f : Int), .int .u16 (t : Int), .int .i64 (i : Int)] w fun e w' => e = .returned (.tuple #[.int .u16 (wyF k f (i % 65536) : Nat), .int .u16 (wyT k t (i % 65536) : Nat)]) ∧ w = w' := by
  have hk5 : k = 0 ∨ k = 1 ∨ k = 2 ∨ k = 3 ∨ k = 4 := by omega
  rcases hk5 with rfl | rfl | rfl | rfl | rfl
  all_goals
    go_enter Try.func10, Try.ntmps10
    go_wp2_with fail
    go_ret2
    refine ⟨ret_two ?_ ?_, rfl⟩
    · unfold wyF
      first | omega | (simp only [IntKind.wrap_u16]; omega) | (dsimp only; omega)
    · unfold wyT
      first | rfl | omega | (simp only [IntKind.wrap_u16]; omega) | (dsimp only; omega)
theorem mvEnds_calls (k f t l : Nat) (w : World) (hk : k < 5) (hf : f < 65536) (ht : t < 65536) (hl : l < 65536) :
    Calls Try.prog 14 #[.int .u8 (k : Int), .int .u16 (f : Int), .int .u16 (t : Int), .int .u16 (l : Int)] w fun e w' => e = .returned (.tuple #[.int .u16 (wyF k f (cnt l % 65536) : Nat), .int .u16 (wyT k t (cnt l % 65536) : Nat), .bool true]) ∧ Below w.heap.size w w' := by
  have hcl := cnt_b l hl
  go_enter Try.func14, Try.ntmps14
  (go_wp2_with fail; refine Cl.p (mvCount_calls l _ hl) ?_)
  go_wp2_with fail
  refine Cl.m (mvAtN_calls k f t (cnt l) _ hk hf ht (by omega)) ?_
  intro w1 hb1
  generalize hF : wyF k f (cnt l % 65536) = F
  generalize hT : wyT k t (cnt l % 65536) = T
  have hz : Blk (w1.alloc (.cells #[.int .u16 (F : Int), .int .u16 (T : Int)] 36)) w1.heap.size 36 #[.int .u16 (F : Int), .int .u16 (T : Int)] := Blk.new _ _ _
  have c0 := hz.cell 0
  have c1 := hz.cell 1
  go_wp2_with fail
  go_quiet (fail)
  go_wp2_with fail
  refine bodyPost_ret (results_tmp3 rfl _ _ _) rfl ?_
  subst hF hT
  exact ⟨rfl, by (repeat (first | exact Below.refl _ _ | assumption | refine Below.drew ?_ | refine Bl.alloc ?_ _ | refine below_drewN ?_ _ | refine Bl.chain ?_ (by assumption) (Nat.le_refl _)))⟩
theorem mvEndsBad_calls (k f t l : Nat) (w : World) (hk : 5 ≤ k) (hl : l < 65536) :
    Calls Try.prog 14 #[.int .u8 (k : Int), .int .u16 (f : Int), .int .u16 (t : Int), .int .u16 (l : Int)] w fun e w' => e = .returned (.tuple #[.int .u16 0, .int .u16 0, .bool false]) ∧ Below w.heap.size w w' := by
  have hcl := cnt_b l hl
  go_enter Try.func14, Try.ntmps14
  (go_wp2_with fail; refine Cl.p (mvCount_calls l _ hl) ?_)
  go_wp2_with fail
  refine Cl.m (mvAtBad_calls k f t (cnt l) _ (Or.inl hk)) ?_
  intro w1 hb1
  go_wp2_with fail
  go_quiet (fail)
  go_wp2_with fail
  refine bodyPost_ret (results_tmp3 rfl _ _ _) rfl ?_
  exact ⟨rfl, by (repeat (first | exact Below.refl _ _ | assumption | refine Below.drew ?_ | refine Bl.alloc ?_ _ | refine below_drewN ?_ _ | refine Bl.chain ?_ (by assumption) (Nat.le_refl _)))⟩
theorem mvAllBad_calls (k f t l : Nat) (w : World) (hk : 5 ≤ k) :
    Calls Try.prog 13 #[.int .u8 (k : Int), .int .u16 (f : Int), .int .u16 (t : Int), .int .u16 (l : Int)] w fun e w' => e = .returned (.slice none 0 0) ∧ w = w' := by
  have i1 : (5 : Int) ≤ (k : Int) := by omega
  go_enter Try.func13, Try.ntmps13
  go_wp2_with fail
  go_ret
  exact ⟨rfl, rfl⟩
set_option maxRecDepth 100000 in
set_option maxHeartbeats 8000000 in
theorem movesParts_calls (k0 f t a b : Nat) (o : Option Addr) (n c : Nat) (A : Nat → Nat) (w : World) (hk0 : k0 < 256) (hf : f < 65536) (ht : t < 65536) (ha : a < 256) (hb : b < 256) (hL : NumsAt w .u8 o n fun i => (A i : Int)) :
    Calls Try.prog 6 #[.int .u8 (k0 : Int), .int .u16 (f : Int), .int .u16 (t : Int), .int .u8 (a : Int), .int .u8 (b : Int), .slice o n c] w fun e w' => e = .returned (.bool true) ∧ Below w.heap.size w w' := by
  by_cases h1 : n = 0
  · subst h1
    go_enter Try.func6, Try.ntmps6
    (go_wp2_with fail; refine Cl.m (live26_calls _) ?_; intro w1 hb1)
    (go_wp2_with fail; go_ret; exact ⟨rfl, by (repeat (first | exact Below.refl _ _ | assumption | refine Below.drew ?_ | refine Bl.alloc ?_ _ | refine below_drewN ?_ _ | refine Bl.chain ?_ (by assumption) (Nat.le_refl _)))⟩)
  · have i1 : ((n : Int) == 0) = false := by rw [beq_eq_false_iff_ne]; omega
    by_cases h2 : 1000 < n
    · have i2 : (1000 : Int) < (n : Int) := by omega
      clear h1
      go_enter Try.func6, Try.ntmps6
      (go_wp2_with fail; refine Cl.m (live26_calls _) ?_; intro w1 hb1)
      (go_wp2_with fail; go_ret; exact ⟨rfl, by (repeat (first | exact Below.refl _ _ | assumption | refine Below.drew ?_ | refine Bl.alloc ?_ _ | refine below_drewN ?_ _ | refine Bl.chain ?_ (by assumption) (Nat.le_refl _)))⟩)
    · have i2 : (decide ((1000 : Int) < (n : Int))) = false := by rw [decide_eq_false_iff_not]; omega
      have h0 : 0 < n := by omega
      have hn : n ≤ 65536 := by omega
      have hn2 : n ≤ 1000 := by omega
      clear h1 h2
      obtain ⟨k, hk5, hke⟩ : ∃ k : Nat, k < 5 ∧ (k0 : Int) % 5 = (k : Int) := ⟨k0 % 5, Nat.mod_lt _ (by omega), by omega⟩
      have hke2 : (k0 : Int).tmod 5 = (k : Int) := by rw [Int.tmod_eq_emod_of_nonneg (by omega)]; exact hke
      have hx : cnt (2 * a + 2) = 2 * a + 2 := if_neg (by omega)
      have hy : cnt (b + 1) = b + 1 := if_neg (by omega)
      have hxy : cnt (2 * a + 2 + (b + 1)) = 2 * a + 2 + (b + 1) := if_neg (by omega)
      have m1 : (2 * a + 2) % 65536 = 2 * a + 2 := by omega
      go_enter Try.func6, Try.ntmps6
      (go_wp2_with fail; refine Cl.m (live26_calls _) ?_; intro w1 hb1)
      go_wp2_with fail
      have e1 : (2 * (a : Int) + 2 + ((b : Int) + 1)) = ((2 * a + 2 + (b + 1) : Nat) : Int) := by omega
      have e2 : (2 * (a : Int) + 2) = ((2 * a + 2 : Nat) : Int) := by omega
      have e3 : ((b : Int) + 1) = ((b + 1 : Nat) : Int) := by omega
      rw [e1]
      refine (mvApply_calls k f t (2 * a + 2 + (b + 1)) o n c A _ hk5 hf ht (by omega) h0 hn (hL.below hb1 (Nat.le_refl _))).mono ?_
      rintro e w2 ⟨g2, c2, rfl, hR2, hg2, hb2⟩
      have hb02 : Below w.heap.size w w2 := hb1.trans (hb2.mono hb1.size)
      clear e1 e2 e3
      go_wp2_with fail
      rw [show (2 * (a : Int) + 2) = ((2 * a + 2 : Nat) : Int) from by omega]
      refine (mvApply_calls k f t (2 * a + 2) o n c A _ hk5 hf ht (by omega) h0 hn (hL.below hb02 (Nat.le_refl _))).mono ?_
      rintro e w3 ⟨g3, c3, rfl, hR3, hg3, hb3⟩
      have hb03 : Below w.heap.size w w3 := hb02.trans (hb3.mono hb02.size)
      have hR2 := hR2.below hb3 hR2.lt
      go_wp2_with fail
      rw [show (2 * (a : Int) + 2) = ((2 * a + 2 : Nat) : Int) from by omega]
      refine Cl.m (mvEnds_calls k f t (2 * a + 2) _ hk5 hf ht (by omega)) ?_
      intro w4 hb4
      have hb04 : Below w.heap.size w w4 := hb03.trans (hb4.mono hb03.size)
      have hR2 := hR2.below hb4 hR2.lt
      have hR3 := hR3.below hb4 hR3.lt
      rw [hx, m1] at *
      go_wp2_with fail
      rw [show ((b : Int) + 1) = ((b + 1 : Nat) : Int) from by omega]
      refine (mvApply_calls k (wyF k f (2 * a + 2)) (wyT k t (2 * a + 2)) (b + 1) _ n _ _ _ hk5 (wyF_lt _ _ _) (wyT_lt _ _ _ ht) (by omega) h0 hn hR3.nums).mono ?_
      rintro e w5 ⟨g5, c5, rfl, hR5, hg5, hb5⟩
      have hR2 := hR2.below hb5 hR2.lt
      rw [hy, mvA_two k f t n A (2 * a + 2) (b + 1) hk5 (by omega) (by omega)] at hR5
      rw [hxy] at hR2
      go_wp2_with fail
      refine Cl.m (refSame_calls _ _ n n _ _ _ _ _ hR2.nums hR5.nums (by unfold maxLen; omega) (by unfold maxLen; omega) rfl (fun i _ => rfl)) ?_
      intro w6 hb6
      (go_wp2_with fail; go_ret; exact ⟨rfl, by (repeat (first | exact Below.refl _ _ | assumption | refine Below.drew ?_ | refine Bl.alloc ?_ _ | refine below_drewN ?_ _ | refine Bl.chain ?_ (by assumption) (Nat.le_refl _)))⟩)
section
open Go.ChangeShapes Go.WideShapes Go.ChangeAt
variable {H : Type} {enc : TypeId × Value → H} {W : World} {base : Nat}
theorem walk_MovesParts {v0 v1 v2 v3 v4 v5 : Value} {d0 d1 d2 d3 d4 d5 : DataW H} {p0 p1 p2 p3 p4 p5 : List MemPlace}
    (_hsh : W.ShapedOpen Try.prog) (_hsz : (DataW.weightsEach Try.prog [5, 22, 22, 5, 5, 23] [d0, d1, d2, d3, d4, d5]).all (· ≤ reachBytes) = true)
    (hv0 : Value.okWide Try.prog W .any base 5 v0) (hd0 : DataW.Trod enc Try.prog W 0 (fun _ => true) true 5 v0 d0 p0) (hv1 : Value.okWide Try.prog W .any base 22 v1) (hd1 : DataW.Trod enc Try.prog W 0 (fun _ => true) true 22 v1 d1 p1) (hv2 : Value.okWide Try.prog W .any base 22 v2) (hd2 : DataW.Trod enc Try.prog W 0 (fun _ => true) true 22 v2 d2 p2) (hv3 : Value.okWide Try.prog W .any base 5 v3) (hd3 : DataW.Trod enc Try.prog W 0 (fun _ => true) true 5 v3 d3 p3) (hv4 : Value.okWide Try.prog W .any base 5 v4) (hd4 : DataW.Trod enc Try.prog W 0 (fun _ => true) true 5 v4 d4 p4) (hv5 : Value.okWide Try.prog W .any base 23 v5) (hd5 : DataW.Trod enc Try.prog W 0 (fun _ => true) true 23 v5 d5 p5) :
    Calls Try.prog 6 #[v0, v1, v2, v3, v4, v5] W fun e W' => e = .returned (.bool true) ∧ Below W.heap.size W W' := by
  obtain ⟨x0, rfl, h0⟩ := open_u8 Try.underlying5 hv0 hd0
  obtain ⟨x1, rfl, h1⟩ := open_u16 Try.underlying22 hv1 hd1
  obtain ⟨x2, rfl, h2⟩ := open_u16 Try.underlying22 hv2 hd2
  obtain ⟨x3, rfl, h3⟩ := open_u8 Try.underlying5 hv3 hd3
  obtain ⟨x4, rfl, h4⟩ := open_u8 Try.underlying5 hv4 hd4
  obtain ⟨o5, n5, c5, A5, rfl, hL5, hm5, hA5⟩ := open_bytes Try.underlying23 Try.underlying5 (by kernel_rfl) hv5 hd5
  exact movesParts_calls x0 x1 x2 x3 x4 o5 n5 c5 A5 W h0 h1 h2 h3 h4 hL5
end
end Go.Proofs.Ytifmlphfegppjaa
