/-
  gannetlaw21: live, AdderAdds, AdderDigits.
-/
import Derived.Test.YtnjnhfkfpahniaaR21
import Derived.Test.YtnjnhfkfpahniaaDig21
namespace Go.Proofs.Ytnjnhfkfpahniaa
open Go.RowKit Pl

theorem nums_lit (w : World) (k : IntKind) (zs : List Int) (t : TypeId) (cs : Array Value) (hcs : cs = (zs.map (Value.int k)).toArray) : NumsAt (w.alloc (.cells cs t)) k (some ⟨w.heap.size, 0, none⟩) zs.length (fun i => zs.getD i 0) := by
  subst hcs
  intro i hi
  refine ⟨_, 0, rfl, by simp, ?_⟩
  rw [Nat.zero_add, cell_of_row _ w.heap.size i (zs.map (Value.int k)).toArray t (0, 0) (heap_alloc_new w _)]
  simp [List.getD, hi]

theorem live21_calls (w : World) : Calls Try.prog 8 #[] w fun e w' => e = .returned (.bool true) ∧ Below w.heap.size w w' := by
  have l1 : sumV (addR 127 1 0) (addP 127 1 0) (tb 0 3) = .tuple #[.int .u8 128, .int .u8 192, .bool false] := by
    rw [show addR 127 1 0 = 128 from by decide, show addP 127 1 0 = 192 from by decide, show tb 0 3 = false from by decide]; rfl
  have l2 : sumV (addR 25 1 8) (addP 25 1 8) (tb 8 3) = .tuple #[.int .u8 32, .int .u8 8, .bool true] := by
    rw [show addR 25 1 8 = 32 from by decide, show addP 25 1 8 = 8 from by decide, show tb 8 3 = true from by decide]; rfl
  have l3 : sumV (subR 32 1 9) (subP 32 1 9) (tb 9 3) = .tuple #[.int .u8 25, .int .u8 9, .bool true] := by
    rw [show subR 32 1 9 = 25 from by decide, show subP 32 1 9 = 9 from by decide, show tb 9 3 = true from by decide]; rfl
  have l4 : cmpP 5 5 0 = 3 := by decide
  have l5 : digL 3 = 3 := by decide
  have l6 : ∀ i, i < 3 → (dgt 1234 i : Int) = [52, 18, 0].getD i 0 := by decide
  go_enter Try.func8, Try.ntmps8
  (go_wp2_with fail; refine Cl.p (adAdd_calls 127 1 0 _ (by omega) (by omega) (by omega)) ?_)
  rw [l1]
  (go_wp2_with fail; refine Cl.p (adAdd_calls 25 1 8 _ (by omega) (by omega) (by omega)) ?_)
  rw [l2]
  (go_wp2_with fail; refine Cl.p (adSub_calls 32 1 9 _ (by omega) (by omega) (by omega)) ?_)
  rw [l3]
  go_wp2_with fail
  refine (adDigits_calls 1234 3 _ (by omega) (by omega) (by omega)).mono ?_
  rintro e w1 ⟨a, rfl, hn, hb1⟩
  rw [l5] at hn ⊢
  go_wp2_with fail
  refine Cl.m (refSame_calls a _ 3 3 3 3 _ _ _ (hn.below ((Below.refl _ _).alloc (Nat.le_refl _) _) (Nat.le_refl _)) (nums_lit w1 .u8 [52, 18, 0] 5 _ rfl) (by decide) (by decide) rfl l6) ?_
  intro w2 hb2
  (go_wp2_with fail; refine Cl.p (adCompare_calls 5 5 0 _ (by omega) (by omega) (by omega)) ?_)
  rw [l4]
  (go_wp2_with fail; go_ret; exact ⟨rfl, by (repeat (first | exact Below.refl _ _ | assumption | refine Below.drew ?_ | refine Bl.alloc ?_ _ | refine below_drewN ?_ _ | refine Bl.chain ?_ (by assumption) (Nat.le_refl _)))⟩)

theorem adderAdds_calls (a b p : Nat) (w : World) (ha : a < 256) (hb : b < 256) (hp : p < 256) :
    Calls Try.prog 3 #[.int .u8 (a : Int), .int .u8 (b : Int), .int .u8 (p : Int)] w fun e w' => e = .returned (.bool true) ∧ Below w.heap.size w w' := by
  have h1 := adAdd_calls a b p
  have h2 := adSub_calls a b p
  have h3 := r21Add_calls a b p
  have h4 := r21Sub_calls a b p
  unfold sumV at h1 h2 h3 h4
  go_enter Try.func3, Try.ntmps3
  (go_wp2_with fail; refine Cl.m (live21_calls _) ?_; intro w1 hb1)
  (go_wp2_with fail; refine Cl.p (h1 _ ha hb hp) ?_)
  (go_wp2_with fail; refine Cl.p (h2 _ ha hb hp) ?_)
  (go_wp2_with fail; refine Cl.m (h3 _ ha hb hp) ?_; intro w2 hb2)
  (go_wp2_with fail; refine Cl.m (h4 _ ha hb hp) ?_; intro w3 hb3)
  (go_wp2_with fail; refine Cl.p (adCompare_calls a b p _ ha hb hp) ?_)
  (go_wp2_with fail; refine Cl.m (r21Compare_calls a b p _ ha hb hp) ?_; intro w4 hb4)
  (go_wp2_with fail; go_ret; exact ⟨rfl, by (repeat (first | exact Below.refl _ _ | assumption | refine Below.drew ?_ | refine Bl.alloc ?_ _ | refine below_drewN ?_ _ | refine Bl.chain ?_ (by assumption) (Nat.le_refl _)))⟩)

theorem adderDigits_calls (n : Nat) (k : Int) (w : World) (hn : n ≤ 18446744073709551615) (h1 : -9223372036854775808 ≤ k) (h2 : k ≤ 9223372036854775807) :
    Calls Try.prog 4 #[.int .u64 (n : Int), .int .i64 k] w fun e w' => e = .returned (.bool true) ∧ Below w.heap.size w w' := by
  have hkl := digL_le k
  go_enter Try.func4, Try.ntmps4
  (go_wp2_with fail; refine Cl.m (live21_calls _) ?_; intro w1 hb1)
  go_wp2_with fail
  refine (adDigits_calls n k _ hn h1 h2).mono ?_
  rintro e w2 ⟨a, rfl, hna, hb2⟩
  go_wp2_with fail
  refine (r21Digits_calls n k _ hn h1 h2).mono ?_
  rintro e w3 ⟨b, c, rfl, hnb, hb3⟩
  go_wp2_with fail
  refine Cl.m (refSame_calls a b (digL k) (digL k) (digL k) c _ _ _ (hna.below hb3 (Nat.le_refl _)) hnb (by unfold maxLen; omega) (by unfold maxLen; omega) rfl (fun _ _ => rfl)) ?_
  intro w4 hb4
  (go_wp2_with fail; go_ret; exact ⟨rfl, by (repeat (first | exact Below.refl _ _ | assumption | refine Below.drew ?_ | refine Bl.alloc ?_ _ | refine below_drewN ?_ _ | refine Bl.chain ?_ (by assumption) (Nat.le_refl _)))⟩)
section
open Go.ChangeShapes Go.WideShapes Go.ChangeAt
variable {H : Type} {enc : TypeId × Value → H} {W : World} {base : Nat}
theorem walk_AdderAdds {v0 v1 v2 : Value} {d0 d1 d2 : DataW H} {p0 p1 p2 : List MemPlace}
    (_hsh : W.ShapedOpen Try.prog) (_hsz : (DataW.weightsEach Try.prog [5, 5, 5] [d0, d1, d2]).all (· ≤ reachBytes) = true)
    (hv0 : Value.okWide Try.prog W .any base 5 v0) (hd0 : DataW.Trod enc Try.prog W 0 (fun _ => true) true 5 v0 d0 p0) (hv1 : Value.okWide Try.prog W .any base 5 v1) (hd1 : DataW.Trod enc Try.prog W 0 (fun _ => true) true 5 v1 d1 p1) (hv2 : Value.okWide Try.prog W .any base 5 v2) (hd2 : DataW.Trod enc Try.prog W 0 (fun _ => true) true 5 v2 d2 p2) :
    Calls Try.prog 3 #[v0, v1, v2] W fun e W' => e = .returned (.bool true) ∧ Below W.heap.size W W' := by
  obtain ⟨x0, rfl, h0⟩ := open_u8 Try.underlying5 hv0 hd0
  obtain ⟨x1, rfl, h1⟩ := open_u8 Try.underlying5 hv1 hd1
  obtain ⟨x2, rfl, h2⟩ := open_u8 Try.underlying5 hv2 hd2
  exact adderAdds_calls x0 x1 x2 W h0 h1 h2
theorem walk_AdderDigits {v0 v1 : Value} {d0 d1 : DataW H} {p0 p1 : List MemPlace}
    (_hsh : W.ShapedOpen Try.prog) (_hsz : (DataW.weightsEach Try.prog [27, 3] [d0, d1]).all (· ≤ reachBytes) = true)
    (hv0 : Value.okWide Try.prog W .any base 27 v0) (hd0 : DataW.Trod enc Try.prog W 0 (fun _ => true) true 27 v0 d0 p0) (hv1 : Value.okWide Try.prog W .any base 3 v1) (hd1 : DataW.Trod enc Try.prog W 0 (fun _ => true) true 3 v1 d1 p1) :
    Calls Try.prog 4 #[v0, v1] W fun e W' => e = .returned (.bool true) ∧ Below W.heap.size W W' := by
  obtain ⟨x0, rfl, h0⟩ := open_u64 Try.underlying27 hv0 hd0
  obtain ⟨x1, rfl, h1a, h1b⟩ := open_i64 Try.underlying3 hv1 hd1
  exact adderDigits_calls x0 x1 W h0 h1a h1b
end
end Go.Proofs.Ytnjnhfkfpahniaa
