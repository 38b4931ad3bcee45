/-
  gannetlaw26: MovesCopies, whole.
-/
import Derived.Test.YtifmlphfegppjaaL26f
namespace Go.Proofs.Ytifmlphfegppjaa
open Go.RowKit

set_option maxRecDepth 100000 in
set_option maxHeartbeats 8000000 in
theorem copiesOut_calls (d : Bool) (f t n : Nat) (A : Nat → Nat) (w : World) (hf : f < 256) (ht : t < 256) (hn : n < 256) (h : n = 0 ∨ 256 < f + n ∨ 256 < t + n) :
    Calls Try.prog 4 #[.bool d, .int .u8 (f : Int), .int .u8 (t : Int), .int .u8 (n : Int), .agg (mem256 A)] w fun e w' => e = .returned (.bool true) ∧ Below w.heap.size w w' := by
  by_cases h0 : n = 0
  · subst h0
    go_enter Try.func4, Try.ntmps4
    (go_wp2_with fail; refine Cl.m (live26_calls _) ?_; intro w1 hb1)
    (go_wp2_with fail; go_ret; exact ⟨rfl, by (repeat (first | exact Below.refl _ _ | assumption | refine Below.drew ?_ | refine Bl.alloc ?_ _ | refine below_drewN ?_ _ | refine Bl.chain ?_ (by assumption) (Nat.le_refl _)))⟩)
  · have i0 : ((n : Int) == 0) = false := by rw [beq_eq_false_iff_ne]; omega
    by_cases h1 : 256 < f + n
    · have i1 : (256 : Int) < (f : Int) + (n : Int) := by omega
      clear h h0
      go_enter Try.func4, Try.ntmps4
      (go_wp2_with fail; refine Cl.m (live26_calls _) ?_; intro w1 hb1)
      (go_wp2_with fail; go_ret; exact ⟨rfl, by (repeat (first | exact Below.refl _ _ | assumption | refine Below.drew ?_ | refine Bl.alloc ?_ _ | refine below_drewN ?_ _ | refine Bl.chain ?_ (by assumption) (Nat.le_refl _)))⟩)
    · have i1 : (decide ((256 : Int) < (f : Int) + (n : Int))) = false := by rw [decide_eq_false_iff_not]; omega
      have i2 : (256 : Int) < (t : Int) + (n : Int) := by omega
      clear h h0 h1
      go_enter Try.func4, Try.ntmps4
      (go_wp2_with fail; refine Cl.m (live26_calls _) ?_; intro w1 hb1)
      (go_wp2_with fail; go_ret; exact ⟨rfl, by (repeat (first | exact Below.refl _ _ | assumption | refine Below.drew ?_ | refine Bl.alloc ?_ _ | refine below_drewN ?_ _ | refine Bl.chain ?_ (by assumption) (Nat.le_refl _)))⟩)
theorem movesCopies_calls (d : Bool) (f t n : Nat) (A : Nat → Nat) (w : World) (hf : f < 256) (ht : t < 256) (hn : n < 256) :
    Calls Try.prog 4 #[.bool d, .int .u8 (f : Int), .int .u8 (t : Int), .int .u8 (n : Int), .agg (mem256 A)] w fun e w' => e = .returned (.bool true) ∧ Below w.heap.size w w' := by
  by_cases h : n = 0 ∨ 256 < f + n ∨ 256 < t + n
  · exact copiesOut_calls d f t n A w hf ht hn h
  · cases d
    · by_cases h1 : f < t
      · by_cases h2 : t < f + n
        · exact copiesUpYes f t n A w (by omega) (by omega) (by omega) h1 h2
        · exact copiesUpFar f t n A w (by omega) (by omega) (by omega) h1 h2
      · exact copiesUpNo f t n A w (by omega) (by omega) (by omega) h1
    · by_cases h1 : t < f
      · by_cases h2 : f < t + n
        · exact copiesDownYes f t n A w (by omega) (by omega) (by omega) h1 h2
        · exact copiesDownFar f t n A w (by omega) (by omega) (by omega) h1 h2
      · exact copiesDownNo f t n A w (by omega) (by omega) (by omega) h1
section
open Go.ChangeShapes Go.WideShapes Go.ChangeAt
variable {H : Type} {enc : TypeId × Value → H} {W : World} {base : Nat}
theorem walk_MovesCopies {v0 v1 v2 v3 v4 : Value} {d0 d1 d2 d3 d4 : DataW H} {p0 p1 p2 p3 p4 : List MemPlace}
    (_hsh : W.ShapedOpen Try.prog) (_hsz : (DataW.weightsEach Try.prog [4, 5, 5, 5, 33] [d0, d1, d2, d3, d4]).all (· ≤ reachBytes) = true)
    (hv0 : Value.okWide Try.prog W .any base 4 v0) (hd0 : DataW.Trod enc Try.prog W 0 (fun _ => true) true 4 v0 d0 p0) (hv1 : Value.okWide Try.prog W .any base 5 v1) (hd1 : DataW.Trod enc Try.prog W 0 (fun _ => true) true 5 v1 d1 p1) (hv2 : Value.okWide Try.prog W .any base 5 v2) (hd2 : DataW.Trod enc Try.prog W 0 (fun _ => true) true 5 v2 d2 p2) (hv3 : Value.okWide Try.prog W .any base 5 v3) (hd3 : DataW.Trod enc Try.prog W 0 (fun _ => true) true 5 v3 d3 p3) (hv4 : Value.okWide Try.prog W .any base 33 v4) (hd4 : DataW.Trod enc Try.prog W 0 (fun _ => true) true 33 v4 d4 p4) :
    Calls Try.prog 4 #[v0, v1, v2, v3, v4] W fun e W' => e = .returned (.bool true) ∧ Below W.heap.size W W' := by
  obtain ⟨x0, rfl⟩ := open_yes Try.underlying4 hv0 hd0
  obtain ⟨x1, rfl, h1⟩ := open_u8 Try.underlying5 hv1 hd1
  obtain ⟨x2, rfl, h2⟩ := open_u8 Try.underlying5 hv2 hd2
  obtain ⟨x3, rfl, h3⟩ := open_u8 Try.underlying5 hv3 hd3
  obtain ⟨l4, rfl, hl4⟩ := open_arr Try.underlying33 Try.underlying5 (by kernel_rfl) (by kernel_rfl) hv4 hd4
  have e : arr 256 (fun i => Value.int .u8 (l4 i)) = mem256 (fun i => (l4 i).toNat) := by
    unfold mem256
    refine arr_congr fun i hi => ?_
    have := bounds_u8 (hl4 i hi)
    rw [Int.toNat_of_nonneg (by omega)]
  rw [e]
  exact movesCopies_calls x0 x1 x2 x3 _ W h1 h2 h3
end
end Go.Proofs.Ytifmlphfegppjaa
