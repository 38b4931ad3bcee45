/-
  gannetlaw31: BurstMoves, its arguments opened.
-/
import Derived.Test.YticdlgbpbfcmaaaBst9
namespace Go.Proofs.Yticdlgbpbfcmaaa
open Go.RowKit

section
open Go.ChangeShapes Go.WideShapes Go.ChangeAt
variable {H : Type} {enc : TypeId × Value → H} {W : World} {base : Nat}
theorem walk_BurstMoves {v0 v1 v2 : Value} {d0 d1 d2 : DataW H} {p0 p1 p2 : List MemPlace}
    (_hsh : W.ShapedOpen Try.prog) (_hsz : (DataW.weightsEach Try.prog [5, 23, 37] [d0, d1, d2]).all (· ≤ reachBytes) = true)
    (hv0 : Value.okWide Try.prog W .any base 5 v0) (hd0 : DataW.Trod enc Try.prog W 0 (fun _ => true) true 5 v0 d0 p0) (hv1 : Value.okWide Try.prog W .any base 23 v1) (hd1 : DataW.Trod enc Try.prog W 0 (fun _ => true) true 23 v1 d1 p1) (hv2 : Value.okWide Try.prog W .any base 37 v2) (hd2 : DataW.Trod enc Try.prog W 0 (fun _ => true) true 37 v2 d2 p2) :
    Calls Try.prog 4 #[v0, v1, v2] W fun e W' => e = .returned (.bool true) ∧ Below W.heap.size W W' := by
  obtain ⟨x0, rfl, h0⟩ := open_u8 Try.underlying5 hv0 hd0
  obtain ⟨l1, rfl, hl1⟩ := open_arr Try.underlying23 Try.underlying22 (by kernel_rfl) (by kernel_rfl) hv1 hd1
  obtain ⟨l2, rfl, hl2⟩ := open_arr Try.underlying37 Try.underlying5 (by kernel_rfl) (by kernel_rfl) hv2 hd2
  have e : arr 64 (fun i => Value.int .u8 (l2 i)) = mem64 (fun i => (l2 i).toNat) := by
    unfold mem64
    refine arr_congr fun i hi => ?_
    have := bounds_u8 (hl2 i hi)
    rw [Int.toNat_of_nonneg (by omega)]
  have b0 := bounds_u16 (hl1 0 (by omega))
  have b1 := bounds_u16 (hl1 1 (by omega))
  have b2 := bounds_u16 (hl1 2 (by omega))
  have e3 : arr 3 (fun i => Value.int .u16 (l1 i)) = #[.int .u16 ((l1 0).toNat : Int), .int .u16 ((l1 1).toNat : Int), .int .u16 ((l1 2).toNat : Int)] := by
    rw [Int.toNat_of_nonneg b0.1, Int.toNat_of_nonneg b1.1, Int.toNat_of_nonneg b2.1]
    rfl
  rw [e, e3]
  exact burstMoves_calls x0 (l1 0).toNat (l1 1).toNat (l1 2).toNat _ W h0 (by omega) (by omega) (by omega)
end
end Go.Proofs.Yticdlgbpbfcmaaa
