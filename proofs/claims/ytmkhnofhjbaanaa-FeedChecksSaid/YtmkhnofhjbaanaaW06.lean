/-
  gannetlaw06: FeedChecks, opened.
-/
import Derived.Test.YtmkhnofhjbaanaaL06
namespace Go.Proofs.Ytmkhnofhjbaanaa
open Go.RowKit
section
open Go.ChangeShapes Go.WideShapes Go.ChangeAt
variable {H : Type} {enc : TypeId × Value → H} {W : World} {base : Nat}
theorem walk_FeedChecks {v0 v1 v2 : Value} {d0 d1 d2 : DataW H} {p0 p1 p2 : List MemPlace}
    (_hsh : W.ShapedOpen Try.prog) (_hsz : (DataW.weightsEach Try.prog [37, 37, 37] [d0, d1, d2]).all (· ≤ reachBytes) = true)
    (hv0 : Value.okWide Try.prog W .any base 37 v0) (hd0 : DataW.Trod enc Try.prog W 0 (fun _ => true) true 37 v0 d0 p0) (hv1 : Value.okWide Try.prog W .any base 37 v1) (hd1 : DataW.Trod enc Try.prog W 0 (fun _ => true) true 37 v1 d1 p1) (hv2 : Value.okWide Try.prog W .any base 37 v2) (hd2 : DataW.Trod enc Try.prog W 0 (fun _ => true) true 37 v2 d2 p2) :
    Calls Try.prog 5 #[v0, v1, v2] W fun e W' => e = .returned (.bool true) ∧ Below W.heap.size W W' := by
  obtain ⟨x0, rfl, h0⟩ := open_u16 Try.underlying37 hv0 hd0
  obtain ⟨x1, rfl, h1⟩ := open_u16 Try.underlying37 hv1 hd1
  obtain ⟨x2, rfl, h2⟩ := open_u16 Try.underlying37 hv2 hd2
  exact feedChecks_calls x0 x1 x2 W h0 h1 h2
end
end Go.Proofs.Ytmkhnofhjbaanaa
