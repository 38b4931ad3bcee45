/-
  LinesAt, LinesCheck: the walks.
-/
import Derived.Test.YtdnpfddepnefnaaL07
namespace Go.Proofs.Ytdnpfddepnefnaa
open Go.RowKit

section
open Go.ChangeShapes Go.WideShapes Go.ChangeAt
variable {H : Type} {enc : TypeId × Value → H} {W : World} {base : Nat}
theorem walk_LinesAt {v0 v1 v2 : Value} {d0 d1 d2 : DataW H} {p0 p1 p2 : List MemPlace}
    (_hsh : W.ShapedOpen Try.prog) (_hsz : (DataW.weightsEach Try.prog [22, 5, 2] [d0, d1, d2]).all (· ≤ reachBytes) = true)
    (hv0 : Value.okWide Try.prog W .any base 22 v0) (hd0 : DataW.Trod enc Try.prog W 0 (fun _ => true) true 22 v0 d0 p0) (hv1 : Value.okWide Try.prog W .any base 5 v1) (hd1 : DataW.Trod enc Try.prog W 0 (fun _ => true) true 5 v1 d1 p1) (hv2 : Value.okWide Try.prog W .any base 2 v2) (hd2 : DataW.Trod enc Try.prog W 0 (fun _ => true) true 2 v2 d2 p2) :
    Calls Try.prog 4 #[v0, v1, v2] W fun e W' => e = .returned (.bool true) ∧ Below W.heap.size W W' := by
  obtain ⟨a0, n0, c0, St, Ln, Up, rfl, hE, hn, _⟩ := open_edges hv0 hd0
  obtain ⟨x1, rfl, h1⟩ := open_u8 Try.underlying5 hv1 hd1
  obtain ⟨x2, rfl, h2a, h2b⟩ := open_i64 Try.underlying2 hv2 hd2
  exact linesAt_calls a0 n0 c0 St Ln Up x1 x2 W hn hE
theorem walk_LinesCheck {v0 : Value} {d0 : DataW H} {p0 : List MemPlace}
    (_hsh : W.ShapedOpen Try.prog) (_hsz : (DataW.weightsEach Try.prog [22] [d0]).all (· ≤ reachBytes) = true)
    (hv0 : Value.okWide Try.prog W .any base 22 v0) (hd0 : DataW.Trod enc Try.prog W 0 (fun _ => true) true 22 v0 d0 p0) :
    Calls Try.prog 3 #[v0] W fun e W' => e = .returned (.bool true) ∧ Below W.heap.size W W' := by
  obtain ⟨a0, n0, c0, St, Ln, Up, rfl, hE, hn, _⟩ := open_edges hv0 hd0
  exact linesCheck_calls a0 n0 c0 St Ln Up W hE
end
end Go.Proofs.Ytdnpfddepnefnaa
