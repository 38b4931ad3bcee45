/-
  A region that draws its order: what stands in all its worlds may be told more sharply on the way.
-/
import Derived.Test.YtelmkpcocaogjaaDoorRowl
namespace Go
set_option linter.unusedSimpArgs false
set_option linter.unusedVariables false
theorem wpAnyH_mono {P : Program} {ops : Array Oper} {Q : Exit → Act → World → Prop} {md : Region.Mode} {S S' : World → Prop} (hs : ∀ w, S' w → S w) :
    ∀ {fuel : Nat} {listed : Array Bool} {a : Act} {w : World}, wpAnyH P md ops Q S' fuel listed a w → wpAnyH P md ops Q S fuel listed a w
  | 0, _, _, _, h => h
  | fuel + 1, _, _, _, h => ⟨h.1, fun i hi => wpOp_mono (fun a' w' h' => ⟨hs w' h'.1, wpAnyH_mono hs h'.2⟩) (h.2 i hi)⟩
end Go
