/-
  Package phys: Extra, Reg; gannetref03: Bank, Off, Where, Extra, Reg.
-/
import Derived.Test.YtmlkmaeihkgdlaaPhys
namespace Go.Proofs.Ytmlkmaeihkgdlaa
open Go.RowKit Pl

theorem whO_le (o : Nat) : whO o ≤ 8 := by unfold whO; repeat (first | omega | split)
theorem whr_le (a : Nat) : whr a ≤ 8 := by unfold whr whB; repeat (first | omega | exact whO_le _ | split)
def exO (v : Nat) : Bool := v == 3 || v == 4
end Go.Proofs.Ytmlkmaeihkgdlaa
