/-
  Package port: low, high, Read; gannetref10: Write, Read.
-/
import Derived.Test.YtggcnlcnmaaopaaPort
namespace Go.Proofs.Ytggcnlcnmaaopaa
set_option linter.unusedSimpArgs false
set_option linter.unusedVariables false
set_option maxRecDepth 10000
open Go.RowKit

/-- What is read, and how many bytes were asked for behind it. -/
def rdV (s d q : Nat) : Nat := if 2 ≤ s ∨ 5 ≤ d then 176 else if s % 2 = 1 then 176 + q / 16 else 176 + q % 16
def rdT (s d T : Nat) : Nat := if 2 ≤ s ∨ 5 ≤ d then T else T + 1
end Go.Proofs.Ytggcnlcnmaaopaa
