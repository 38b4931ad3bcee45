/-
  Package octet: With, Lo, Hi, Word, Signed, Left, Right.
-/
import Derived.Test.YtggcnlcnmaaopaaObit
import Derived.Test.YtggcnlcnmaaopaaBoct
namespace Go.Proofs.Ytggcnlcnmaaopaa
set_option linter.unusedSimpArgs false
set_option linter.unusedVariables false
set_option maxRecDepth 10000
open Go.RowKit Pl










end Go.Proofs.Ytggcnlcnmaaopaa
