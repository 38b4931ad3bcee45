/-
  gannetref01.Same.
-/
import Derived.Test.YtmlkmaeihkgdlaaOnly
namespace Go.Proofs.Ytmlkmaeihkgdlaa
open Go.RowKit

end Go.Proofs.Ytmlkmaeihkgdlaa
