/-
  Package octet: With, Lo, Hi, Word, Signed, Left, Right.
-/
import Derived.Test.YtmlkmaeihkgdlaaObit
import Derived.Test.YtmlkmaeihkgdlaaBoct
namespace Go.Proofs.Ytmlkmaeihkgdlaa
open Go.RowKit Pl










end Go.Proofs.Ytmlkmaeihkgdlaa
