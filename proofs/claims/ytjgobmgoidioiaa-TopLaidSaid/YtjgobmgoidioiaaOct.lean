/-
  Package octet: With, Lo, Hi, Word, Signed, Left, Right.
-/
import Derived.Test.YtjgobmgoidioiaaObit
import Derived.Test.YtjgobmgoidioiaaBoct
namespace Go.Proofs.Ytjgobmgoidioiaa
open Go.RowKit Pl










end Go.Proofs.Ytjgobmgoidioiaa
