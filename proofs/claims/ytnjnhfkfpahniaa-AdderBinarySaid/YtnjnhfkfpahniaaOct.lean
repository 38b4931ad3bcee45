/-
  Package octet: With, Lo, Hi, Word, Signed, Left, Right.
-/
import Derived.Test.YtnjnhfkfpahniaaObit
import Derived.Test.YtnjnhfkfpahniaaBoct
namespace Go.Proofs.Ytnjnhfkfpahniaa
open Go.RowKit Pl










end Go.Proofs.Ytnjnhfkfpahniaa
