/-
  octet.mask, octet.Bit.
-/
import Derived.Test.YtnjnhfkfpahniaaCore
import Derived.WalkKit
import Derived.WalkLawsBesides
import Derived.WalkSpells
namespace Go.Proofs.Ytnjnhfkfpahniaa
open Go.RowKit Pl


end Go.Proofs.Ytnjnhfkfpahniaa
