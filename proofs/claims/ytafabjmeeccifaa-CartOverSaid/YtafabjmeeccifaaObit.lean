/-
  octet.mask, octet.Bit.
-/
import Derived.Test.YtafabjmeeccifaaCore
import Derived.WalkKit
import Derived.WalkLawsBesides
import Derived.WalkSpells
namespace Go.Proofs.Ytafabjmeeccifaa
open Go.RowKit Pl


end Go.Proofs.Ytafabjmeeccifaa
