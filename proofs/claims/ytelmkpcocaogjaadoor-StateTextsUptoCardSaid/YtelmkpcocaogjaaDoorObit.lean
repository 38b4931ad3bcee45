/-
  octet.mask, octet.Bit.
-/
import Derived.Test.YtelmkpcocaogjaaDoorCore
import Derived.WalkKit
import Derived.WalkLawsBesides
import Derived.WalkSpells
namespace Go.Proofs.YtelmkpcocaogjaaDoor
open Go.RowKit Pl


end Go.Proofs.YtelmkpcocaogjaaDoor
