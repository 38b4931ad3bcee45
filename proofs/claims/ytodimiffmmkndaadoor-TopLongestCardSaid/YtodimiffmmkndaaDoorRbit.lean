/-
  gannetref01.Bit.
-/
import Derived.Test.YtodimiffmmkndaaDoorCore
import Derived.WalkKit
import Derived.WalkLawsBesides
import Derived.WalkSpells
namespace Go.Proofs.YtodimiffmmkndaaDoor
set_option linter.unusedSimpArgs false
set_option linter.unusedVariables false
set_option maxRecDepth 10000
open Go.RowKit Pl

end Go.Proofs.YtodimiffmmkndaaDoor
