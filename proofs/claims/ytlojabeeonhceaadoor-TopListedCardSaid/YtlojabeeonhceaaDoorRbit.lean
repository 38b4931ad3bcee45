/-
  gannetref01.Bit.
-/
import Derived.Test.YtlojabeeonhceaaDoorCore
import Derived.WalkKit
import Derived.WalkLawsBesides
import Derived.WalkSpells
namespace Go.Proofs.YtlojabeeonhceaaDoor
set_option linter.unusedSimpArgs false
set_option linter.unusedVariables false
set_option maxRecDepth 10000
open Go.RowKit Pl

end Go.Proofs.YtlojabeeonhceaaDoor
