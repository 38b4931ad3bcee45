/-
  gannetref01.Power, gannetref01.Of.
-/
import Derived.Test.YtodimiffmmkndaaDoorCore
import Derived.WalkKit
import Derived.WalkLawsBesides
import Derived.WalkSpells
namespace Go.Proofs.YtodimiffmmkndaaDoor
set_option linter.unusedSimpArgs false
set_option linter.unusedVariables false
set_option maxRecDepth 10000
open Go.RowKit Pl

theorem cell8 {w : World} {t : TypeId} (f : Nat → Bool) (j : Nat) (hj : j < 8) :
    (w.alloc (.cells #[.bool (f 0), .bool (f 1), .bool (f 2), .bool (f 3), .bool (f 4), .bool (f 5), .bool (f 6), .bool (f 7)] t)).cell? ⟨w.heap.size, j, none⟩ = some (.bool (f j)) := by
  match j, hj with
  | 0, _ | 1, _ | 2, _ | 3, _ | 4, _ | 5, _ | 6, _ | 7, _ => simp [World.cell?_alloc_new]

end Go.Proofs.YtodimiffmmkndaaDoor
