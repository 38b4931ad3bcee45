/-
  gannetref01: Bits, With.
-/
import Derived.Test.YtodimiffmmkndaaDoorRbit
import Derived.Test.YtodimiffmmkndaaDoorRof
import Derived.Test.YtodimiffmmkndaaDoorArr
namespace Go.Proofs.YtodimiffmmkndaaDoor
set_option linter.unusedSimpArgs false
set_option linter.unusedVariables false
set_option maxRecDepth 10000
open Go.RowKit Pl

def bitsK (b k : Nat) : Nat → Bool := fun i => if i < k then tb b (i : Int) else false
theorem bitsK_succ (b k : Nat) : ∀ i, i < 8 → upd (bitsK b k) k (tb b (k : Int)) i = bitsK b (k + 1) i := by
  intro i _
  unfold upd bitsK
  by_cases e : i = k
  · subst e; simp
  · rw [if_neg e]
    by_cases h1 : i < k
    · rw [if_pos h1, if_pos (by omega)]
    · rw [if_neg h1, if_neg (by omega)]
def bitsOf (b : Nat) : Nat → Bool := fun i => tb b (i : Int)
theorem bitsK_all (b : Nat) : bools (bitsK b 8) = bools (bitsOf b) := bools_congr fun i hi => by unfold bitsK bitsOf; rw [if_pos hi]

end Go.Proofs.YtodimiffmmkndaaDoor
