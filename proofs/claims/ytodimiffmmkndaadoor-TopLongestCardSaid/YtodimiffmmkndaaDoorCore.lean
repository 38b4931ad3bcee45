/-
  Small words that every text of this seat uses.
-/
import Derived.Test.YtodimiffmmkndaaDoorChecked
import Derived.Test.YtodimiffmmkndaaDoorBits
import Derived.WalkKit
import Derived.WalkLawsBesides
import Derived.WalkSpells
namespace Go.Proofs.YtodimiffmmkndaaDoor
set_option linter.unusedSimpArgs false
set_option linter.unusedVariables false
set_option maxRecDepth 10000
open Go.RowKit Pl

theorem hide {p : Prop} (h : p) : Hid p := h
theorem ret_bool {a b : Bool} (h : a = b) : Ending.returned (.bool a) = .returned (.bool b) := by rw [h]
theorem ret_int {k : IntKind} {a b : Int} (h : a = b) : Ending.returned (.int k a) = .returned (.int k b) := by rw [h]

theorem pow_mod (m : Nat) (h : m ≤ 7) : (2 : Int) ^ m % 256 = ((2 ^ m : Nat) : Int) := by
  match m, h with
  | 0, _ | 1, _ | 2, _ | 3, _ | 4, _ | 5, _ | 6, _ | 7, _ => decide
theorem natCast_bne (a : Nat) : ((a : Int) != 0) = (a != 0) := by
  cases a with
  | zero => rfl
  | succ n => rfl
theorem natCast_beq (a : Nat) : ((a : Int) == 0) = (a == 0) := by
  cases a with
  | zero => rfl
  | succ n => rfl
theorem ret_pair' {k : IntKind} {a a' : Int} {x x' : Bool} (h : a = a') (hx : x = x') : Ending.returned (.tuple #[.int k a, .bool x]) = .returned (.tuple #[.int k a', .bool x']) := by rw [h, hx]
end Go.Proofs.YtodimiffmmkndaaDoor
