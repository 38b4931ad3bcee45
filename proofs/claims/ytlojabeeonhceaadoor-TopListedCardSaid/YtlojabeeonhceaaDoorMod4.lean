/-
  Package modes: plain.
-/
import Derived.Test.YtlojabeeonhceaaDoorMod3
namespace Go.Proofs.YtlojabeeonhceaaDoor
set_option linter.unusedSimpArgs false
set_option linter.unusedVariables false
set_option maxRecDepth 10000
open Go.RowKit Go.Shelf Pl
/-- The mode without a byte ahead. -/
def plM (m : Nat) : Nat := if m = 13 then 2 else if m = 14 then 3 else if m = 15 then 5 else 6
theorem plain_calls (m b o n c : Nat) (w : World) (hm : m = 13 ∨ m = 14 ∨ m = 15 ∨ m = 16) (hn : 2 ≤ n) (hc : n ≤ c) :
    Calls Tryd.prog 49 #[.int .u8 (m : Int), .slice (some ⟨b, o, none⟩) n c] w fun e w' => e = .returned (.tuple #[.int .u8 (plM m : Int), .slice (some ⟨b, o + 1, none⟩) (n - 1) (c - 1)]) ∧ Below w.heap.size w w' := by
  have i1 : (1 : Int) ≤ (n : Int) := by omega
  have i2 : 1 ≤ n := by omega
  have i3 : 1 < c := by omega
  have i4 : ¬ c = 1 := by omega
  have i5 : ¬ c - 1 = 0 := by omega
  have i6 : (c - 1 == 0) = false := by rw [beq_eq_false_iff_ne]; omega
  rcases hm with rfl | rfl | rfl | rfl
  all_goals
    go_enter Tryd.func49, Tryd.ntmps49
    go_wp2_with fail
    go_region
    all_goals
      go_wp2_with fail
      go_ret2
      exact ⟨rfl, by (repeat (first | exact Below.refl _ _ | assumption | refine Below.drew ?_ | refine Bl.alloc ?_ _ | refine below_drewN ?_ _ | refine Bl.chain ?_ (by assumption) (Nat.le_refl _)))⟩
end Go.Proofs.YtlojabeeonhceaaDoor
