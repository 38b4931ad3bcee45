/-
  Package phys: Extra, Reg; gannetref03: Bank, Off, Where, Extra, Reg.
-/
import Derived.Test.YtemfdkoipeedeaaPhys
namespace Go.Proofs.Ytemfdkoipeedeaa
set_option linter.unusedSimpArgs false
set_option linter.unusedVariables false
set_option maxRecDepth 10000
open Go.RowKit Pl

theorem whO_le (o : Nat) : whO o ≤ 8 := by unfold whO; repeat (first | omega | split)
theorem whr_le (a : Nat) : whr a ≤ 8 := by unfold whr whB; repeat (first | omega | exact whO_le _ | split)
def exO (v : Nat) : Bool := v == 3 || v == 4
theorem phExtra_calls (a : Nat) (w : World) (ha : a < 4294967296) :
    Calls Try.prog 41 #[.int .u32 (a : Int)] w fun e w' => e = .returned (.bool (exO (whr a))) ∧ Below w.heap.size w w' := by
  have hl := whr_le a
  have hc := phWhere_calls a
  generalize whr a = v at *
  have hv : v = 0 ∨ v = 1 ∨ v = 2 ∨ v = 3 ∨ v = 4 ∨ v = 5 ∨ v = 6 ∨ v = 7 ∨ v = 8 := by omega
  rcases hv with rfl | rfl | rfl | rfl | rfl | rfl | rfl | rfl | rfl
  all_goals
    go_enter Try.func41, Try.ntmps41
    (go_wp2_with fail; refine Cl.m (hc _ ha) ?_; intro w1 hb1)
    go_wp2_with fail
    go_ret
    exact ⟨rfl, by (repeat (first | exact Below.refl _ _ | assumption | refine Below.drew ?_ | refine Bl.alloc ?_ _ | refine below_drewN ?_ _ | refine Bl.chain ?_ (by assumption) (Nat.le_refl _)))⟩
theorem phReg_calls (a : Nat) (w : World) (ha : a < 4294967296) :
    Calls Try.prog 59 #[.int .u32 (a : Int)] w fun e w' => e = .returned (.int .i64 (rgO (whr a) (a % 8192))) ∧ Below w.heap.size w w' := by
  have hl := whr_le a
  have hc := phWhere_calls a
  have ho : a % 8192 < 8192 := Nat.mod_lt _ (by omega)
  have hoff := phOff_calls a
  generalize a % 8192 = o at *
  generalize whr a = v at *
  have hv : (v = 0 ∨ v = 1 ∨ v = 2) ∨ (v = 3 ∨ v = 4 ∨ v = 5 ∨ v = 6 ∨ v = 7 ∨ v = 8) := by omega
  rcases hv with (rfl | rfl | rfl) | (rfl | rfl | rfl | rfl | rfl | rfl)
  iterate 3
    · go_enter Try.func59, Try.ntmps59
      (go_wp2_with fail; refine Cl.m (hc _ ha) ?_; intro w1 hb1)
      go_wp2_with fail
      go_ret
      exact ⟨rfl, by (repeat (first | exact Below.refl _ _ | assumption | refine Below.drew ?_ | refine Bl.alloc ?_ _ | refine below_drewN ?_ _ | refine Bl.chain ?_ (by assumption) (Nat.le_refl _)))⟩
  all_goals
    go_enter Try.func59, Try.ntmps59
    (go_wp2_with fail; refine Cl.m (hc _ ha) ?_; intro w1 hb1)
    (go_wp2_with fail; refine Cl.p (hoff _ ha) ?_)
    go_wp2_with fail
    go_ret
    exact ⟨ret_int (by first | rfl | (simp [rgO]) | (simp [rgO]; omega)), by (repeat (first | exact Below.refl _ _ | assumption | refine Below.drew ?_ | refine Bl.alloc ?_ _ | refine below_drewN ?_ _ | refine Bl.chain ?_ (by assumption) (Nat.le_refl _)))⟩
end Go.Proofs.Ytemfdkoipeedeaa
