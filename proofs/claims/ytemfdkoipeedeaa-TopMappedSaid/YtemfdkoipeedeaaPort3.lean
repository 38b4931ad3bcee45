/-
  gannetref10: Write, New, Copy; port: New, Clone; nil receivers.
-/
import Derived.Test.YtemfdkoipeedeaaPort2
import Derived.Deep.RegionHeld3
namespace Go.Proofs.Ytemfdkoipeedeaa
set_option linter.unusedSimpArgs false
set_option linter.unusedVariables false
set_option maxRecDepth 10000
open Go.RowKit

theorem ptNew_calls (o : Option Addr) (n c : Nat) (L : Nat → Int) (w : World) (hn : n ≤ 140737488355328) (hL : NumsAt w .u8 o n L) :
    Calls Try.prog 21 #[.slice o n c] w fun e w' => ∃ g gf o' c', e = .returned (.pointer (some ⟨g, 0, none⟩)) ∧ PB w' g gf 0 0 ∧ FB w' gf o' n c' 0 ∧ NumsB w' .u8 o' n L gf ∧ w.heap.size ≤ gf ∧ gf < g ∧ Below w.heap.size w w' := by
  go_enter Try.func21, Try.ntmps21
  go_wp2_with fail
  refine (fdNew_calls o n c L _ hn hL).mono ?_
  rintro e w1 ⟨gf, o', c', rfl, hF1, hN1, hg, hb1⟩
  go_wp2_with fail
  go_ret
  refine ⟨w1.heap.size, gf, o', c', rfl, Blk.new _ _ _, hF1.alloc _, ?_, hg, hF1.lt, by (repeat (first | exact Below.refl _ _ | assumption | refine Below.drew ?_ | refine Bl.alloc ?_ _ | refine below_drewN ?_ _ | refine Bl.chain ?_ (by assumption) (Nat.le_refl _)))⟩
  exact hN1.only ((Only.refl (fun _ => False) w1).alloc _) (fun _ _ h => h)
theorem nilWrite_calls (b : Int) (w : World) : Calls Try.prog 60 #[.pointer none, .int .u8 b] w fun e w' => (∃ v, e = .returned v) ∧ w = w' := by
  go_enter Try.func60, Try.ntmps60
  go_wp2_with fail
  first
    | (go_end0; exact ⟨⟨_, rfl⟩, rfl⟩)
    | (refine bodyPost_ret (results_none rfl _ _ _) rfl ?_; exact ⟨⟨_, rfl⟩, rfl⟩)
theorem nilRead_calls (w : World) : Calls Try.prog 67 #[.pointer none] w fun e w' => e = .returned (.int .u8 176) ∧ w = w' := by
  go_enter Try.func67, Try.ntmps67
  go_wp2_with fail
  go_ret
  exact ⟨rfl, rfl⟩
end Go.Proofs.Ytemfdkoipeedeaa
