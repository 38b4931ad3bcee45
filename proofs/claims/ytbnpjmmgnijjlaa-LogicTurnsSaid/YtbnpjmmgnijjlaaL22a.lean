/-
  logic.Chain, as live asks it.
-/
import Derived.Test.YtbnpjmmgnijjlaaR22
import Derived.Test.YtbnpjmmgnijjlaaOpen
import Derived.Test.YtbnpjmmgnijjlaaRet
namespace Go.Proofs.Ytbnpjmmgnijjlaa
open Go.RowKit Pl

theorem lgTurn_calls (w : World) :
    Calls Try.prog 41 #[.agg #[.int .u8 1, .int .u8 0], .int .u8 65] w fun e w' => e = .returned (.agg #[.int .u8 2, .int .u8 0]) ∧ Below w.heap.size w w' := by
  have l1 : lft 1 false = 2 := by decide
  have l2 : tb 1 7 = false := by decide
  have l3 : fres (fset 0 1 false) 2 = 0 := by decide
  go_enter Try.func41, Try.ntmps41
  (go_wp2_with fail; refine Cl.p (octLeft_calls 1 false _ (by omega)) ?_)
  rw [l1, l2]
  (go_wp2_with fail; refine Cl.p (lgTurned_calls 0 2 false _ (by omega) (by omega)) ?_)
  unfold bf
  rw [l3]
  go_wp2_with fail
  exact bodyPost_ret (results_cell_row rfl _ _ (w.heap.size + 1) 48 #[.int .u8 2, .int .u8 0] (0, 0) _ rfl (heap_alloc2_new w _ _) Try.underlying48 rfl (by kernel_rfl)) rfl ⟨rfl, by (repeat (first | exact Below.refl _ _ | assumption | refine Below.drew ?_ | refine Bl.alloc ?_ _ | refine below_drewN ?_ _ | refine Bl.chain ?_ (by assumption) (Nat.le_refl _)))⟩
theorem lgStep_calls (w : World) :
    Calls Try.prog 42 #[.agg #[.int .u8 2, .int .u8 0], .int .u8 73] w fun e w' => e = .returned (.agg #[.int .u8 3, .int .u8 0]) ∧ Below w.heap.size w w' := by
  have l3 : fres 0 3 = 0 := by decide
  go_enter Try.func42, Try.ntmps42
  (go_wp2_with fail; refine Cl.p (lgInc_calls 2 0 _ (by omega) (by omega)) ?_)
  unfold bf
  rw [l3]
  go_wp2_with fail
  exact bodyPost_ret (results_cell_row rfl _ _ (w.heap.size + 1) 48 #[.int .u8 3, .int .u8 0] (0, 0) _ rfl (heap_alloc2_new w _ _) Try.underlying48 rfl (by kernel_rfl)) rfl ⟨rfl, by (repeat (first | exact Below.refl _ _ | assumption | refine Below.drew ?_ | refine Bl.alloc ?_ _ | refine below_drewN ?_ _ | refine Bl.chain ?_ (by assumption) (Nat.le_refl _)))⟩
def lk : Nat → Array Value
  | 0 => #[.int .u8 1, .int .u8 0]
  | 1 => #[.int .u8 2, .int .u8 0]
  | _ => #[.int .u8 3, .int .u8 0]
theorem lgChain_calls (w : World) :
    Calls Try.prog 27 #[.string (ByteArray.mk #[65, 73]), .int .u8 1, .int .u8 0] w fun e w' => e = .returned (.tuple #[.int .u8 3, .int .u8 0, .agg #[.int .i64 0, .int .i64 0]]) ∧ Below w.heap.size w w' := by
  go_enter Try.func27, Try.ntmps27
  go_wp2_with fail
  go_loopw [10, 11, 21] (fun a b i wr => ∃ k : Nat, k ≤ 2 ∧ i = .int .i64 (k : Int) ∧ Below w.heap.size w wr ∧ Blk wr w.heap.size 34 #[.int .i64 0, .int .i64 0] ∧ Blk wr (w.heap.size + 1) 48 (lk k)) (fun _ _ i _ => 2 - (intOf i).toNat)
  case atStart =>
    exact ⟨0, by omega, rfl, by (repeat (first | exact Below.refl _ _ | assumption | refine Below.drew ?_ | refine Bl.alloc ?_ _ | refine below_drewN ?_ _ | refine Bl.chain ?_ (by assumption) (Nat.le_refl _))), heap_alloc2_old w _ _, heap_alloc2_new w _ _⟩
  case round =>
    obtain ⟨k, hk, rfl, hb, hF, hL⟩ := hrel
    by_cases h0 : k = 0
    · subst h0
      have c0 : wr.cell? ⟨w.heap.size + 1, 0, none⟩ = some (.int .u8 1) := hL.cell 0
      have c1 : wr.cell? ⟨w.heap.size + 1, 1, none⟩ = some (.int .u8 0) := hL.cell 1
      go_wp2_with fail
      refine Cl.m (lgTurn_calls _) ?_
      intro w1 hb1
      have hlt := hL.lt
      have hF1 := hF.below hb1 (by omega)
      have hL1 := hL.below hb1 (by omega)
      go_wp2_with (refine wpList_store_row rfl 48 _ _ rfl (w.heap.size + 1) #[.int .u8 2, .int .u8 0] rfl rfl 48 _ hL1 (by kernel_rfl) rfl (by kernel_rfl) ?_)
      go_roundw
      case rel => exact ⟨1, by omega, rfl, below_setRow (by (repeat (first | exact Below.refl _ _ | assumption | refine Below.drew ?_ | refine Bl.alloc ?_ _ | refine below_drewN ?_ _ | refine Bl.chain ?_ (by assumption) (Nat.le_refl _)))) (by omega) _, hF1.setRow_far (by omega) _, setRow_heap _ _ _ _ _ _ hL1⟩
      case measure => simp [intOf]
    · by_cases h1 : k = 1
      · subst h1
        have c0 : wr.cell? ⟨w.heap.size + 1, 0, none⟩ = some (.int .u8 2) := hL.cell 0
        have c1 : wr.cell? ⟨w.heap.size + 1, 1, none⟩ = some (.int .u8 0) := hL.cell 1
        go_wp2_with fail
        refine Cl.m (lgStep_calls _) ?_
        intro w1 hb1
        have hlt := hL.lt
        have hF1 := hF.below hb1 (by omega)
        have hL1 := hL.below hb1 (by omega)
        go_wp2_with (refine wpList_store_row rfl 48 _ _ rfl (w.heap.size + 1) #[.int .u8 3, .int .u8 0] rfl rfl 48 _ hL1 (by kernel_rfl) rfl (by kernel_rfl) ?_)
        go_roundw
        case rel => exact ⟨2, by omega, rfl, below_setRow (by (repeat (first | exact Below.refl _ _ | assumption | refine Below.drew ?_ | refine Bl.alloc ?_ _ | refine below_drewN ?_ _ | refine Bl.chain ?_ (by assumption) (Nat.le_refl _)))) (by omega) _, hF1.setRow_far (by omega) _, setRow_heap _ _ _ _ _ _ hL1⟩
        case measure => simp [intOf]
      · obtain rfl : k = 2 := by omega
        have c0 : wr.cell? ⟨w.heap.size + 1, 0, none⟩ = some (.int .u8 3) := hL.cell 0
        have c1 : wr.cell? ⟨w.heap.size + 1, 1, none⟩ = some (.int .u8 0) := hL.cell 1
        have f0 : wr.cell? ⟨w.heap.size, 0, none⟩ = some (.int .i64 0) := hF.cell 0
        have f1 : wr.cell? ⟨w.heap.size, 1, none⟩ = some (.int .i64 0) := hF.cell 1
        have z0 : wr.frozen? ⟨w.heap.size, 0, none⟩ = false := hF.frozen 0
        have z1 : wr.frozen? ⟨w.heap.size, 1, none⟩ = false := hF.frozen 1
        go_wp2_with fail
        go_region
        go_wp2_with fail
        have hF2 := ((hF.set_ 0 (.int .i64 0)).set_ 1 (.int .i64 0)).drew
        have hb2 : Below w.heap.size w ((wr.setCell ⟨w.heap.size, 0, none⟩ (.int .i64 0)).setCell ⟨w.heap.size, 1, none⟩ (.int .i64 0)).drew := ((hb.setCell (Nat.le_refl _) _).setCell (Nat.le_refl _) _).drew
        generalize ((wr.setCell _ _).setCell _ _).drew = wx at hF2 hb2 ⊢
        exact bodyPost_ret (results_ttc rfl rfl hF2 Try.underlying34 rfl (by kernel_rfl)) rfl ⟨rfl, hb2⟩
end Go.Proofs.Ytbnpjmmgnijjlaa
