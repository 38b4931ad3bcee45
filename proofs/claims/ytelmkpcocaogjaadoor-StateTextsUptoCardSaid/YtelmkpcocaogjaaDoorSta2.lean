/-
  Package state: of, values.state.
-/
import Derived.Test.YtelmkpcocaogjaaDoorSta1
namespace Go.Proofs.YtelmkpcocaogjaaDoor
open Go.RowKit Pl

set_option maxRecDepth 100000 in
set_option maxHeartbeats 4000000 in
theorem stOf_calls (R : Nat → Nat) (w : World) (hR : ROk R) :
    Calls Tryd.prog 39 #[.agg (stA R)] w fun e w' => e = .returned (.agg (vaA R)) ∧ Below w.heap.size w w' := by
  have b0 := hR.b 0 (by omega) (by omega)
  have b1 := hR.b 1 (by omega) (by omega)
  have b2 := hR.b 2 (by omega) (by omega)
  have b3 := hR.b 3 (by omega) (by omega)
  have b4 := hR.b 4 (by omega) (by omega)
  have b5 := hR.w 5 (by omega)
  have b14 := hR.b 14 (by omega) (by omega)
  have b15 := hR.2.2
  unfold stA
  go_enter Tryd.func39, Tryd.ntmps39
  go_wp2_with fail
  go_loopw [26] (fun i wr => ∃ k : Nat, k ≤ 8 ∧ i = .int .i64 (k : Int) ∧ Blk wr w.heap.size 25 (stA R) ∧ Blk wr (w.heap.size + 1) 64 (arr 16 fun _ => .int .u16 0) ∧ Blk wr (w.heap.size + 1 + 1) 64 (arr 16 (lkC R k)) ∧ Below w.heap.size w wr) (fun i _ => 8 - (intOf i).toNat)
  case atStart => exact ⟨0, Nat.zero_le _, rfl, Blk.alloc (Blk.alloc (Blk.new _ _ _) _) _, Blk.alloc (Blk.newAt (by simp)) _, Blk.newAt (by simp), by (repeat (first | exact Below.refl _ _ | assumption | refine Below.drew ?_ | refine Bl.alloc ?_ _ | refine below_drewN ?_ _ | refine Bl.chain ?_ (by assumption) (Nat.le_refl _)))⟩
  case round =>
    obtain ⟨k, hk, rfl, hX, hZ, hL, hb⟩ := hrel
    by_cases hlt : k < 8
    · have hix : ∀ w : World, (Instr.index 23 (.agg #[.int .u8 (R 6 : Int), .int .u8 (R 7 : Int), .int .u8 (R 8 : Int), .int .u8 (R 9 : Int), .int .u8 (R 10 : Int), .int .u8 (R 11 : Int), .int .u8 (R 12 : Int), .int .u8 (R 13 : Int)]) (.int .i64 (k : Int))).run Tryd.prog w = .ok (.int .u8 (R (6 + k) : Int)) w := by
        intro w
        match k, hlt with
        | 0, _ | 1, _ | 2, _ | 3, _ | 4, _ | 5, _ | 6, _ | 7, _ => rfl
      have bk := hR.b (6 + k) (by omega) (by omega)
      obtain ⟨q, hq⟩ : ∃ q, 6 + k = q := ⟨_, rfl⟩
      have e1 : (6 : Int) + (k : Int) = (q : Int) := by omega
      have hL2 := hL.set_ q (.int .u16 (R q : Int))
      rw [arr_set 16 _ q _ (by omega), ← hq, arr_congr (lkC_step R k), hq] at hL2
      have hX2 := hX.far (p := ⟨w.heap.size + 1 + 1, q, none⟩) (by dsimp only; omega) (.int .u16 (R q : Int))
      have hZ2 := hZ.far (p := ⟨w.heap.size + 1 + 1, q, none⟩) (by dsimp only; omega) (.int .u16 (R q : Int))
      have hb2 := hb.setCell (p := ⟨w.heap.size + 1 + 1, q, none⟩) (by dsimp only; omega) (.int .u16 (R q : Int))
      have c0 : wr.cell? ⟨w.heap.size + 1 + 1, q, none⟩ = some (.int .u16 0) := by
        rw [hL.cell, arr_get 16 _ q (by omega)]
        unfold lkC
        rw [if_neg (by omega)]
        rfl
      have f0 : wr.frozen? ⟨w.heap.size + 1 + 1, q, none⟩ = false := hL.frozen q
      rw [hq] at hix bk
      have hlt' : (k : Int) < 8 := by omega
      have hq16 : (q : Int) < 16 := by omega
      clear hq hX hZ hL hb b0 b1 b2 b3 b4 b5 b14 b15
      go_wp2_with fail
      go_roundw
      case rel => exact ⟨k + 1, by omega, by go_num, hX2, hZ2, hL2, hb2⟩
      case measure => simp [intOf]; omega
    · obtain rfl : k = 8 := by omega
      have x7 : wr.cell? ⟨w.heap.size, 14, none⟩ = some (.int .u8 (R 14 : Int)) := hX.cell 14
      have x8 : wr.cell? ⟨w.heap.size, 15, none⟩ = some (.bool (R 15 == 1)) := hX.cell 15
      have hne : w.heap.size + 1 + 1 ≠ w.heap.size + 1 := by omega
      have hL9 := hL.set_ 14 (.int .u16 (R 14 : Int))
      rw [arr_set 16 _ 14 _ (by omega), arr_congr (lkC_step R 8)] at hL9
      have hX9 := hX.far (p := ⟨w.heap.size + 1 + 1, 14, none⟩) (by dsimp only; omega) (.int .u16 (R 14 : Int))
      have hZ9 := hZ.far (p := ⟨w.heap.size + 1 + 1, 14, none⟩) (by dsimp only; omega) (.int .u16 (R 14 : Int))
      have hb9 := hb.setCell (p := ⟨w.heap.size + 1 + 1, 14, none⟩) (by dsimp only; omega) (.int .u16 (R 14 : Int))
      have c14 : wr.cell? ⟨w.heap.size + 1 + 1, 14, none⟩ = some (.int .u16 0) := hL.cell 14
      have f14 : wr.frozen? ⟨w.heap.size + 1 + 1, 14, none⟩ = false := hL.frozen 14
      have y8 : (wr.setCell ⟨w.heap.size + 1 + 1, 14, none⟩ (.int .u16 (R 14 : Int))).cell? ⟨w.heap.size, 15, none⟩ = some (.bool (R 15 == 1)) := hX9.cell 15
      have c15 : (wr.setCell ⟨w.heap.size + 1 + 1, 14, none⟩ (.int .u16 (R 14 : Int))).cell? ⟨w.heap.size + 1 + 1, 15, none⟩ = some (.int .u16 0) := hL9.cell 15
      have f15 : (wr.setCell ⟨w.heap.size + 1 + 1, 14, none⟩ (.int .u16 (R 14 : Int))).frozen? ⟨w.heap.size + 1 + 1, 15, none⟩ = false := hL9.frozen 15
      clear hX hZ hL hb hX9 b0 b1 b2 b3 b4 b5
      by_cases hF : R 15 = 1
      · have e15 : (R 15 == 1) = true := by rw [hF]; rfl
        rw [e15] at x8 y8
        have hL10 := hL9.set_ 15 (.int .u16 (R 15 : Int))
        rw [arr_set 16 _ 15 _ (by omega), arr_congr (lkC_step R 9), lkC_all, hF] at hL10
        have hZ10 := hZ9.far (p := ⟨w.heap.size + 1 + 1, 15, none⟩) (by dsimp only; omega) (.int .u16 1)
        have hb10 := hb9.setCell (p := ⟨w.heap.size + 1 + 1, 15, none⟩) (by dsimp only; omega) (.int .u16 1)
        clear hL9 hZ9 hb9 hF e15
        go_wp2_with (first
          | (refine wpList_load_row rfl 64 _ rfl (w.heap.size + 1 + 1) rfl _ (vaA R) (0, 0) _ hL10 Tryd.underlying64 rfl (by kernel_rfl) ?_)
          | (refine wpList_store_row rfl 64 _ _ rfl (w.heap.size + 1) (vaA R) rfl rfl 64 _ hZ10 (by kernel_rfl) rfl (by kernel_rfl) ?_))
        exact bodyPost_ret (results_cell_row rfl _ _ (w.heap.size + 1) 64 (vaA R) (0, 0) _ rfl (hZ10.setRow _) Tryd.underlying64 rfl (by kernel_rfl)) rfl ⟨rfl, below_setRow hb10 (by omega) _⟩
      · have h0 : R 15 = 0 := by omega
        have e15 : (R 15 == 1) = false := by rw [h0]; rfl
        rw [e15] at x8 y8
        have hL10 : arr 16 (lkC R 9) = vaA R := arr_congr fun i hi => by
          unfold lkC
          by_cases e : i = 15
          · subst e; rw [if_neg (by omega), h0]
          · rw [if_pos (by omega)]
        rw [hL10] at hL9
        clear hF e15 hL10 h0
        go_wp2_with (first
          | (refine wpList_load_row rfl 64 _ rfl (w.heap.size + 1 + 1) rfl _ (vaA R) (0, 0) _ hL9 Tryd.underlying64 rfl (by kernel_rfl) ?_)
          | (refine wpList_store_row rfl 64 _ _ rfl (w.heap.size + 1) (vaA R) rfl rfl 64 _ hZ9 (by kernel_rfl) rfl (by kernel_rfl) ?_))
        exact bodyPost_ret (results_cell_row rfl _ _ (w.heap.size + 1) 64 (vaA R) (0, 0) _ rfl (hZ9.setRow _) Tryd.underlying64 rfl (by kernel_rfl)) rfl ⟨rfl, below_setRow hb9 (by omega) _⟩
end Go.Proofs.YtelmkpcocaogjaaDoor
