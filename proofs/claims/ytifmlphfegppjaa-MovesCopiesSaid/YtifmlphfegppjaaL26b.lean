/-
  gannetlaw26: live.
-/
import Derived.Test.YtifmlphfegppjaaL26
namespace Go.Proofs.Ytifmlphfegppjaa
open Go.RowKit

theorem row8_lit {W : World} {g : Nat} (a b c d : Nat) (h : Blk W g 5 #[.int .u8 (a : Int), .int .u8 (b : Int), .int .u8 (c : Int), .int .u8 (d : Int)]) : Row8 W g 4 (fun i => [a, b, c, d].getD i 0) := by
  refine ⟨_, h, Nat.le_refl _, fun i hi => ?_⟩
  match i, hi with
  | 0, _ | 1, _ | 2, _ | 3, _ => rfl
set_option maxRecDepth 100000 in
set_option maxHeartbeats 4000000 in
theorem live26_calls (w : World) : Calls Try.prog 7 #[] w fun e w' => e = .returned (.bool true) ∧ Below w.heap.size w w' := by
  have hmv : ∀ i, i < 4 → mvA 0 0 1 4 (fun i => [7, 0, 0, 0].getD i 0) 3 i = 7 := by
    intro i hi
    match i, hi with
    | 0, _ | 1, _ | 2, _ | 3, _ => rfl
  go_enter Try.func7, Try.ntmps7
  go_wp2_with fail
  refine (mvAll_calls 3 5 9 3 _ (by omega) (by omega) (by omega) (by omega)).mono ?_
  rintro e w1 ⟨v, rfl, hrow, hb1⟩
  obtain ⟨g, c, rfl, hg, hcs⟩ := mvRow_cells (N := 3) (k := 3) (f := 5) (t := 9) hrow (by omega)
  have h4 : w1.cell? ⟨g, 4, none⟩ = some (.int .u16 7) := (hcs 2 (by omega)).1
  have h5 : w1.cell? ⟨g, 5, none⟩ = some (.int .u16 9) := (hcs 2 (by omega)).2
  have lg : g < w1.heap.size := cell_lt h4
  clear hrow hcs
  have hs1 := hb1.size
  have p1 : Row8 (w1.alloc (.cells #[.int .u8 7, .int .u8 0, .int .u8 0, .int .u8 0] 5)) w1.heap.size 4 (fun i => [7, 0, 0, 0].getD i 0) := row8_lit 7 0 0 0 (Blk.new _ _ _)
  go_wp2_with fail
  refine (mvApply_calls 0 0 1 3 _ 4 4 (fun i => [7, 0, 0, 0].getD i 0) _ (by omega) (by omega) (by omega) (by omega) (by omega) (by omega) p1.nums).mono ?_
  rintro e w3 ⟨g3, c3, rfl, hR3, hg3, hb3⟩
  have hb03 : Below w.heap.size w w3 := (Bl.alloc hb1 _).trans (hb3.mono (by simp; omega))
  have x4 : w3.cell? ⟨g, 4, none⟩ = some (.int .u16 7) := (hb3.cell (p := ⟨g, 4, none⟩) (by simp; omega)).trans ((World.cell?_alloc_lt w1 _ ⟨g, 4, none⟩ lg).trans h4)
  have x5 : w3.cell? ⟨g, 5, none⟩ = some (.int .u16 9) := (hb3.cell (p := ⟨g, 5, none⟩) (by simp; omega)).trans ((World.cell?_alloc_lt w1 _ ⟨g, 5, none⟩ lg).trans h5)
  (go_wp2_with fail; refine Cl.p (mvKind_calls _) ?_)
  go_wp2_with fail
  have p3 : Row8 (w3.alloc (.cells #[.int .u8 7, .int .u8 7, .int .u8 7, .int .u8 7] 5)) w3.heap.size 4 (fun i => [7, 7, 7, 7].getD i 0) := row8_lit 7 7 7 7 (Blk.new _ _ _)
  have q3 := hR3.alloc (.cells #[.int .u8 7, .int .u8 7, .int .u8 7, .int .u8 7] 5)
  refine Cl.m (refSame_calls _ _ 4 4 _ _ _ _ _ q3.nums p3.nums (by decide) (by decide) rfl (fun i hi => ?_)) ?_
  · have e := hmv i hi
    have : cnt 3 = 3 := rfl
    rw [this, e]
    match i, hi with
    | 0, _ | 1, _ | 2, _ | 3, _ => rfl
  intro w4 hb4
  have hb04 : Below w.heap.size w w4 := (Bl.alloc hb03 _).trans (hb4.mono (by have := hb03.size; simp; omega))
  (go_wp2_with fail; refine Cl.p (mvCount_calls 0 _ (by omega)) ?_)
  rw [show cnt 0 = 65536 from rfl]
  (go_wp2_with fail; go_ret; exact ⟨rfl, by (repeat (first | exact Below.refl _ _ | assumption | refine Below.drew ?_ | refine Bl.alloc ?_ _ | refine below_drewN ?_ _ | refine Bl.chain ?_ (by assumption) (Nat.le_refl _)))⟩)
end Go.Proofs.Ytifmlphfegppjaa
