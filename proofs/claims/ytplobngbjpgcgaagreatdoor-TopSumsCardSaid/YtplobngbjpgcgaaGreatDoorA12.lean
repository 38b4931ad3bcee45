/-
  The texts Clk of the proof of TopSums, as one file (they are merged by a program).
-/
import Derived.Test.YtplobngbjpgcgaaGreatDoorA9
import Derived.Test.YtplobngbjpgcgaaGreatDoorA2
section
/-
  Package clock: New, Cycle (slow).
-/
namespace Go.Proofs.YtplobngbjpgcgaaGreatDoor
set_option linter.unusedSimpArgs false
set_option linter.unusedVariables false
set_option maxRecDepth 10000
open Go.RowKit Pl
/-- A clock, slow, that nothing is asked of. -/
def CK (w : World) (g : Nat) (now cyc : Int) : Prop := Blk w g 195 #[.int .i64 now, .int .i64 cyc, .bool false, .bool false, .bool false]
theorem ckNew_calls (w : World) : Calls Tryz.prog 38 #[] w fun e w' => ∃ g, e = .returned (.pointer (some ⟨g, 0, none⟩)) ∧ CK w' g 0 0 ∧ w.heap.size ≤ g ∧ Below w.heap.size w w' := by
  have hat : ∀ W : World, Calls Tryz.prog 82 #[.int .i64 0, .bool false] W fun e w' => ∃ g, e = .returned (.pointer (some ⟨g, 0, none⟩)) ∧ CK w' g 0 0 ∧ W.heap.size ≤ g ∧ Below W.heap.size W w' := fun W => by
    go_enter Tryz.func82, Tryz.ntmps82
    go_wp2_with fail
    go_ret
    exact ⟨W.heap.size, rfl, Blk.new _ _ _, Nat.le_refl _, by (repeat (first | exact Below.refl _ _ | assumption | refine Below.drew ?_ | refine Bl.alloc ?_ _ | refine below_drewN ?_ _ | refine Bl.chain ?_ (by assumption) (Nat.le_refl _)))⟩
  go_enter Tryz.func38, Tryz.ntmps38
  go_wp2_with fail
  refine (hat w).mono ?_
  rintro e w1 ⟨g, rfl, h1, h2, h3⟩
  go_wp2_with fail
  go_ret
  exact ⟨g, rfl, h1, h2, h3⟩
def ixB (x : Bool) : Int := if x then 1 else 0
theorem ckIndex_calls (x : Bool) (w : World) : Calls Tryz.prog 199 #[.bool x] w fun e w' => e = .returned (.int .i64 (ixB x)) ∧ w = w' := by
  cases x
  all_goals
    go_enter Tryz.func199, Tryz.ntmps199
    go_wp2_with fail
    go_ret
    exact ⟨rfl, rfl⟩
theorem ckLengths_calls (w : World) : Calls Tryz.prog 218 #[] w fun e w' => e = .returned (.agg #[.int .i64 12, .int .i64 24, .int .i64 3, .int .i64 6]) ∧ Below w.heap.size w w' := by
  go_enter Tryz.func218, Tryz.ntmps218
  go_wp2_with fail
  exact bodyPost_ret (results_cell_row rfl _ _ w.heap.size 263 #[.int .i64 12, .int .i64 24, .int .i64 3, .int .i64 6] (0, 0) _ rfl (Blk.new _ _ _) Tryz.underlying263 rfl (by kernel_rfl)) rfl ⟨rfl, by (repeat (first | exact Below.refl _ _ | assumption | refine Below.drew ?_ | refine Bl.alloc ?_ _ | refine below_drewN ?_ _ | refine Bl.chain ?_ (by assumption) (Nat.le_refl _)))⟩
def ckL (x : Bool) : Int := if x then 24 else 12
theorem ckLength_calls (x : Bool) (w : World) : Calls Tryz.prog 198 #[.bool false, .bool x] w fun e w' => e = .returned (.int .i64 (ckL x)) ∧ Below w.heap.size w w' := by
  have hb0 : Below w.heap.size w w := Below.refl _ _
  have hx1 : ∀ W : World, (Instr.index 263 (.agg #[.int .i64 12, .int .i64 24, .int .i64 3, .int .i64 6]) (.int .i64 0)).run Tryz.prog W = .ok (.agg #[.int .i64 12, .int .i64 24]) W := fun _ => by kernel_rfl
  have hx2 : ∀ W : World, (Instr.index 262 (.agg #[.int .i64 12, .int .i64 24]) (.int .i64 0)).run Tryz.prog W = .ok (.int .i64 12) W := fun _ => by kernel_rfl
  have hx3 : ∀ W : World, (Instr.index 262 (.agg #[.int .i64 12, .int .i64 24]) (.int .i64 1)).run Tryz.prog W = .ok (.int .i64 24) W := fun _ => by kernel_rfl
  have hi0 : ∀ W : World, Calls Tryz.prog 199 #[.bool false] W fun e w' => e = .returned (.int .i64 0) ∧ W = w' := fun W => ckIndex_calls false W
  have hi1 : ∀ W : World, Calls Tryz.prog 199 #[.bool true] W fun e w' => e = .returned (.int .i64 1) ∧ W = w' := fun W => ckIndex_calls true W
  cases x
  · go_enter Tryz.func198, Tryz.ntmps198
    go_wp2_with fail
    refine wp_region_held_drew (S := fun W => Below w.heap.size w W) (by kernel_rfl) (by first | exact hb0.drew | exact hb0 | exact Below.drew hb0) (fun hS0 => ?_)
    clear hb0
    change wpAnyH _ _ _ _ _ 8 #[false, false, false, false, false, false, false, false] _ _
    generalize w.drew = v0 at *
    refine wpAnyH_take (i := 1) (v := ?_) rfl (by kernel_rfl) (by kernel_rfl) (by kernel_rfl) (fun _ _ _ h => h) (Or.inl ⟨by rfl, ?_⟩) hS0 ?_
    rotate_left
    · (intro w hSw; (try dsimp only at hSw); go_simp; try with_reducible rfl)
    simp only [List.getElem_toArray, List.getElem_cons_zero, List.getElem_cons_succ, Act.put, List.setIfInBounds_toArray, List.set_cons_zero, List.set_cons_succ]
    refine wpAnyH_take (i := 4) (v := ?_) rfl (by kernel_rfl) (by kernel_rfl) (by kernel_rfl) (fun _ _ _ h => h) (Or.inl ⟨by rfl, ?_⟩) hS0 ?_
    rotate_left
    · (intro w hSw; (try dsimp only at hSw); go_simp; try with_reducible rfl)
    simp only [List.getElem_toArray, List.getElem_cons_zero, List.getElem_cons_succ, Act.put, List.setIfInBounds_toArray, List.set_cons_zero, List.set_cons_succ]
    refine wpAnyH_ready (rs := [0]) (by kernel_rfl) (by simp) ?_
    refine AllReadyH.cons rfl (fun K hK => ?_) AllReadyH.nil
    go_simp
    refine (ckLengths_calls _).mono ?_
    rintro e v1 ⟨rfl, hb1⟩
    (try go_simp)
    refine hK.out _ _ (by first | exact hS0.trans (hb1.mono hS0.size) | exact hS0.trans (hb1.mono (by have := hS0.size; omega))) (fun hS1 => ?_)
    clear hK K
    clear hb1 hS0
    simp only [List.getElem_toArray, List.getElem_cons_zero, List.getElem_cons_succ, Act.put, List.setIfInBounds_toArray, List.set_cons_zero, List.set_cons_succ]
    refine wpAnyH_ready (rs := [2]) (by kernel_rfl) (by simp) ?_
    refine AllReadyH.cons rfl (fun K hK => ?_) AllReadyH.nil
    go_simp
    refine (hi0 _).mono ?_
    rintro e w' ⟨rfl, rfl⟩
    (try go_simp)
    refine hK.out _ _ hS1 (fun _ => ?_)
    clear hK K
    simp only [List.getElem_toArray, List.getElem_cons_zero, List.getElem_cons_succ, Act.put, List.setIfInBounds_toArray, List.set_cons_zero, List.set_cons_succ]
    refine wpAnyH_take (i := 3) (v := ?_) rfl (by kernel_rfl) (by kernel_rfl) (by kernel_rfl) (fun _ _ _ h => h) (Or.inl ⟨by rfl, ?_⟩) hS1 ?_
    rotate_left
    · (intro w hSw; (try dsimp only at hSw); go_simp; try with_reducible rfl)
    simp only [List.getElem_toArray, List.getElem_cons_zero, List.getElem_cons_succ, Act.put, List.setIfInBounds_toArray, List.set_cons_zero, List.set_cons_succ]
    refine wpAnyH_ready (rs := [5]) (by kernel_rfl) (by simp) ?_
    refine AllReadyH.cons rfl (fun K hK => ?_) AllReadyH.nil
    go_simp
    refine (hi0 _).mono ?_
    rintro e w' ⟨rfl, rfl⟩
    (try go_simp)
    refine hK.out _ _ hS1 (fun _ => ?_)
    clear hK K
    simp only [List.getElem_toArray, List.getElem_cons_zero, List.getElem_cons_succ, Act.put, List.setIfInBounds_toArray, List.set_cons_zero, List.set_cons_succ]
    refine wpAnyH_take (i := 6) (v := ?_) rfl (by kernel_rfl) (by kernel_rfl) (by kernel_rfl) (fun _ _ _ h => h) (Or.inl ⟨by rfl, ?_⟩) hS1 ?_
    rotate_left
    · (intro w hSw; (try dsimp only at hSw); go_simp; try with_reducible rfl)
    simp only [List.getElem_toArray, List.getElem_cons_zero, List.getElem_cons_succ, Act.put, List.setIfInBounds_toArray, List.set_cons_zero, List.set_cons_succ]
    refine wpAnyH_take (i := 7) (v := ?_) rfl (by kernel_rfl) (by kernel_rfl) (by kernel_rfl) (fun _ _ _ h => h) (Or.inl ⟨by rfl, ?_⟩) hS1 ?_
    rotate_left
    · (intro w hSw; (try dsimp only at hSw); go_simp; try with_reducible rfl)
    simp only [List.getElem_toArray, List.getElem_cons_zero, List.getElem_cons_succ, Act.put, List.setIfInBounds_toArray, List.set_cons_zero, List.set_cons_succ]
    refine wpAnyH_done (by kernel_rfl) ?_ _
    have hb0 := hS1
    clear hS1
    go_wp2_with fail
    go_ret
    exact ⟨rfl, hb0⟩
  · go_enter Tryz.func198, Tryz.ntmps198
    go_wp2_with fail
    refine wp_region_held_drew (S := fun W => Below w.heap.size w W) (by kernel_rfl) (by first | exact hb0.drew | exact hb0 | exact Below.drew hb0) (fun hS0 => ?_)
    clear hb0
    change wpAnyH _ _ _ _ _ 8 #[false, false, false, false, false, false, false, false] _ _
    generalize w.drew = v0 at *
    refine wpAnyH_take (i := 1) (v := ?_) rfl (by kernel_rfl) (by kernel_rfl) (by kernel_rfl) (fun _ _ _ h => h) (Or.inl ⟨by rfl, ?_⟩) hS0 ?_
    rotate_left
    · (intro w hSw; (try dsimp only at hSw); go_simp; try with_reducible rfl)
    simp only [List.getElem_toArray, List.getElem_cons_zero, List.getElem_cons_succ, Act.put, List.setIfInBounds_toArray, List.set_cons_zero, List.set_cons_succ]
    refine wpAnyH_take (i := 4) (v := ?_) rfl (by kernel_rfl) (by kernel_rfl) (by kernel_rfl) (fun _ _ _ h => h) (Or.inl ⟨by rfl, ?_⟩) hS0 ?_
    rotate_left
    · (intro w hSw; (try dsimp only at hSw); go_simp; try with_reducible rfl)
    simp only [List.getElem_toArray, List.getElem_cons_zero, List.getElem_cons_succ, Act.put, List.setIfInBounds_toArray, List.set_cons_zero, List.set_cons_succ]
    refine wpAnyH_ready (rs := [0]) (by kernel_rfl) (by simp) ?_
    refine AllReadyH.cons rfl (fun K hK => ?_) AllReadyH.nil
    go_simp
    refine (ckLengths_calls _).mono ?_
    rintro e v1 ⟨rfl, hb1⟩
    (try go_simp)
    refine hK.out _ _ (by first | exact hS0.trans (hb1.mono hS0.size) | exact hS0.trans (hb1.mono (by have := hS0.size; omega))) (fun hS1 => ?_)
    clear hK K
    clear hb1 hS0
    simp only [List.getElem_toArray, List.getElem_cons_zero, List.getElem_cons_succ, Act.put, List.setIfInBounds_toArray, List.set_cons_zero, List.set_cons_succ]
    refine wpAnyH_ready (rs := [2]) (by kernel_rfl) (by simp) ?_
    refine AllReadyH.cons rfl (fun K hK => ?_) AllReadyH.nil
    go_simp
    refine (hi0 _).mono ?_
    rintro e w' ⟨rfl, rfl⟩
    (try go_simp)
    refine hK.out _ _ hS1 (fun _ => ?_)
    clear hK K
    simp only [List.getElem_toArray, List.getElem_cons_zero, List.getElem_cons_succ, Act.put, List.setIfInBounds_toArray, List.set_cons_zero, List.set_cons_succ]
    refine wpAnyH_take (i := 3) (v := ?_) rfl (by kernel_rfl) (by kernel_rfl) (by kernel_rfl) (fun _ _ _ h => h) (Or.inl ⟨by rfl, ?_⟩) hS1 ?_
    rotate_left
    · (intro w hSw; (try dsimp only at hSw); go_simp; try with_reducible rfl)
    simp only [List.getElem_toArray, List.getElem_cons_zero, List.getElem_cons_succ, Act.put, List.setIfInBounds_toArray, List.set_cons_zero, List.set_cons_succ]
    refine wpAnyH_ready (rs := [5]) (by kernel_rfl) (by simp) ?_
    refine AllReadyH.cons rfl (fun K hK => ?_) AllReadyH.nil
    go_simp
    refine (hi1 _).mono ?_
    rintro e w' ⟨rfl, rfl⟩
    (try go_simp)
    refine hK.out _ _ hS1 (fun _ => ?_)
    clear hK K
    simp only [List.getElem_toArray, List.getElem_cons_zero, List.getElem_cons_succ, Act.put, List.setIfInBounds_toArray, List.set_cons_zero, List.set_cons_succ]
    refine wpAnyH_take (i := 6) (v := ?_) rfl (by kernel_rfl) (by kernel_rfl) (by kernel_rfl) (fun _ _ _ h => h) (Or.inl ⟨by rfl, ?_⟩) hS1 ?_
    rotate_left
    · (intro w hSw; (try dsimp only at hSw); go_simp; try with_reducible rfl)
    simp only [List.getElem_toArray, List.getElem_cons_zero, List.getElem_cons_succ, Act.put, List.setIfInBounds_toArray, List.set_cons_zero, List.set_cons_succ]
    refine wpAnyH_take (i := 7) (v := ?_) rfl (by kernel_rfl) (by kernel_rfl) (by kernel_rfl) (fun _ _ _ h => h) (Or.inl ⟨by rfl, ?_⟩) hS1 ?_
    rotate_left
    · (intro w hSw; (try dsimp only at hSw); go_simp; try with_reducible rfl)
    simp only [List.getElem_toArray, List.getElem_cons_zero, List.getElem_cons_succ, Act.put, List.setIfInBounds_toArray, List.set_cons_zero, List.set_cons_succ]
    refine wpAnyH_done (by kernel_rfl) ?_ _
    have hb0 := hS1
    clear hS1
    go_wp2_with fail
    go_ret
    exact ⟨rfl, hb0⟩
set_option maxRecDepth 100000 in
set_option maxHeartbeats 8000000 in
theorem ckCycle_calls (g : Nat) (now cyc : Int) (x : Bool) (w : World) (h0 : 0 ≤ now) (h1 : now ≤ 1000000) (h2 : 0 ≤ cyc) (h3 : cyc ≤ 1000000) (hC : CK w g now cyc) :
    Calls Tryz.prog 189 #[.pointer (some ⟨g, 0, none⟩), .bool x] w fun e w' => e = .returned (.int .i64 now) ∧ CK w' g (now + ckL x) (cyc + 1 + ixB x) ∧ Only (fun k => k = g) w w' := by
  have hl := fun W => ckLength_calls x W
  have hi := fun W => ckIndex_calls x W
  have hL : 12 ≤ ckL x ∧ ckL x ≤ 24 := by cases x <;> decide
  have hI : 0 ≤ ixB x ∧ ixB x ≤ 1 := by cases x <;> decide
  generalize ckL x = L at *
  generalize ixB x = I at *
  obtain ⟨L1, L2⟩ := hL
  obtain ⟨I1, I2⟩ := hI
  have c0 : w.cell? ⟨g, 0, none⟩ = some (.int .i64 now) := Blk.cell hC 0
  have c2 : w.cell? ⟨g, 2, none⟩ = some (.bool false) := Blk.cell hC 2
  have f0 : w.frozen? ⟨g, 0, none⟩ = false := Blk.frozen hC 0
  have hg := Blk.lt hC
  have ho : Only (fun k => k = g) w w := Only.refl _ _
  go_enter Tryz.func189, Tryz.ntmps189
  go_wp2_with fail
  clear f0 hg
  have hw1 : IntKind.i64.wrap (now + L) = now + L := by rw [IntKind.wrap_i64]; omega
  have hw2 : IntKind.i64.wrap (1 + I) = 1 + I := by rw [IntKind.wrap_i64]; omega
  have hw3 : IntKind.i64.wrap (cyc + (1 + I)) = cyc + (1 + I) := by rw [IntKind.wrap_i64]; omega
  refine wp_region_held_drew (S := fun W => W.cell? ⟨g, 2, none⟩ = some (.bool false)) (by kernel_rfl) (by first | exact c2.drew | exact c2 | exact Below.drew c2) (fun hS0 => ?_)
  have c0_0 : w.drew.cell? ⟨g, 0, none⟩ = some (.int .i64 now) := by first | exact c0.drew | exact c0
  have hC_0 : CK w.drew g now cyc := by first | exact hC.drew | exact hC
  have ho_0 : Only (fun k => k = g) w w.drew := by first | exact ho.drew | exact ho
  clear c2 c0 hC ho
  change wpAnyH _ _ _ _ _ 14 #[false, false, false, false, false, false, false, false, false, false, false, false, false, false] _ _
  generalize w.drew = v0 at *
  refine wpAnyH_take (i := 0) (v := ?_) rfl (by kernel_rfl) (by kernel_rfl) (by kernel_rfl) (fun _ _ _ h => h) (Or.inl ⟨by rfl, ?_⟩) hS0 ?_
  rotate_left
  · (intro w hSw; (try dsimp only at hSw); go_simp; try with_reducible rfl)
  simp only [List.getElem_toArray, List.getElem_cons_zero, List.getElem_cons_succ, Act.put, List.setIfInBounds_toArray, List.set_cons_zero, List.set_cons_succ]
  refine wpAnyH_take (i := 1) (v := ?_) rfl (by kernel_rfl) (by kernel_rfl) (by kernel_rfl) (fun _ _ _ h => h) (Or.inl ⟨by rfl, ?_⟩) hS0 ?_
  rotate_left
  · (intro w hSw; (try dsimp only at hSw); go_simp; try with_reducible rfl)
  simp only [List.getElem_toArray, List.getElem_cons_zero, List.getElem_cons_succ, Act.put, List.setIfInBounds_toArray, List.set_cons_zero, List.set_cons_succ]
  refine wpAnyH_take (i := 2) (v := ?_) rfl (by kernel_rfl) (by kernel_rfl) (by kernel_rfl) (fun _ _ _ h => h) (Or.inl ⟨by rfl, ?_⟩) hS0 ?_
  rotate_left
  · (intro w hSw; (try dsimp only at hSw); go_simp; try with_reducible rfl)
  simp only [List.getElem_toArray, List.getElem_cons_zero, List.getElem_cons_succ, Act.put, List.setIfInBounds_toArray, List.set_cons_zero, List.set_cons_succ]
  refine wpAnyH_take (i := 4) (v := ?_) rfl (by kernel_rfl) (by kernel_rfl) (by kernel_rfl) (fun _ _ _ h => h) (Or.inl ⟨by rfl, ?_⟩) hS0 ?_
  rotate_left
  · (intro w hSw; (try dsimp only at hSw); go_simp; try with_reducible rfl)
  simp only [List.getElem_toArray, List.getElem_cons_zero, List.getElem_cons_succ, Act.put, List.setIfInBounds_toArray, List.set_cons_zero, List.set_cons_succ]
  refine wpAnyH_take (i := 5) (v := ?_) rfl (by kernel_rfl) (by kernel_rfl) (by kernel_rfl) (fun _ _ _ h => h) (Or.inl ⟨by rfl, ?_⟩) hS0 ?_
  rotate_left
  · (intro w hSw; (try dsimp only at hSw); go_simp; try with_reducible rfl)
  simp only [List.getElem_toArray, List.getElem_cons_zero, List.getElem_cons_succ, Act.put, List.setIfInBounds_toArray, List.set_cons_zero, List.set_cons_succ]
  refine wpAnyH_take (i := 6) (v := ?_) rfl (by kernel_rfl) (by kernel_rfl) (by kernel_rfl) (fun _ _ _ h => h) (Or.inl ⟨by rfl, ?_⟩) hS0 ?_
  rotate_left
  · (intro w hSw; (try dsimp only at hSw); go_simp; try with_reducible rfl)
  simp only [List.getElem_toArray, List.getElem_cons_zero, List.getElem_cons_succ, Act.put, List.setIfInBounds_toArray, List.set_cons_zero, List.set_cons_succ]
  refine wpAnyH_take (i := 7) (v := ?_) rfl (by kernel_rfl) (by kernel_rfl) (by kernel_rfl) (fun _ _ _ h => h) (Or.inl ⟨by rfl, ?_⟩) hS0 ?_
  rotate_left
  · (intro w hSw; (try dsimp only at hSw); go_simp; try with_reducible rfl)
  simp only [List.getElem_toArray, List.getElem_cons_zero, List.getElem_cons_succ, Act.put, List.setIfInBounds_toArray, List.set_cons_zero, List.set_cons_succ]
  refine wpAnyH_take (i := 8) (v := ?_) rfl (by kernel_rfl) (by kernel_rfl) (by kernel_rfl) (fun _ _ _ h => h) (Or.inl ⟨by rfl, ?_⟩) hS0 ?_
  rotate_left
  · (intro w hSw; (try dsimp only at hSw); go_simp; try with_reducible rfl)
  simp only [List.getElem_toArray, List.getElem_cons_zero, List.getElem_cons_succ, Act.put, List.setIfInBounds_toArray, List.set_cons_zero, List.set_cons_succ]
  refine wpAnyH_ready (rs := [3, 9]) (by kernel_rfl) (by simp) ?_
  refine AllReadyH.cons rfl (fun K hK => ?_) ?_
  · -- load 3
    go_simp
    refine hK.out _ _ hS0 (fun _ => ?_)
    clear hK K
    simp only [List.getElem_toArray, List.getElem_cons_zero, List.getElem_cons_succ, Act.put, List.setIfInBounds_toArray, List.set_cons_zero, List.set_cons_succ]
    refine wpAnyH_ready (rs := [9]) (by kernel_rfl) (by simp) ?_
    refine AllReadyH.cons rfl (fun K hK => ?_) AllReadyH.nil
    go_simp
    refine (hl _).mono ?_
    rintro e v1 ⟨rfl, hb1⟩
    (try go_simp)
    refine hK.out _ _ ((hb1.cell (cell_lt hS0)).trans hS0) (fun hS1 => ?_)
    clear hK K
    have c0_1 : v1.cell? ⟨g, 0, none⟩ = some (.int .i64 now) := ((hb1.cell (cell_lt c0_0)).trans c0_0)
    have hC_1 : CK v1 g now cyc := (by first | exact hC_0.below hb1 hC_0.lt | exact hC_0.trans (hb1.mono hC_0.size) | exact hC_0.trans (hb1.mono (by have := hC_0.size; omega)) | exact (hb1.cell (cell_lt hC_0)).trans hC_0 | exact hC_0.below hb1 (Nat.le_refl _) | exact hC_0.low hb1 | exact hC_0.below hb1 | exact hC_0.trans (Only.of hb1))
    have ho_1 : Only (fun k => k = g) w v1 := (ho_0.trans (Only.of hb1))
    clear hb1 hS0
    simp only [List.getElem_toArray, List.getElem_cons_zero, List.getElem_cons_succ, Act.put, List.setIfInBounds_toArray, List.set_cons_zero, List.set_cons_succ]
    refine wpAnyH_take (i := 10) (v := ?_) rfl (by kernel_rfl) (by kernel_rfl) (by kernel_rfl) (fun _ _ _ h => h) (Or.inl ⟨by rfl, ?_⟩) hS1 ?_
    rotate_left
    · (intro w hSw; (try dsimp only at hSw); go_simp; try with_reducible rfl)
    simp only [List.getElem_toArray, List.getElem_cons_zero, List.getElem_cons_succ, Act.put, List.setIfInBounds_toArray, List.set_cons_zero, List.set_cons_succ]
    refine wpAnyH_take (i := 11) (v := ?_) rfl (by kernel_rfl) (by kernel_rfl) (by kernel_rfl) (fun _ _ _ h => h) (Or.inl ⟨by rfl, ?_⟩) hS1 ?_
    rotate_left
    · (intro w hSw; (try dsimp only at hSw); go_simp; try with_reducible rfl)
    simp only [List.getElem_toArray, List.getElem_cons_zero, List.getElem_cons_succ, Act.put, List.setIfInBounds_toArray, List.set_cons_zero, List.set_cons_succ]
    refine wpAnyH_take (i := 12) (v := ?_) rfl (by kernel_rfl) (by kernel_rfl) (by kernel_rfl) (fun _ _ _ h => h) (Or.inl ⟨by rfl, ?_⟩) hS1 ?_
    rotate_left
    · (intro w hSw; (try dsimp only at hSw); go_simp; try with_reducible rfl)
    simp only [List.getElem_toArray, List.getElem_cons_zero, List.getElem_cons_succ, Act.put, List.setIfInBounds_toArray, List.set_cons_zero, List.set_cons_succ]
    refine wpAnyH_ready (rs := [13]) (by kernel_rfl) (by simp) ?_
    refine AllReadyH.cons rfl (fun K hK => ?_) AllReadyH.nil
    have f0 := Blk.frozen hC_1 0
    have hN := Blk.set_ hC_1 0 (.int .i64 (now + L))
    have hO := Only.setCell (S := fun k => k = g) ho_1 ⟨g, 0, none⟩ rfl (.int .i64 (now + L))
    obtain ⟨v2, hv2⟩ : ∃ x, v1.setCell ⟨g, 0, none⟩ (.int .i64 (now + L)) = x := ⟨_, rfl⟩
    rw [hv2] at hN hO
    go_simp
    refine hK.out _ _ (Blk.cell hN 2) (fun hS2 => ?_)
    clear hK K hS1
    simp only [List.getElem_toArray, List.getElem_cons_zero, List.getElem_cons_succ, Act.put, List.setIfInBounds_toArray, List.set_cons_zero, List.set_cons_succ]
    refine wpAnyH_done (by kernel_rfl) ?_ _
    have c2 := hS2
    clear hS2
    have c0 := c0_1
    have hC := hC_1
    have ho := ho_1
    clear hC ho c0 c2
    rename_i HV
    clear HV
    have d0 : v2.cell? ⟨g, 0, none⟩ = some (.int .i64 (now + L)) := Blk.cell hN 0
    have d1 : v2.cell? ⟨g, 1, none⟩ = some (.int .i64 cyc) := Blk.cell hN 1
    have hC : CK v2 g (now + L) cyc := hN
    clear hN
    go_wp2_with fail
    refine wp_region_held_drew (S := fun W => W.cell? ⟨g, 0, none⟩ = some (.int .i64 (now + L))) (by kernel_rfl) (by first | exact d0.drew | exact d0 | exact Below.drew d0) (fun hS0 => ?_)
    have d1_0 : v2.drew.cell? ⟨g, 1, none⟩ = some (.int .i64 cyc) := by first | exact d1.drew | exact d1
    have hC_0 : CK v2.drew g (now + L) cyc := by first | exact hC.drew | exact hC
    have hO_0 : Only (fun k => k = g) w v2.drew := by first | exact hO.drew | exact hO
    clear d0 d1 hC hO
    change wpAnyH _ _ _ _ _ 11 #[false, false, false, false, false, false, false, false, false, false, false] _ _
    generalize v2.drew = v0 at *
    refine wpAnyH_take (i := 0) (v := ?_) rfl (by kernel_rfl) (by kernel_rfl) (by kernel_rfl) (fun _ _ _ h => h) (Or.inl ⟨by rfl, ?_⟩) hS0 ?_
    rotate_left
    · (intro w hSw; (try dsimp only at hSw); go_simp; try with_reducible rfl)
    simp only [List.getElem_toArray, List.getElem_cons_zero, List.getElem_cons_succ, Act.put, List.setIfInBounds_toArray, List.set_cons_zero, List.set_cons_succ]
    refine wpAnyH_take (i := 1) (v := ?_) rfl (by kernel_rfl) (by kernel_rfl) (by kernel_rfl) (fun _ _ _ h => h) (Or.inl ⟨by rfl, ?_⟩) hS0 ?_
    rotate_left
    · (intro w hSw; (try dsimp only at hSw); go_simp; try with_reducible rfl)
    simp only [List.getElem_toArray, List.getElem_cons_zero, List.getElem_cons_succ, Act.put, List.setIfInBounds_toArray, List.set_cons_zero, List.set_cons_succ]
    refine wpAnyH_take (i := 2) (v := ?_) rfl (by kernel_rfl) (by kernel_rfl) (by kernel_rfl) (fun _ _ _ h => h) (Or.inl ⟨by rfl, ?_⟩) hS0 ?_
    rotate_left
    · (intro w hSw; (try dsimp only at hSw); go_simp; try with_reducible rfl)
    simp only [List.getElem_toArray, List.getElem_cons_zero, List.getElem_cons_succ, Act.put, List.setIfInBounds_toArray, List.set_cons_zero, List.set_cons_succ]
    refine wpAnyH_take (i := 4) (v := ?_) rfl (by kernel_rfl) (by kernel_rfl) (by kernel_rfl) (fun _ _ _ h => h) (Or.inl ⟨by rfl, ?_⟩) hS0 ?_
    rotate_left
    · (intro w hSw; (try dsimp only at hSw); go_simp; try with_reducible rfl)
    simp only [List.getElem_toArray, List.getElem_cons_zero, List.getElem_cons_succ, Act.put, List.setIfInBounds_toArray, List.set_cons_zero, List.set_cons_succ]
    refine wpAnyH_ready (rs := [3, 5]) (by kernel_rfl) (by simp) ?_
    refine AllReadyH.cons rfl (fun K hK => ?_) ?_
    · -- load 3
      go_simp
      refine hK.out _ _ hS0 (fun _ => ?_)
      clear hK K
      simp only [List.getElem_toArray, List.getElem_cons_zero, List.getElem_cons_succ, Act.put, List.setIfInBounds_toArray, List.set_cons_zero, List.set_cons_succ]
      refine wpAnyH_ready (rs := [5]) (by kernel_rfl) (by simp) ?_
      refine AllReadyH.cons rfl (fun K hK => ?_) AllReadyH.nil
      go_simp
      refine (hi _).mono ?_
      rintro e w' ⟨rfl, rfl⟩
      (try go_simp)
      refine hK.out _ _ hS0 (fun _ => ?_)
      clear hK K
      simp only [List.getElem_toArray, List.getElem_cons_zero, List.getElem_cons_succ, Act.put, List.setIfInBounds_toArray, List.set_cons_zero, List.set_cons_succ]
      refine wpAnyH_take (i := 6) (v := ?_) rfl (by kernel_rfl) (by kernel_rfl) (by kernel_rfl) (fun _ _ _ h => h) (Or.inl ⟨by rfl, ?_⟩) hS0 ?_
      rotate_left
      · (intro w hSw; (try dsimp only at hSw); go_simp; try with_reducible rfl)
      simp only [List.getElem_toArray, List.getElem_cons_zero, List.getElem_cons_succ, Act.put, List.setIfInBounds_toArray, List.set_cons_zero, List.set_cons_succ]
      refine wpAnyH_take (i := 7) (v := ?_) rfl (by kernel_rfl) (by kernel_rfl) (by kernel_rfl) (fun _ _ _ h => h) (Or.inl ⟨by rfl, ?_⟩) hS0 ?_
      rotate_left
      · (intro w hSw; (try dsimp only at hSw); go_simp; try with_reducible rfl)
      simp only [List.getElem_toArray, List.getElem_cons_zero, List.getElem_cons_succ, Act.put, List.setIfInBounds_toArray, List.set_cons_zero, List.set_cons_succ]
      refine wpAnyH_take (i := 8) (v := ?_) rfl (by kernel_rfl) (by kernel_rfl) (by kernel_rfl) (fun _ _ _ h => h) (Or.inl ⟨by rfl, ?_⟩) hS0 ?_
      rotate_left
      · (intro w hSw; (try dsimp only at hSw); go_simp; try with_reducible rfl)
      simp only [List.getElem_toArray, List.getElem_cons_zero, List.getElem_cons_succ, Act.put, List.setIfInBounds_toArray, List.set_cons_zero, List.set_cons_succ]
      refine wpAnyH_take (i := 9) (v := ?_) rfl (by kernel_rfl) (by kernel_rfl) (by kernel_rfl) (fun _ _ _ h => h) (Or.inl ⟨by rfl, ?_⟩) hS0 ?_
      rotate_left
      · (intro w hSw; (try dsimp only at hSw); go_simp; try with_reducible rfl)
      simp only [List.getElem_toArray, List.getElem_cons_zero, List.getElem_cons_succ, Act.put, List.setIfInBounds_toArray, List.set_cons_zero, List.set_cons_succ]
      refine wpAnyH_ready (rs := [10]) (by kernel_rfl) (by simp) ?_
      refine AllReadyH.cons rfl (fun K hK => ?_) AllReadyH.nil
      have f0 := Blk.frozen hC_0 1
      have hN := Blk.set_ hC_0 1 (.int .i64 (cyc + (1 + I)))
      have hQ := Only.setCell (S := fun k => k = g) hO_0 ⟨g, 1, none⟩ rfl (.int .i64 (cyc + (1 + I)))
      obtain ⟨v1, hv1⟩ : ∃ x, v0.setCell ⟨g, 1, none⟩ (.int .i64 (cyc + (1 + I))) = x := ⟨_, rfl⟩
      rw [hv1] at hN hQ
      go_simp
      refine hK.out _ _ (Blk.cell hN 0) (fun hS1 => ?_)
      clear hK K hS0
      simp only [List.getElem_toArray, List.getElem_cons_zero, List.getElem_cons_succ, Act.put, List.setIfInBounds_toArray, List.set_cons_zero, List.set_cons_succ]
      refine wpAnyH_done (by kernel_rfl) ?_ _
      have d0 := hS1
      clear hS1
      have d1 := d1_0
      have hC := hC_0
      have hO := hO_0
      go_wp2_with fail
      go_ret
      exact ⟨rfl, by rw [show cyc + 1 + I = cyc + (1 + I) by omega]; exact hN, hQ⟩
    refine AllReadyH.cons rfl (fun K hK => ?_) ?_
    · -- quiet 5
      go_simp
      refine (hi _).mono ?_
      rintro e w' ⟨rfl, rfl⟩
      (try go_simp)
      refine hK.out _ _ hS0 (fun _ => ?_)
      clear hK K
      simp only [List.getElem_toArray, List.getElem_cons_zero, List.getElem_cons_succ, Act.put, List.setIfInBounds_toArray, List.set_cons_zero, List.set_cons_succ]
      refine wpAnyH_take (i := 6) (v := ?_) rfl (by kernel_rfl) (by kernel_rfl) (by kernel_rfl) (fun _ _ _ h => h) (Or.inl ⟨by rfl, ?_⟩) hS0 ?_
      rotate_left
      · (intro w hSw; (try dsimp only at hSw); go_simp; try with_reducible rfl)
      simp only [List.getElem_toArray, List.getElem_cons_zero, List.getElem_cons_succ, Act.put, List.setIfInBounds_toArray, List.set_cons_zero, List.set_cons_succ]
      refine wpAnyH_ready (rs := [3]) (by kernel_rfl) (by simp) ?_
      refine AllReadyH.cons rfl (fun K hK => ?_) AllReadyH.nil
      go_simp
      refine hK.out _ _ hS0 (fun _ => ?_)
      clear hK K
      simp only [List.getElem_toArray, List.getElem_cons_zero, List.getElem_cons_succ, Act.put, List.setIfInBounds_toArray, List.set_cons_zero, List.set_cons_succ]
      refine wpAnyH_take (i := 7) (v := ?_) rfl (by kernel_rfl) (by kernel_rfl) (by kernel_rfl) (fun _ _ _ h => h) (Or.inl ⟨by rfl, ?_⟩) hS0 ?_
      rotate_left
      · (intro w hSw; (try dsimp only at hSw); go_simp; try with_reducible rfl)
      simp only [List.getElem_toArray, List.getElem_cons_zero, List.getElem_cons_succ, Act.put, List.setIfInBounds_toArray, List.set_cons_zero, List.set_cons_succ]
      refine wpAnyH_take (i := 8) (v := ?_) rfl (by kernel_rfl) (by kernel_rfl) (by kernel_rfl) (fun _ _ _ h => h) (Or.inl ⟨by rfl, ?_⟩) hS0 ?_
      rotate_left
      · (intro w hSw; (try dsimp only at hSw); go_simp; try with_reducible rfl)
      simp only [List.getElem_toArray, List.getElem_cons_zero, List.getElem_cons_succ, Act.put, List.setIfInBounds_toArray, List.set_cons_zero, List.set_cons_succ]
      refine wpAnyH_take (i := 9) (v := ?_) rfl (by kernel_rfl) (by kernel_rfl) (by kernel_rfl) (fun _ _ _ h => h) (Or.inl ⟨by rfl, ?_⟩) hS0 ?_
      rotate_left
      · (intro w hSw; (try dsimp only at hSw); go_simp; try with_reducible rfl)
      simp only [List.getElem_toArray, List.getElem_cons_zero, List.getElem_cons_succ, Act.put, List.setIfInBounds_toArray, List.set_cons_zero, List.set_cons_succ]
      refine wpAnyH_ready (rs := [10]) (by kernel_rfl) (by simp) ?_
      refine AllReadyH.cons rfl (fun K hK => ?_) AllReadyH.nil
      have f0 := Blk.frozen hC_0 1
      have hN := Blk.set_ hC_0 1 (.int .i64 (cyc + (1 + I)))
      have hQ := Only.setCell (S := fun k => k = g) hO_0 ⟨g, 1, none⟩ rfl (.int .i64 (cyc + (1 + I)))
      obtain ⟨v1, hv1⟩ : ∃ x, v0.setCell ⟨g, 1, none⟩ (.int .i64 (cyc + (1 + I))) = x := ⟨_, rfl⟩
      rw [hv1] at hN hQ
      go_simp
      refine hK.out _ _ (Blk.cell hN 0) (fun hS1 => ?_)
      clear hK K hS0
      simp only [List.getElem_toArray, List.getElem_cons_zero, List.getElem_cons_succ, Act.put, List.setIfInBounds_toArray, List.set_cons_zero, List.set_cons_succ]
      refine wpAnyH_done (by kernel_rfl) ?_ _
      have d0 := hS1
      clear hS1
      have d1 := d1_0
      have hC := hC_0
      have hO := hO_0
      go_wp2_with fail
      go_ret
      exact ⟨rfl, by rw [show cyc + 1 + I = cyc + (1 + I) by omega]; exact hN, hQ⟩
    exact AllReadyH.nil
  refine AllReadyH.cons rfl (fun K hK => ?_) ?_
  · -- call 9
    go_simp
    refine (hl _).mono ?_
    rintro e v1 ⟨rfl, hb1⟩
    (try go_simp)
    refine hK.out _ _ ((hb1.cell (cell_lt hS0)).trans hS0) (fun hS1 => ?_)
    clear hK K
    have c0_1 : v1.cell? ⟨g, 0, none⟩ = some (.int .i64 now) := ((hb1.cell (cell_lt c0_0)).trans c0_0)
    have hC_1 : CK v1 g now cyc := (by first | exact hC_0.below hb1 hC_0.lt | exact hC_0.trans (hb1.mono hC_0.size) | exact hC_0.trans (hb1.mono (by have := hC_0.size; omega)) | exact (hb1.cell (cell_lt hC_0)).trans hC_0 | exact hC_0.below hb1 (Nat.le_refl _) | exact hC_0.low hb1 | exact hC_0.below hb1 | exact hC_0.trans (Only.of hb1))
    have ho_1 : Only (fun k => k = g) w v1 := (ho_0.trans (Only.of hb1))
    clear hb1 hS0
    simp only [List.getElem_toArray, List.getElem_cons_zero, List.getElem_cons_succ, Act.put, List.setIfInBounds_toArray, List.set_cons_zero, List.set_cons_succ]
    refine wpAnyH_ready (rs := [3]) (by kernel_rfl) (by simp) ?_
    refine AllReadyH.cons rfl (fun K hK => ?_) AllReadyH.nil
    go_simp
    refine hK.out _ _ hS1 (fun _ => ?_)
    clear hK K
    simp only [List.getElem_toArray, List.getElem_cons_zero, List.getElem_cons_succ, Act.put, List.setIfInBounds_toArray, List.set_cons_zero, List.set_cons_succ]
    refine wpAnyH_take (i := 10) (v := ?_) rfl (by kernel_rfl) (by kernel_rfl) (by kernel_rfl) (fun _ _ _ h => h) (Or.inl ⟨by rfl, ?_⟩) hS1 ?_
    rotate_left
    · (intro w hSw; (try dsimp only at hSw); go_simp; try with_reducible rfl)
    simp only [List.getElem_toArray, List.getElem_cons_zero, List.getElem_cons_succ, Act.put, List.setIfInBounds_toArray, List.set_cons_zero, List.set_cons_succ]
    refine wpAnyH_take (i := 11) (v := ?_) rfl (by kernel_rfl) (by kernel_rfl) (by kernel_rfl) (fun _ _ _ h => h) (Or.inl ⟨by rfl, ?_⟩) hS1 ?_
    rotate_left
    · (intro w hSw; (try dsimp only at hSw); go_simp; try with_reducible rfl)
    simp only [List.getElem_toArray, List.getElem_cons_zero, List.getElem_cons_succ, Act.put, List.setIfInBounds_toArray, List.set_cons_zero, List.set_cons_succ]
    refine wpAnyH_take (i := 12) (v := ?_) rfl (by kernel_rfl) (by kernel_rfl) (by kernel_rfl) (fun _ _ _ h => h) (Or.inl ⟨by rfl, ?_⟩) hS1 ?_
    rotate_left
    · (intro w hSw; (try dsimp only at hSw); go_simp; try with_reducible rfl)
    simp only [List.getElem_toArray, List.getElem_cons_zero, List.getElem_cons_succ, Act.put, List.setIfInBounds_toArray, List.set_cons_zero, List.set_cons_succ]
    refine wpAnyH_ready (rs := [13]) (by kernel_rfl) (by simp) ?_
    refine AllReadyH.cons rfl (fun K hK => ?_) AllReadyH.nil
    have f0 := Blk.frozen hC_1 0
    have hN := Blk.set_ hC_1 0 (.int .i64 (now + L))
    have hO := Only.setCell (S := fun k => k = g) ho_1 ⟨g, 0, none⟩ rfl (.int .i64 (now + L))
    obtain ⟨v2, hv2⟩ : ∃ x, v1.setCell ⟨g, 0, none⟩ (.int .i64 (now + L)) = x := ⟨_, rfl⟩
    rw [hv2] at hN hO
    go_simp
    refine hK.out _ _ (Blk.cell hN 2) (fun hS2 => ?_)
    clear hK K hS1
    simp only [List.getElem_toArray, List.getElem_cons_zero, List.getElem_cons_succ, Act.put, List.setIfInBounds_toArray, List.set_cons_zero, List.set_cons_succ]
    refine wpAnyH_done (by kernel_rfl) ?_ _
    have c2 := hS2
    clear hS2
    have c0 := c0_1
    have hC := hC_1
    have ho := ho_1
    clear hC ho c0 c2
    rename_i HV
    clear HV
    have d0 : v2.cell? ⟨g, 0, none⟩ = some (.int .i64 (now + L)) := Blk.cell hN 0
    have d1 : v2.cell? ⟨g, 1, none⟩ = some (.int .i64 cyc) := Blk.cell hN 1
    have hC : CK v2 g (now + L) cyc := hN
    clear hN
    go_wp2_with fail
    refine wp_region_held_drew (S := fun W => W.cell? ⟨g, 0, none⟩ = some (.int .i64 (now + L))) (by kernel_rfl) (by first | exact d0.drew | exact d0 | exact Below.drew d0) (fun hS0 => ?_)
    have d1_0 : v2.drew.cell? ⟨g, 1, none⟩ = some (.int .i64 cyc) := by first | exact d1.drew | exact d1
    have hC_0 : CK v2.drew g (now + L) cyc := by first | exact hC.drew | exact hC
    have hO_0 : Only (fun k => k = g) w v2.drew := by first | exact hO.drew | exact hO
    clear d0 d1 hC hO
    change wpAnyH _ _ _ _ _ 11 #[false, false, false, false, false, false, false, false, false, false, false] _ _
    generalize v2.drew = v0 at *
    refine wpAnyH_take (i := 0) (v := ?_) rfl (by kernel_rfl) (by kernel_rfl) (by kernel_rfl) (fun _ _ _ h => h) (Or.inl ⟨by rfl, ?_⟩) hS0 ?_
    rotate_left
    · (intro w hSw; (try dsimp only at hSw); go_simp; try with_reducible rfl)
    simp only [List.getElem_toArray, List.getElem_cons_zero, List.getElem_cons_succ, Act.put, List.setIfInBounds_toArray, List.set_cons_zero, List.set_cons_succ]
    refine wpAnyH_take (i := 1) (v := ?_) rfl (by kernel_rfl) (by kernel_rfl) (by kernel_rfl) (fun _ _ _ h => h) (Or.inl ⟨by rfl, ?_⟩) hS0 ?_
    rotate_left
    · (intro w hSw; (try dsimp only at hSw); go_simp; try with_reducible rfl)
    simp only [List.getElem_toArray, List.getElem_cons_zero, List.getElem_cons_succ, Act.put, List.setIfInBounds_toArray, List.set_cons_zero, List.set_cons_succ]
    refine wpAnyH_take (i := 2) (v := ?_) rfl (by kernel_rfl) (by kernel_rfl) (by kernel_rfl) (fun _ _ _ h => h) (Or.inl ⟨by rfl, ?_⟩) hS0 ?_
    rotate_left
    · (intro w hSw; (try dsimp only at hSw); go_simp; try with_reducible rfl)
    simp only [List.getElem_toArray, List.getElem_cons_zero, List.getElem_cons_succ, Act.put, List.setIfInBounds_toArray, List.set_cons_zero, List.set_cons_succ]
    refine wpAnyH_take (i := 4) (v := ?_) rfl (by kernel_rfl) (by kernel_rfl) (by kernel_rfl) (fun _ _ _ h => h) (Or.inl ⟨by rfl, ?_⟩) hS0 ?_
    rotate_left
    · (intro w hSw; (try dsimp only at hSw); go_simp; try with_reducible rfl)
    simp only [List.getElem_toArray, List.getElem_cons_zero, List.getElem_cons_succ, Act.put, List.setIfInBounds_toArray, List.set_cons_zero, List.set_cons_succ]
    refine wpAnyH_ready (rs := [3, 5]) (by kernel_rfl) (by simp) ?_
    refine AllReadyH.cons rfl (fun K hK => ?_) ?_
    · -- load 3
      go_simp
      refine hK.out _ _ hS0 (fun _ => ?_)
      clear hK K
      simp only [List.getElem_toArray, List.getElem_cons_zero, List.getElem_cons_succ, Act.put, List.setIfInBounds_toArray, List.set_cons_zero, List.set_cons_succ]
      refine wpAnyH_ready (rs := [5]) (by kernel_rfl) (by simp) ?_
      refine AllReadyH.cons rfl (fun K hK => ?_) AllReadyH.nil
      go_simp
      refine (hi _).mono ?_
      rintro e w' ⟨rfl, rfl⟩
      (try go_simp)
      refine hK.out _ _ hS0 (fun _ => ?_)
      clear hK K
      simp only [List.getElem_toArray, List.getElem_cons_zero, List.getElem_cons_succ, Act.put, List.setIfInBounds_toArray, List.set_cons_zero, List.set_cons_succ]
      refine wpAnyH_take (i := 6) (v := ?_) rfl (by kernel_rfl) (by kernel_rfl) (by kernel_rfl) (fun _ _ _ h => h) (Or.inl ⟨by rfl, ?_⟩) hS0 ?_
      rotate_left
      · (intro w hSw; (try dsimp only at hSw); go_simp; try with_reducible rfl)
      simp only [List.getElem_toArray, List.getElem_cons_zero, List.getElem_cons_succ, Act.put, List.setIfInBounds_toArray, List.set_cons_zero, List.set_cons_succ]
      refine wpAnyH_take (i := 7) (v := ?_) rfl (by kernel_rfl) (by kernel_rfl) (by kernel_rfl) (fun _ _ _ h => h) (Or.inl ⟨by rfl, ?_⟩) hS0 ?_
      rotate_left
      · (intro w hSw; (try dsimp only at hSw); go_simp; try with_reducible rfl)
      simp only [List.getElem_toArray, List.getElem_cons_zero, List.getElem_cons_succ, Act.put, List.setIfInBounds_toArray, List.set_cons_zero, List.set_cons_succ]
      refine wpAnyH_take (i := 8) (v := ?_) rfl (by kernel_rfl) (by kernel_rfl) (by kernel_rfl) (fun _ _ _ h => h) (Or.inl ⟨by rfl, ?_⟩) hS0 ?_
      rotate_left
      · (intro w hSw; (try dsimp only at hSw); go_simp; try with_reducible rfl)
      simp only [List.getElem_toArray, List.getElem_cons_zero, List.getElem_cons_succ, Act.put, List.setIfInBounds_toArray, List.set_cons_zero, List.set_cons_succ]
      refine wpAnyH_take (i := 9) (v := ?_) rfl (by kernel_rfl) (by kernel_rfl) (by kernel_rfl) (fun _ _ _ h => h) (Or.inl ⟨by rfl, ?_⟩) hS0 ?_
      rotate_left
      · (intro w hSw; (try dsimp only at hSw); go_simp; try with_reducible rfl)
      simp only [List.getElem_toArray, List.getElem_cons_zero, List.getElem_cons_succ, Act.put, List.setIfInBounds_toArray, List.set_cons_zero, List.set_cons_succ]
      refine wpAnyH_ready (rs := [10]) (by kernel_rfl) (by simp) ?_
      refine AllReadyH.cons rfl (fun K hK => ?_) AllReadyH.nil
      have f0 := Blk.frozen hC_0 1
      have hN := Blk.set_ hC_0 1 (.int .i64 (cyc + (1 + I)))
      have hQ := Only.setCell (S := fun k => k = g) hO_0 ⟨g, 1, none⟩ rfl (.int .i64 (cyc + (1 + I)))
      obtain ⟨v1, hv1⟩ : ∃ x, v0.setCell ⟨g, 1, none⟩ (.int .i64 (cyc + (1 + I))) = x := ⟨_, rfl⟩
      rw [hv1] at hN hQ
      go_simp
      refine hK.out _ _ (Blk.cell hN 0) (fun hS1 => ?_)
      clear hK K hS0
      simp only [List.getElem_toArray, List.getElem_cons_zero, List.getElem_cons_succ, Act.put, List.setIfInBounds_toArray, List.set_cons_zero, List.set_cons_succ]
      refine wpAnyH_done (by kernel_rfl) ?_ _
      have d0 := hS1
      clear hS1
      have d1 := d1_0
      have hC := hC_0
      have hO := hO_0
      go_wp2_with fail
      go_ret
      exact ⟨rfl, by rw [show cyc + 1 + I = cyc + (1 + I) by omega]; exact hN, hQ⟩
    refine AllReadyH.cons rfl (fun K hK => ?_) ?_
    · -- quiet 5
      go_simp
      refine (hi _).mono ?_
      rintro e w' ⟨rfl, rfl⟩
      (try go_simp)
      refine hK.out _ _ hS0 (fun _ => ?_)
      clear hK K
      simp only [List.getElem_toArray, List.getElem_cons_zero, List.getElem_cons_succ, Act.put, List.setIfInBounds_toArray, List.set_cons_zero, List.set_cons_succ]
      refine wpAnyH_take (i := 6) (v := ?_) rfl (by kernel_rfl) (by kernel_rfl) (by kernel_rfl) (fun _ _ _ h => h) (Or.inl ⟨by rfl, ?_⟩) hS0 ?_
      rotate_left
      · (intro w hSw; (try dsimp only at hSw); go_simp; try with_reducible rfl)
      simp only [List.getElem_toArray, List.getElem_cons_zero, List.getElem_cons_succ, Act.put, List.setIfInBounds_toArray, List.set_cons_zero, List.set_cons_succ]
      refine wpAnyH_ready (rs := [3]) (by kernel_rfl) (by simp) ?_
      refine AllReadyH.cons rfl (fun K hK => ?_) AllReadyH.nil
      go_simp
      refine hK.out _ _ hS0 (fun _ => ?_)
      clear hK K
      simp only [List.getElem_toArray, List.getElem_cons_zero, List.getElem_cons_succ, Act.put, List.setIfInBounds_toArray, List.set_cons_zero, List.set_cons_succ]
      refine wpAnyH_take (i := 7) (v := ?_) rfl (by kernel_rfl) (by kernel_rfl) (by kernel_rfl) (fun _ _ _ h => h) (Or.inl ⟨by rfl, ?_⟩) hS0 ?_
      rotate_left
      · (intro w hSw; (try dsimp only at hSw); go_simp; try with_reducible rfl)
      simp only [List.getElem_toArray, List.getElem_cons_zero, List.getElem_cons_succ, Act.put, List.setIfInBounds_toArray, List.set_cons_zero, List.set_cons_succ]
      refine wpAnyH_take (i := 8) (v := ?_) rfl (by kernel_rfl) (by kernel_rfl) (by kernel_rfl) (fun _ _ _ h => h) (Or.inl ⟨by rfl, ?_⟩) hS0 ?_
      rotate_left
      · (intro w hSw; (try dsimp only at hSw); go_simp; try with_reducible rfl)
      simp only [List.getElem_toArray, List.getElem_cons_zero, List.getElem_cons_succ, Act.put, List.setIfInBounds_toArray, List.set_cons_zero, List.set_cons_succ]
      refine wpAnyH_take (i := 9) (v := ?_) rfl (by kernel_rfl) (by kernel_rfl) (by kernel_rfl) (fun _ _ _ h => h) (Or.inl ⟨by rfl, ?_⟩) hS0 ?_
      rotate_left
      · (intro w hSw; (try dsimp only at hSw); go_simp; try with_reducible rfl)
      simp only [List.getElem_toArray, List.getElem_cons_zero, List.getElem_cons_succ, Act.put, List.setIfInBounds_toArray, List.set_cons_zero, List.set_cons_succ]
      refine wpAnyH_ready (rs := [10]) (by kernel_rfl) (by simp) ?_
      refine AllReadyH.cons rfl (fun K hK => ?_) AllReadyH.nil
      have f0 := Blk.frozen hC_0 1
      have hN := Blk.set_ hC_0 1 (.int .i64 (cyc + (1 + I)))
      have hQ := Only.setCell (S := fun k => k = g) hO_0 ⟨g, 1, none⟩ rfl (.int .i64 (cyc + (1 + I)))
      obtain ⟨v1, hv1⟩ : ∃ x, v0.setCell ⟨g, 1, none⟩ (.int .i64 (cyc + (1 + I))) = x := ⟨_, rfl⟩
      rw [hv1] at hN hQ
      go_simp
      refine hK.out _ _ (Blk.cell hN 0) (fun hS1 => ?_)
      clear hK K hS0
      simp only [List.getElem_toArray, List.getElem_cons_zero, List.getElem_cons_succ, Act.put, List.setIfInBounds_toArray, List.set_cons_zero, List.set_cons_succ]
      refine wpAnyH_done (by kernel_rfl) ?_ _
      have d0 := hS1
      clear hS1
      have d1 := d1_0
      have hC := hC_0
      have hO := hO_0
      go_wp2_with fail
      go_ret
      exact ⟨rfl, by rw [show cyc + 1 + I = cyc + (1 + I) by omega]; exact hN, hQ⟩
    exact AllReadyH.nil
  exact AllReadyH.nil
end Go.Proofs.YtplobngbjpgcgaaGreatDoor
end
