/-
  hard: Write to the controller, To, Status, Choose, as far as TopTicks goes.
-/
import Derived.Test.YtggcnlcnmaaopaaTick1
namespace Go.Proofs.Ytggcnlcnmaaopaa
set_option linter.unusedSimpArgs false
set_option linter.unusedVariables false
set_option maxRecDepth 10000
open Go.RowKit Pl
theorem only_setRow (w : World) (g : Nat) (cs : Array Value) : Only (fun k => k = g) w (w.setRow g cs) := ⟨rfl, rfl, rfl, by rw [setRow_size]; exact Nat.le_refl _, fun k _ hk => setRow_block _ _ _ _ hk⟩
set_option maxRecDepth 100000 in
set_option maxHeartbeats 4000000 in
/-- A register of the controller is written. -/
theorem hdWriteI (D : DevA) (R C d h off b : Nat) (on u : Bool) (L now : Int) (w : World) (hoff : off < 65536) (hb : b < 256) (hw : whr (adr 255 off) = 8) (hD : Dev w D R C on L d u now h) :
    Calls Try.prog 6 #[.pointer (some ⟨D.p, 0, none⟩), .int .u16 (off : Int), .int .u8 (b : Int)] w fun e w' => e = .returned (.tuple #[]) ∧ Dev w' D R C on L (wrD (rgO 8 (adr 255 off % 8192)) b d) (wrU (rgO 8 (adr 255 off % 8192)) u) now b ∧ Below D.l w w' := by
  have hal := adr_lt off
  have hpl := fun W => hdPlace_calls off W hoff
  have hwh := fun W => phWhere_calls (adr 255 off) W hal
  have hrg := fun W => phReg_calls (adr 255 off) W hal
  rw [hw] at hwh hrg
  obtain ⟨ad, had⟩ : ∃ x, adr 255 off = x := ⟨_, rfl⟩
  obtain ⟨rg, hrg'⟩ : ∃ x, rgO 8 (ad % 8192) = x := ⟨_, rfl⟩
  rw [had] at hpl hwh hrg ⊢
  rw [hrg'] at hrg ⊢
  have hl0 : D.l < w.heap.size := Blk.lt hD.Li
  clear hal hw had hrg' hoff
  go_enter Try.func6, Try.ntmps6
  (go_wp2_with fail; refine Cl.p (hpl _) ?_)
  go_wp2_with fail
  refine Cl.m (hwh _) ?_
  intro w1 hb1
  have hD1 := hD.low hb1
  have hB1 : Below D.l w w1 := hb1.mono (Nat.le_of_lt hl0)
  obtain ⟨c0, c1, c2, c3, c4, c5, c6, c7⟩ := hD1.cells
  clear hpl hwh hD hb1 c0 c1 c4 c5 c6 c7
  go_wp2_with fail
  refine wp_region_held_drew (S := fun W => W.cell? ⟨D.p, 3, none⟩ = some (.pointer (some ⟨D.a, 0, none⟩)) ∧ W.cell? ⟨D.p, 2, none⟩ = some (.pointer (some ⟨D.bu, 0, none⟩))) (by kernel_rfl) ⟨(by first | exact c3.drew | exact c3 | exact Below.drew c3), (by first | exact c2.drew | exact c2 | exact Below.drew c2)⟩ (fun hS0 => ?_)
  have hD1_0 : Dev w1.drew D R C on L d u now h := by first | exact hD1.drew | exact hD1
  have hB1_0 : Below D.l w w1.drew := by first | exact hB1.drew | exact hB1
  clear c3 c2 hD1 hB1
  change wpAnyH _ _ _ _ _ 8 #[false, false, false, false, false, false, false, false] _ _
  generalize w1.drew = v0 at *
  refine wpAnyH_take (i := 0) (v := ?_) rfl (by kernel_rfl) (by kernel_rfl) (by kernel_rfl) (fun _ _ _ h => h) (Or.inl ⟨by rfl, ?_⟩) hS0 ?_
  rotate_left
  · (intro w hSw; (try dsimp only at hSw); go_simp; try with_reducible rfl)
  simp only [List.getElem_toArray, List.getElem_cons_zero, List.getElem_cons_succ, Act.put, List.setIfInBounds_toArray, List.set_cons_zero, List.set_cons_succ]
  refine wpAnyH_take (i := 1) (v := ?_) rfl (by kernel_rfl) (by kernel_rfl) (by kernel_rfl) (fun _ _ _ h => h) (Or.inl ⟨by rfl, ?_⟩) hS0 ?_
  rotate_left
  · (intro w hSw; (try dsimp only at hSw); go_simp; try with_reducible rfl)
  simp only [List.getElem_toArray, List.getElem_cons_zero, List.getElem_cons_succ, Act.put, List.setIfInBounds_toArray, List.set_cons_zero, List.set_cons_succ]
  refine wpAnyH_take (i := 2) (v := ?_) rfl (by kernel_rfl) (by kernel_rfl) (by kernel_rfl) (fun _ _ _ h => h) (Or.inl ⟨by rfl, ?_⟩) hS0 ?_
  rotate_left
  · (intro w hSw; (try dsimp only at hSw); go_simp; try with_reducible rfl)
  simp only [List.getElem_toArray, List.getElem_cons_zero, List.getElem_cons_succ, Act.put, List.setIfInBounds_toArray, List.set_cons_zero, List.set_cons_succ]
  refine wpAnyH_take (i := 3) (v := ?_) rfl (by kernel_rfl) (by kernel_rfl) (by kernel_rfl) (fun _ _ _ h => h) (Or.inl ⟨by rfl, ?_⟩) hS0 ?_
  rotate_left
  · (intro w hSw; (try dsimp only at hSw); go_simp; try with_reducible rfl)
  simp only [List.getElem_toArray, List.getElem_cons_zero, List.getElem_cons_succ, Act.put, List.setIfInBounds_toArray, List.set_cons_zero, List.set_cons_succ]
  refine wpAnyH_take (i := 4) (v := ?_) rfl (by kernel_rfl) (by kernel_rfl) (by kernel_rfl) (fun _ _ _ h => h) (Or.inl ⟨by rfl, ?_⟩) hS0 ?_
  rotate_left
  · (intro w hSw; (try dsimp only at hSw); go_simp; try with_reducible rfl)
  simp only [List.getElem_toArray, List.getElem_cons_zero, List.getElem_cons_succ, Act.put, List.setIfInBounds_toArray, List.set_cons_zero, List.set_cons_succ]
  refine wpAnyH_take (i := 6) (v := ?_) rfl (by kernel_rfl) (by kernel_rfl) (by kernel_rfl) (fun _ _ _ h => h) (Or.inl ⟨by rfl, ?_⟩) hS0 ?_
  rotate_left
  · (intro w hSw; (try dsimp only at hSw); go_simp; try with_reducible rfl)
  simp only [List.getElem_toArray, List.getElem_cons_zero, List.getElem_cons_succ, Act.put, List.setIfInBounds_toArray, List.set_cons_zero, List.set_cons_succ]
  refine wpAnyH_ready (rs := [5]) (by kernel_rfl) (by simp) ?_
  refine AllReadyH.cons rfl (fun K hK => ?_) AllReadyH.nil
  go_simp
  refine (hrg _).mono ?_
  rintro e v1 ⟨rfl, hb1⟩
  (try go_simp)
  refine hK.out _ _ ⟨(by first | exact hS0.1.below hb1 hS0.1.lt | exact hS0.1.trans (hb1.mono hS0.1.size) | exact hS0.1.trans (hb1.mono (by have := hS0.1.size; omega)) | exact (hb1.cell (cell_lt hS0.1)).trans hS0.1 | exact hS0.1.below hb1 (Nat.le_refl _) | exact hS0.1.low hb1 | exact hS0.1.below hb1), (by first | exact hS0.2.below hb1 hS0.2.lt | exact hS0.2.trans (hb1.mono hS0.2.size) | exact hS0.2.trans (hb1.mono (by have := hS0.2.size; omega)) | exact (hb1.cell (cell_lt hS0.2)).trans hS0.2 | exact hS0.2.below hb1 (Nat.le_refl _) | exact hS0.2.low hb1 | exact hS0.2.below hb1)⟩ (fun hS1 => ?_)
  clear hK K
  have hD1_1 : Dev v1 D R C on L d u now h := (by first | exact hD1_0.below hb1 hD1_0.lt | exact hD1_0.trans (hb1.mono hD1_0.size) | exact hD1_0.trans (hb1.mono (by have := hD1_0.size; omega)) | exact (hb1.cell (cell_lt hD1_0)).trans hD1_0 | exact hD1_0.below hb1 (Nat.le_refl _) | exact hD1_0.low hb1 | exact hD1_0.below hb1)
  have hB1_1 : Below D.l w v1 := (by first | exact hB1_0.below hb1 hB1_0.lt | exact hB1_0.trans (hb1.mono hB1_0.size) | exact hB1_0.trans (hb1.mono (by have := hB1_0.size; omega)) | exact (hb1.cell (cell_lt hB1_0)).trans hB1_0 | exact hB1_0.below hb1 (Nat.le_refl _) | exact hB1_0.low hb1 | exact hB1_0.below hb1)
  clear hb1 hS0
  simp only [List.getElem_toArray, List.getElem_cons_zero, List.getElem_cons_succ, Act.put, List.setIfInBounds_toArray, List.set_cons_zero, List.set_cons_succ]
  refine wpAnyH_ready (rs := [7]) (by kernel_rfl) (by simp) ?_
  refine AllReadyH.cons rfl (fun K hK => ?_) AllReadyH.nil
  go_simp
  refine (iqWrite_calls D.a d b u rg _ hb (Dev.I hD1_1)).mono ?_
  rintro e v2 ⟨⟨v, rfl⟩, q1, q2⟩
  have hN := Dev.setI hD1_1 q1 q2
  have hNB : Below D.l w v2 := (Below.trans hB1_1 (q2.below (Nat.le_of_lt (Nat.lt_of_lt_of_le hl0 (Below.size hB1_1))) (fun k e => by have := Dev.ap hD1_1; omega)))
  (try go_simp)
  refine hK.out _ _ ⟨(Dev.cells hN).2.2.2.1, (Dev.cells hN).2.2.1⟩ (fun hS2 => ?_)
  clear hK K hS1
  simp only [List.getElem_toArray, List.getElem_cons_zero, List.getElem_cons_succ, Act.put, List.setIfInBounds_toArray, List.set_cons_zero, List.set_cons_succ]
  refine wpAnyH_done (by kernel_rfl) ?_ _
  have c3 := hS2.1
  have c2 := hS2.2
  clear hS2
  generalize v2 = w3 at *
  go_wp2_with fail
  refine (latWrite_calls D.bu h b w3 hN.A).mono ?_
  rintro e w4 ⟨rfl, q3, q4⟩
  have hM := hN.setA q3 q4
  have hMB := hNB.trans (q4.below (Nat.le_of_lt (Nat.lt_of_lt_of_le hl0 hNB.size)) (fun k e => by have := hN.ap; omega))
  go_wp2_with fail
  go_end0
  exact ⟨rfl, hM, hMB⟩
set_option maxRecDepth 100000 in
set_option maxHeartbeats 4000000 in
/-- On to a stamp, the timer not over. -/
theorem hdToA (D : DevA) (R C d h R' C' : Nat) (on u on' : Bool) (L L' now stamp dl : Int) (w : World) (h0 : now < stamp) (hdl : stamp - now = dl) (h1 : 0 ≤ now) (h2 : stamp ≤ 1000000) (hD : Dev w D R C on L d u now h)
    (ht : ∀ W, TB W D.t R C on L → Calls Try.prog 28 #[.pointer (some ⟨D.t, 0, none⟩), .int .i64 dl] W fun e w' => e = .returned (.int .i64 0) ∧ TB w' D.t R' C' on' L' ∧ Only (fun k => k = D.t) W w') :
    Calls Try.prog 10 #[.pointer (some ⟨D.p, 0, none⟩), .int .i64 stamp] w fun e w' => e = .returned (.tuple #[]) ∧ Dev w' D R' C' on' L' d u stamp h ∧ Below D.l w w' := by
  have i1 : (decide (stamp ≤ now)) = false := by rw [decide_eq_false_iff_not]; omega
  have i2 : IntKind.i64.wrap dl = dl := by rw [IntKind.wrap_i64]; omega
  have hl0 : D.l < w.heap.size := Blk.lt hD.Li
  have hB : Below D.l w w := Below.refl _ _
  obtain ⟨c0, c1, c2, c3, c4, c5, c6, c7⟩ := hD.cells
  clear c1 c2 c3 c4 c5 c6
  go_enter Try.func10, Try.ntmps10
  go_wp2_with fail
  refine wp_region_held_drew (S := fun W => W.cell? ⟨D.p, 0, none⟩ = some (.pointer (some ⟨D.t, 0, none⟩)) ∧ W.cell? ⟨D.p, 7, none⟩ = some (.int .i64 now)) (by kernel_rfl) ⟨(by first | exact c0.drew | exact c0 | exact Below.drew c0), (by first | exact c7.drew | exact c7 | exact Below.drew c7)⟩ (fun hS0 => ?_)
  have hD_0 : Dev w.drew D R C on L d u now h := by first | exact hD.drew | exact hD
  have hB_0 : Below D.l w w.drew := by first | exact hB.drew | exact hB
  clear c0 c7 hD hB
  change wpAnyH _ _ _ _ _ 12 #[false, false, false, false, false, false, false, false, false, false, false, false] _ _
  generalize w.drew = v0 at *
  refine wpAnyH_take (i := 0) (v := ?_) rfl (by kernel_rfl) (by kernel_rfl) (by kernel_rfl) (fun _ _ _ h => h) (Or.inl ⟨by rfl, ?_⟩) hS0 ?_
  rotate_left
  · (intro w hSw; (try dsimp only at hSw); go_simp; try with_reducible rfl)
  simp only [List.getElem_toArray, List.getElem_cons_zero, List.getElem_cons_succ, Act.put, List.setIfInBounds_toArray, List.set_cons_zero, List.set_cons_succ]
  refine wpAnyH_take (i := 1) (v := ?_) rfl (by kernel_rfl) (by kernel_rfl) (by kernel_rfl) (fun _ _ _ h => h) (Or.inl ⟨by rfl, ?_⟩) hS0 ?_
  rotate_left
  · (intro w hSw; (try dsimp only at hSw); go_simp; try with_reducible rfl)
  simp only [List.getElem_toArray, List.getElem_cons_zero, List.getElem_cons_succ, Act.put, List.setIfInBounds_toArray, List.set_cons_zero, List.set_cons_succ]
  refine wpAnyH_take (i := 2) (v := ?_) rfl (by kernel_rfl) (by kernel_rfl) (by kernel_rfl) (fun _ _ _ h => h) (Or.inl ⟨by rfl, ?_⟩) hS0 ?_
  rotate_left
  · (intro w hSw; (try dsimp only at hSw); go_simp; try with_reducible rfl)
  simp only [List.getElem_toArray, List.getElem_cons_zero, List.getElem_cons_succ, Act.put, List.setIfInBounds_toArray, List.set_cons_zero, List.set_cons_succ]
  refine wpAnyH_take (i := 3) (v := ?_) rfl (by kernel_rfl) (by kernel_rfl) (by kernel_rfl) (fun _ _ _ h => h) (Or.inl ⟨by rfl, ?_⟩) hS0 ?_
  rotate_left
  · (intro w hSw; (try dsimp only at hSw); go_simp; try with_reducible rfl)
  simp only [List.getElem_toArray, List.getElem_cons_zero, List.getElem_cons_succ, Act.put, List.setIfInBounds_toArray, List.set_cons_zero, List.set_cons_succ]
  refine wpAnyH_take (i := 4) (v := ?_) rfl (by kernel_rfl) (by kernel_rfl) (by kernel_rfl) (fun _ _ _ h => h) (Or.inl ⟨by rfl, ?_⟩) hS0 ?_
  rotate_left
  · (intro w hSw; (try dsimp only at hSw); go_simp; try with_reducible rfl)
  simp only [List.getElem_toArray, List.getElem_cons_zero, List.getElem_cons_succ, Act.put, List.setIfInBounds_toArray, List.set_cons_zero, List.set_cons_succ]
  refine wpAnyH_take (i := 5) (v := ?_) rfl (by kernel_rfl) (by kernel_rfl) (by kernel_rfl) (fun _ _ _ h => h) (Or.inl ⟨by rfl, ?_⟩) hS0 ?_
  rotate_left
  · (intro w hSw; (try dsimp only at hSw); go_simp; try with_reducible rfl)
  simp only [List.getElem_toArray, List.getElem_cons_zero, List.getElem_cons_succ, Act.put, List.setIfInBounds_toArray, List.set_cons_zero, List.set_cons_succ]
  refine wpAnyH_take (i := 6) (v := ?_) rfl (by kernel_rfl) (by kernel_rfl) (by kernel_rfl) (fun _ _ _ h => h) (Or.inl ⟨by rfl, ?_⟩) hS0 ?_
  rotate_left
  · (intro w hSw; (try dsimp only at hSw); go_simp; try with_reducible rfl)
  simp only [List.getElem_toArray, List.getElem_cons_zero, List.getElem_cons_succ, Act.put, List.setIfInBounds_toArray, List.set_cons_zero, List.set_cons_succ]
  refine wpAnyH_take (i := 7) (v := ?_) rfl (by kernel_rfl) (by kernel_rfl) (by kernel_rfl) (fun _ _ _ h => h) (Or.inl ⟨by rfl, ?_⟩) hS0 ?_
  rotate_left
  · (intro w hSw; (try dsimp only at hSw); go_simp; try with_reducible rfl)
  simp only [List.getElem_toArray, List.getElem_cons_zero, List.getElem_cons_succ, Act.put, List.setIfInBounds_toArray, List.set_cons_zero, List.set_cons_succ]
  refine wpAnyH_take (i := 8) (v := ?_) rfl (by kernel_rfl) (by kernel_rfl) (by kernel_rfl) (fun _ _ _ h => h) (Or.inl ⟨by rfl, ?_⟩) hS0 ?_
  rotate_left
  · (intro w hSw; (try dsimp only at hSw); go_simp; try with_reducible rfl)
  simp only [List.getElem_toArray, List.getElem_cons_zero, List.getElem_cons_succ, Act.put, List.setIfInBounds_toArray, List.set_cons_zero, List.set_cons_succ]
  refine wpAnyH_take (i := 9) (v := ?_) rfl (by kernel_rfl) (by kernel_rfl) (by kernel_rfl) (fun _ _ _ h => h) (Or.inl ⟨by rfl, ?_⟩) hS0 ?_
  rotate_left
  · (intro w hSw; (try dsimp only at hSw); go_simp; try with_reducible rfl)
  simp only [List.getElem_toArray, List.getElem_cons_zero, List.getElem_cons_succ, Act.put, List.setIfInBounds_toArray, List.set_cons_zero, List.set_cons_succ]
  refine wpAnyH_ready (rs := [10]) (by kernel_rfl) (by simp) ?_
  refine AllReadyH.cons rfl (fun K hK => ?_) AllReadyH.nil
  go_simp
  refine (ht _ (Dev.T hD_0)).mono ?_
  rintro e v1 ⟨rfl, q1, q2⟩
  have hN := Dev.setT hD_0 q1 q2
  have hNB : Below D.l w v1 := (Below.trans hB_0 (q2.below (Nat.le_of_lt (Nat.lt_of_lt_of_le hl0 (Below.size hB_0))) (fun k e => by have := Dev.ap hD_0; omega)))
  (try go_simp)
  refine hK.out _ _ ⟨(Dev.cells hN).1, (Dev.cells hN).2.2.2.2.2.2.2⟩ (fun hS1 => ?_)
  clear hK K hS0
  simp only [List.getElem_toArray, List.getElem_cons_zero, List.getElem_cons_succ, Act.put, List.setIfInBounds_toArray, List.set_cons_zero, List.set_cons_succ]
  refine wpAnyH_take (i := 11) (v := ?_) rfl (by kernel_rfl) (by kernel_rfl) (by kernel_rfl) (fun _ _ _ h => h) (Or.inl ⟨by rfl, ?_⟩) hS1 ?_
  rotate_left
  · (intro w hSw; (try dsimp only at hSw); go_simp; try with_reducible rfl)
  simp only [List.getElem_toArray, List.getElem_cons_zero, List.getElem_cons_succ, Act.put, List.setIfInBounds_toArray, List.set_cons_zero, List.set_cons_succ]
  refine wpAnyH_done (by kernel_rfl) ?_ _
  have c0 := hS1.1
  have c7 := hS1.2
  clear hS1
  generalize v1 = w1 at *
  have d1 : w1.cell? ⟨D.p, 1, none⟩ = some (.pointer (some ⟨D.l, 0, none⟩)) := Blk.cell hN.H 1
  clear hdl
  go_wp2_with fail
  refine (lnTo_n D.l D.o 0 D.c 0 (fun _ => 0) (fun _ => 0) (fun _ => false) false stamp w1 ⟨by omega, fun i hi => by omega⟩ (Nat.zero_le _) hN.Li (fun i hi => by omega) (fun h => by omega)).mono ?_
  rintro e w2 ⟨⟨v, rfl⟩, hL2, ho2⟩
  have hM := hN.setLi (o' := none) hL2 ho2
  have hMB := hNB.trans (ho2.below (Nat.le_of_lt (Nat.lt_of_lt_of_le hl0 hNB.size)) (fun k e => by omega))
  have f7 : w2.frozen? ⟨D.p, 7, none⟩ = false := Blk.frozen hM.H 7
  have e7 : w2.cell? ⟨D.p, 7, none⟩ = some (.int .i64 now) := Blk.cell hM.H 7
  have hap := hM.ap
  go_wp2_with fail
  go_end0
  exact ⟨rfl, hM.setH (Blk.set_ hM.H 7 (.int .i64 stamp)) (Only.setCell (S := fun k => k = D.p) (Only.refl _ _) ⟨D.p, 7, none⟩ rfl _), hMB.setCell (p := ⟨D.p, 7, none⟩) (by show D.l ≤ D.p; omega) _⟩
set_option maxRecDepth 100000 in
set_option maxHeartbeats 4000000 in
/-- On to a stamp, the timer over. -/
theorem hdToB (D : DevA) (R C d h R' C' : Nat) (on u on' : Bool) (L L' now stamp dl : Int) (w : World) (h0 : now < stamp) (hdl : stamp - now = dl) (h1 : 0 ≤ now) (h2 : stamp ≤ 1000000) (hD : Dev w D R C on L d u now h)
    (ht : ∀ W, TB W D.t R C on L → Calls Try.prog 28 #[.pointer (some ⟨D.t, 0, none⟩), .int .i64 dl] W fun e w' => e = .returned (.int .i64 1) ∧ TB w' D.t R' C' on' L' ∧ Only (fun k => k = D.t) W w') :
    Calls Try.prog 10 #[.pointer (some ⟨D.p, 0, none⟩), .int .i64 stamp] w fun e w' => e = .returned (.tuple #[]) ∧ Dev w' D R' C' on' L' d true stamp h ∧ Below D.l w w' := by
  have i1 : (decide (stamp ≤ now)) = false := by rw [decide_eq_false_iff_not]; omega
  have i2 : IntKind.i64.wrap dl = dl := by rw [IntKind.wrap_i64]; omega
  have hl0 : D.l < w.heap.size := Blk.lt hD.Li
  have hB : Below D.l w w := Below.refl _ _
  obtain ⟨c0, c1, c2, c3, c4, c5, c6, c7⟩ := hD.cells
  clear c1 c2 c3 c4 c5 c6
  go_enter Try.func10, Try.ntmps10
  go_wp2_with fail
  refine wp_region_held_drew (S := fun W => W.cell? ⟨D.p, 0, none⟩ = some (.pointer (some ⟨D.t, 0, none⟩)) ∧ W.cell? ⟨D.p, 7, none⟩ = some (.int .i64 now)) (by kernel_rfl) ⟨(by first | exact c0.drew | exact c0 | exact Below.drew c0), (by first | exact c7.drew | exact c7 | exact Below.drew c7)⟩ (fun hS0 => ?_)
  have hD_0 : Dev w.drew D R C on L d u now h := by first | exact hD.drew | exact hD
  have hB_0 : Below D.l w w.drew := by first | exact hB.drew | exact hB
  clear c0 c7 hD hB
  change wpAnyH _ _ _ _ _ 12 #[false, false, false, false, false, false, false, false, false, false, false, false] _ _
  generalize w.drew = v0 at *
  refine wpAnyH_take (i := 0) (v := ?_) rfl (by kernel_rfl) (by kernel_rfl) (by kernel_rfl) (fun _ _ _ h => h) (Or.inl ⟨by rfl, ?_⟩) hS0 ?_
  rotate_left
  · (intro w hSw; (try dsimp only at hSw); go_simp; try with_reducible rfl)
  simp only [List.getElem_toArray, List.getElem_cons_zero, List.getElem_cons_succ, Act.put, List.setIfInBounds_toArray, List.set_cons_zero, List.set_cons_succ]
  refine wpAnyH_take (i := 1) (v := ?_) rfl (by kernel_rfl) (by kernel_rfl) (by kernel_rfl) (fun _ _ _ h => h) (Or.inl ⟨by rfl, ?_⟩) hS0 ?_
  rotate_left
  · (intro w hSw; (try dsimp only at hSw); go_simp; try with_reducible rfl)
  simp only [List.getElem_toArray, List.getElem_cons_zero, List.getElem_cons_succ, Act.put, List.setIfInBounds_toArray, List.set_cons_zero, List.set_cons_succ]
  refine wpAnyH_take (i := 2) (v := ?_) rfl (by kernel_rfl) (by kernel_rfl) (by kernel_rfl) (fun _ _ _ h => h) (Or.inl ⟨by rfl, ?_⟩) hS0 ?_
  rotate_left
  · (intro w hSw; (try dsimp only at hSw); go_simp; try with_reducible rfl)
  simp only [List.getElem_toArray, List.getElem_cons_zero, List.getElem_cons_succ, Act.put, List.setIfInBounds_toArray, List.set_cons_zero, List.set_cons_succ]
  refine wpAnyH_take (i := 3) (v := ?_) rfl (by kernel_rfl) (by kernel_rfl) (by kernel_rfl) (fun _ _ _ h => h) (Or.inl ⟨by rfl, ?_⟩) hS0 ?_
  rotate_left
  · (intro w hSw; (try dsimp only at hSw); go_simp; try with_reducible rfl)
  simp only [List.getElem_toArray, List.getElem_cons_zero, List.getElem_cons_succ, Act.put, List.setIfInBounds_toArray, List.set_cons_zero, List.set_cons_succ]
  refine wpAnyH_take (i := 4) (v := ?_) rfl (by kernel_rfl) (by kernel_rfl) (by kernel_rfl) (fun _ _ _ h => h) (Or.inl ⟨by rfl, ?_⟩) hS0 ?_
  rotate_left
  · (intro w hSw; (try dsimp only at hSw); go_simp; try with_reducible rfl)
  simp only [List.getElem_toArray, List.getElem_cons_zero, List.getElem_cons_succ, Act.put, List.setIfInBounds_toArray, List.set_cons_zero, List.set_cons_succ]
  refine wpAnyH_take (i := 5) (v := ?_) rfl (by kernel_rfl) (by kernel_rfl) (by kernel_rfl) (fun _ _ _ h => h) (Or.inl ⟨by rfl, ?_⟩) hS0 ?_
  rotate_left
  · (intro w hSw; (try dsimp only at hSw); go_simp; try with_reducible rfl)
  simp only [List.getElem_toArray, List.getElem_cons_zero, List.getElem_cons_succ, Act.put, List.setIfInBounds_toArray, List.set_cons_zero, List.set_cons_succ]
  refine wpAnyH_take (i := 6) (v := ?_) rfl (by kernel_rfl) (by kernel_rfl) (by kernel_rfl) (fun _ _ _ h => h) (Or.inl ⟨by rfl, ?_⟩) hS0 ?_
  rotate_left
  · (intro w hSw; (try dsimp only at hSw); go_simp; try with_reducible rfl)
  simp only [List.getElem_toArray, List.getElem_cons_zero, List.getElem_cons_succ, Act.put, List.setIfInBounds_toArray, List.set_cons_zero, List.set_cons_succ]
  refine wpAnyH_take (i := 7) (v := ?_) rfl (by kernel_rfl) (by kernel_rfl) (by kernel_rfl) (fun _ _ _ h => h) (Or.inl ⟨by rfl, ?_⟩) hS0 ?_
  rotate_left
  · (intro w hSw; (try dsimp only at hSw); go_simp; try with_reducible rfl)
  simp only [List.getElem_toArray, List.getElem_cons_zero, List.getElem_cons_succ, Act.put, List.setIfInBounds_toArray, List.set_cons_zero, List.set_cons_succ]
  refine wpAnyH_take (i := 8) (v := ?_) rfl (by kernel_rfl) (by kernel_rfl) (by kernel_rfl) (fun _ _ _ h => h) (Or.inl ⟨by rfl, ?_⟩) hS0 ?_
  rotate_left
  · (intro w hSw; (try dsimp only at hSw); go_simp; try with_reducible rfl)
  simp only [List.getElem_toArray, List.getElem_cons_zero, List.getElem_cons_succ, Act.put, List.setIfInBounds_toArray, List.set_cons_zero, List.set_cons_succ]
  refine wpAnyH_take (i := 9) (v := ?_) rfl (by kernel_rfl) (by kernel_rfl) (by kernel_rfl) (fun _ _ _ h => h) (Or.inl ⟨by rfl, ?_⟩) hS0 ?_
  rotate_left
  · (intro w hSw; (try dsimp only at hSw); go_simp; try with_reducible rfl)
  simp only [List.getElem_toArray, List.getElem_cons_zero, List.getElem_cons_succ, Act.put, List.setIfInBounds_toArray, List.set_cons_zero, List.set_cons_succ]
  refine wpAnyH_ready (rs := [10]) (by kernel_rfl) (by simp) ?_
  refine AllReadyH.cons rfl (fun K hK => ?_) AllReadyH.nil
  go_simp
  refine (ht _ (Dev.T hD_0)).mono ?_
  rintro e v1 ⟨rfl, q1, q2⟩
  have hN := Dev.setT hD_0 q1 q2
  have hNB : Below D.l w v1 := (Below.trans hB_0 (q2.below (Nat.le_of_lt (Nat.lt_of_lt_of_le hl0 (Below.size hB_0))) (fun k e => by have := Dev.ap hD_0; omega)))
  (try go_simp)
  refine hK.out _ _ ⟨(Dev.cells hN).1, (Dev.cells hN).2.2.2.2.2.2.2⟩ (fun hS1 => ?_)
  clear hK K hS0
  simp only [List.getElem_toArray, List.getElem_cons_zero, List.getElem_cons_succ, Act.put, List.setIfInBounds_toArray, List.set_cons_zero, List.set_cons_succ]
  refine wpAnyH_take (i := 11) (v := ?_) rfl (by kernel_rfl) (by kernel_rfl) (by kernel_rfl) (fun _ _ _ h => h) (Or.inl ⟨by rfl, ?_⟩) hS1 ?_
  rotate_left
  · (intro w hSw; (try dsimp only at hSw); go_simp; try with_reducible rfl)
  simp only [List.getElem_toArray, List.getElem_cons_zero, List.getElem_cons_succ, Act.put, List.setIfInBounds_toArray, List.set_cons_zero, List.set_cons_succ]
  refine wpAnyH_done (by kernel_rfl) ?_ _
  have c0 := hS1.1
  have c7 := hS1.2
  clear hS1
  generalize v1 = w1 at *
  have d3 : w1.cell? ⟨D.p, 3, none⟩ = some (.pointer (some ⟨D.a, 0, none⟩)) := Blk.cell hN.H 3
  clear hdl
  go_wp2_with fail
  refine (iqOver_calls D.a d u w1 hN.I).mono ?_
  rintro e w2 ⟨⟨v, rfl⟩, hI2, ho2⟩
  have hM := hN.setI hI2 ho2
  have hMB := hNB.trans (ho2.below (Nat.le_of_lt (Nat.lt_of_lt_of_le hl0 hNB.size)) (fun k e => by have := hN.ap; omega))
  have d1 : w2.cell? ⟨D.p, 1, none⟩ = some (.pointer (some ⟨D.l, 0, none⟩)) := Blk.cell hM.H 1
  clear hN hNB d3 hI2 ho2
  go_wp2_with fail
  refine (lnTo_n D.l D.o 0 D.c 0 (fun _ => 0) (fun _ => 0) (fun _ => false) false stamp w2 ⟨by omega, fun i hi => by omega⟩ (Nat.zero_le _) hM.Li (fun i hi => by omega) (fun h => by omega)).mono ?_
  rintro e w3 ⟨⟨v2, rfl⟩, hL3, ho3⟩
  have hQ := hM.setLi (o' := none) hL3 ho3
  have hQB := hMB.trans (ho3.below (Nat.le_of_lt (Nat.lt_of_lt_of_le hl0 hMB.size)) (fun k e => by omega))
  have f7 : w3.frozen? ⟨D.p, 7, none⟩ = false := Blk.frozen hQ.H 7
  have e7 : w3.cell? ⟨D.p, 7, none⟩ = some (.int .i64 now) := Blk.cell hQ.H 7
  have hap := hQ.ap
  go_wp2_with fail
  go_end0
  exact ⟨rfl, hQ.setH (Blk.set_ hQ.H 7 (.int .i64 stamp)) (Only.setCell (S := fun k => k = D.p) (Only.refl _ _) ⟨D.p, 7, none⟩ rfl _), hQB.setCell (p := ⟨D.p, 7, none⟩) (by show D.l ≤ D.p; omega) _⟩
theorem latValue_calls (g h : Nat) (w : World) (hA : AB w g h) :
    Calls Try.prog 31 #[.pointer (some ⟨g, 0, none⟩)] w fun e w' => e = .returned (.int .u8 (h : Int)) ∧ w = w' := by
  have hc : w.cell? ⟨g, 0, none⟩ = some (.int .u8 (h : Int)) := Blk.cell hA 0
  go_enter Try.func31, Try.ntmps31
  go_wp2_with fail
  go_ret
  exact ⟨rfl, rfl⟩
theorem tmCounter_calls (t R C : Nat) (on : Bool) (L : Int) (w : World) (hT : TB w t R C on L) :
    Calls Try.prog 33 #[.pointer (some ⟨t, 0, none⟩)] w fun e w' => e = .returned (.int .u8 (C : Int)) ∧ w = w' := by
  have c2 : w.cell? ⟨t, 1, none⟩ = some (.int .u8 (C : Int)) := Blk.cell hT 1
  go_enter Try.func33, Try.ntmps33
  go_wp2_with fail
  go_ret
  exact ⟨rfl, rfl⟩
theorem tmLeft_calls (t R C : Nat) (on : Bool) (L : Int) (w : World) (hT : TB w t R C on L) :
    Calls Try.prog 36 #[.pointer (some ⟨t, 0, none⟩)] w fun e w' => e = .returned (.int .i64 L) ∧ w = w' := by
  have c2 : w.cell? ⟨t, 3, none⟩ = some (.int .i64 L) := Blk.cell hT 3
  go_enter Try.func36, Try.ntmps36
  go_wp2_with fail
  go_ret
  exact ⟨rfl, rfl⟩
end Go.Proofs.Ytggcnlcnmaaopaa
