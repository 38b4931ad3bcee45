/-
  timer, as far as TopTicks goes; hard: Write, To, Status.
-/
import Derived.Test.YtemfdkoipeedeaaDev
import Derived.Test.YtemfdkoipeedeaaTim
namespace Go.Proofs.Ytemfdkoipeedeaa
set_option linter.unusedSimpArgs false
set_option linter.unusedVariables false
set_option maxRecDepth 10000
open Go.RowKit Pl
/-- All down to 0. -/
theorem tmTicksA (t R : Nat) (L : Int) (w : World) (hR : R < 256) (hT : TB w t R R true L) :
    Calls Try.prog 73 #[.pointer (some ⟨t, 0, none⟩), .int .i64 (R : Int)] w fun e w' => e = .returned (.int .i64 0) ∧ TB w' t R 0 true L ∧ Only (fun k => k = t) w w' := by
  have c0 : w.cell? ⟨t, 0, none⟩ = some (.int .u8 (R : Int)) := Blk.cell hT 0
  have c1 : w.cell? ⟨t, 1, none⟩ = some (.int .u8 (R : Int)) := Blk.cell hT 1
  have f1 : w.frozen? ⟨t, 1, none⟩ = false := Blk.frozen hT 1
  have i1 : (R : Int) ≤ (R : Int) := Int.le_refl _
  have i2 : (R : Int) < 256 := by omega
  go_enter Try.func73, Try.ntmps73
  go_wp2_with fail
  go_ret
  exact ⟨rfl, Blk.set_ hT 1 (.int .u8 0), Only.setCell (S := fun k => k = t) (Only.refl _ _) ⟨t, 1, none⟩ rfl _⟩
/-- One more: over. -/
theorem tmTicksB (t R : Nat) (L : Int) (w : World) (hR : R < 256) (hT : TB w t R 0 true L) :
    Calls Try.prog 73 #[.pointer (some ⟨t, 0, none⟩), .int .i64 1] w fun e w' => e = .returned (.int .i64 1) ∧ TB w' t R R true L ∧ Only (fun k => k = t) w w' := by
  have c0 : w.cell? ⟨t, 0, none⟩ = some (.int .u8 (R : Int)) := Blk.cell hT 0
  have c1 : w.cell? ⟨t, 1, none⟩ = some (.int .u8 0) := Blk.cell hT 1
  have y0 : w.drew.cell? ⟨t, 0, none⟩ = some (.int .u8 (R : Int)) := c0
  have y1 : w.drew.cell? ⟨t, 1, none⟩ = some (.int .u8 0) := c1
  have y2 : w.drew.frozen? ⟨t, 1, none⟩ = false := Blk.frozen hT 1
  have i3 : (0 : Int).tmod ((R : Int) + 1) = 0 := Int.zero_tmod _
  have i4 : (0 : Int).tdiv ((R : Int) + 1) = 0 := Int.zero_tdiv _
  have i5 : ((R : Int) + 1 == 0) = false := by rw [beq_eq_false_iff_ne]; omega
  have i6 : (R : Int) < 256 := by omega
  go_enter Try.func73, Try.ntmps73
  go_wp2_with fail
  go_region
  all_goals
    go_wp2_with fail
    go_ret
    exact ⟨rfl, Blk.drew (Blk.set_ hT 1 (.int .u8 (R : Int))), (Only.setCell (S := fun k => k = t) (Only.refl _ _) ⟨t, 1, none⟩ rfl _).drew⟩
theorem tmGoA (t R : Nat) (n : Int) (w : World) (hR : R < 128) (hn : n = 3072 * ((R : Int) + 1) - 1) (hT : TB w t R R true 3072) :
    Calls Try.prog 53 #[.pointer (some ⟨t, 0, none⟩), .int .i64 n] w fun e w' => e = .returned (.int .i64 0) ∧ TB w' t R 0 true 1 ∧ Only (fun k => k = t) w w' := by
  have c0 : w.cell? ⟨t, 0, none⟩ = some (.int .u8 (R : Int)) := Blk.cell hT 0
  have c2 : w.cell? ⟨t, 2, none⟩ = some (.bool true) := Blk.cell hT 2
  have c3 : w.cell? ⟨t, 3, none⟩ = some (.int .i64 3072) := Blk.cell hT 3
  have f3 : w.frozen? ⟨t, 3, none⟩ = false := Blk.frozen hT 3
  have i1 : (decide (n ≤ 0)) = false := by rw [decide_eq_false_iff_not]; omega
  have hT' : TB (w.setCell ⟨t, 3, none⟩ (.int .i64 1)) t R R true 1 := Blk.set_ hT 3 (.int .i64 1)
  have ho' : Only (fun k => k = t) w (w.setCell ⟨t, 3, none⟩ (.int .i64 1)) := Only.setCell (S := fun k => k = t) (Only.refl _ _) ⟨t, 3, none⟩ rfl _
  by_cases h0 : R = 0
  · subst h0
    obtain rfl : n = 3071 := by rw [hn]; rfl
    clear hn
    go_enter Try.func53, Try.ntmps53
    (go_wp2_with fail; refine Cl.p (tmIs_calls t 0 0 true _ hT) ?_)
    go_wp2_with fail
    go_ret
    exact ⟨rfl, hT', ho'⟩
  · obtain ⟨m, hm⟩ : ∃ m, n - 3072 = m := ⟨_, rfl⟩
    have i2 : (decide (n < 3072)) = false := by rw [decide_eq_false_iff_not]; omega
    have i3 : m.tmod 3072 = 3071 := by rw [Int.tmod_eq_emod_of_nonneg (by omega)]; omega
    have i4 : m.tdiv 3072 = (R : Int) - 1 := by rw [Int.tdiv_eq_ediv_of_nonneg (by omega)]; omega
    have i5 : m % 3072 = 3071 := by omega
    have i6 : m / 3072 = (R : Int) - 1 := by omega
    have b1 : 0 ≤ m := by omega
    have b2 : m ≤ 9000000 := by omega
    have i7 : (R : Int) - 1 + 1 = (R : Int) := by omega
    have Hn := hide hn
    clear hn h0
    have htk := tmTicksA t R 1 (w.setCell ⟨t, 3, none⟩ (.int .i64 1)) (by omega) hT'
    go_enter Try.func53, Try.ntmps53
    (go_wp2_with fail; refine Cl.p (tmIs_calls t R R true _ hT) ?_)
    go_wp2_with fail
    refine htk.mono ?_
    rintro e w3 ⟨rfl, hT3, ho3⟩
    go_wp2_with fail
    go_ret
    exact ⟨rfl, hT3, ho'.trans ho3⟩
theorem tmGoB (t R : Nat) (w : World) (hR : R < 128) (hT : TB w t R 0 true 1) :
    Calls Try.prog 53 #[.pointer (some ⟨t, 0, none⟩), .int .i64 1] w fun e w' => e = .returned (.int .i64 1) ∧ TB w' t R R true 3072 ∧ Only (fun k => k = t) w w' := by
  have c0 : w.cell? ⟨t, 0, none⟩ = some (.int .u8 (R : Int)) := Blk.cell hT 0
  have c2 : w.cell? ⟨t, 2, none⟩ = some (.bool true) := Blk.cell hT 2
  have c3 : w.cell? ⟨t, 3, none⟩ = some (.int .i64 1) := Blk.cell hT 3
  have f3 : w.frozen? ⟨t, 3, none⟩ = false := Blk.frozen hT 3
  have hT' : TB (w.setCell ⟨t, 3, none⟩ (.int .i64 3072)) t R 0 true 3072 := Blk.set_ hT 3 (.int .i64 3072)
  have ho' : Only (fun k => k = t) w (w.setCell ⟨t, 3, none⟩ (.int .i64 3072)) := Only.setCell (S := fun k => k = t) (Only.refl _ _) ⟨t, 3, none⟩ rfl _
  have htk := tmTicksB t R 3072 (w.setCell ⟨t, 3, none⟩ (.int .i64 3072)) (by omega) hT'
  go_enter Try.func53, Try.ntmps53
  (go_wp2_with fail; refine Cl.p (tmIsAny_calls t R 0 true 1 _ (by omega) hT) ?_)
  go_wp2_with fail
  refine htk.mono ?_
  rintro e w3 ⟨rfl, hT3, ho3⟩
  go_wp2_with fail
  go_ret
  exact ⟨rfl, hT3, ho'.trans ho3⟩
/-- A place of the last bank. -/
theorem hdPlace_calls (off : Nat) (w : World) (ho : off < 65536) : Calls Try.prog 57 #[.int .u16 (off : Int)] w fun e w' => e = .returned (.int .u32 (adr 255 off : Nat)) ∧ w = w' := by
  go_enter Try.func57, Try.ntmps57
  (go_wp2_with fail; refine Cl.p (phAddr_calls 255 off _ (by omega) ho) ?_)
  go_wp2_with fail
  go_ret
  exact ⟨rfl, rfl⟩
theorem adr_lt (off : Nat) : adr 255 off < 4294967296 := by unfold adr; omega
theorem latWrite_calls (g h b : Nat) (w : World) (hA : AB w g h) :
    Calls Try.prog 62 #[.pointer (some ⟨g, 0, none⟩), .int .u8 (b : Int)] w fun e w' => e = .returned (.tuple #[]) ∧ AB w' g b ∧ Only (fun k => k = g) w w' := by
  have hc : w.cell? ⟨g, 0, none⟩ = some (.int .u8 (h : Int)) := Blk.cell hA 0
  have hf : w.frozen? ⟨g, 0, none⟩ = false := Blk.frozen hA 0
  go_enter Try.func62, Try.ntmps62
  go_wp2_with fail
  go_end0
  exact ⟨rfl, Blk.set_ hA 0 (.int .u8 (b : Int)), Only.setCell (S := fun k => k = g) (Only.refl _ _) ⟨g, 0, none⟩ rfl _⟩
/-- What only touches the devices. -/
def DevOnly (D : DevA) (w w' : World) : Prop := Only D.has w w'
set_option maxRecDepth 100000 in
set_option maxHeartbeats 4000000 in
/-- A register of the timer is written. -/
theorem hdWriteT (D : DevA) (R C d h off b R' C' : Nat) (on u on' : Bool) (L L' now : Int) (w : World) (hoff : off < 65536) (hw : whr (adr 255 off) = 6) (hD : Dev w D R C on L d u now h)
    (ht : ∀ W, TB W D.t R C on L → Calls Try.prog 58 #[.pointer (some ⟨D.t, 0, none⟩), .int .i64 (rgO (whr (adr 255 off)) (adr 255 off % 8192)), .int .u8 (b : Int)] W fun e w' => (∃ v, e = .returned v) ∧ TB w' D.t R' C' on' L' ∧ Only (fun k => k = D.t) W w') :
    Calls Try.prog 44 #[.pointer (some ⟨D.p, 0, none⟩), .int .u16 (off : Int), .int .u8 (b : Int)] w fun e w' => e = .returned (.tuple #[]) ∧ Dev w' D R' C' on' L' d u now b ∧ Below D.l w w' := by
  have hal := adr_lt off
  have hpl := fun W => hdPlace_calls off W hoff
  have hwh := fun W => phWhere_calls (adr 255 off) W hal
  rw [hw] at hwh
  have hrg := fun W => phReg_calls (adr 255 off) W hal
  obtain ⟨ad, had⟩ : ∃ x, adr 255 off = x := ⟨_, rfl⟩
  obtain ⟨rg, hrg'⟩ : ∃ x, rgO (whr ad) (ad % 8192) = x := ⟨_, rfl⟩
  rw [had] at hpl hwh hrg ht
  rw [hrg'] at hrg ht
  have hl0 : D.l < w.heap.size := Blk.lt hD.Li
  clear hal hw had hrg' hoff
  go_enter Try.func44, Try.ntmps44
  (go_wp2_with fail; refine Cl.p (hpl _) ?_)
  go_wp2_with fail
  refine Cl.m (hwh _) ?_
  intro w1 hb1
  have hD1 := hD.low hb1
  have hB1 : Below D.l w w1 := hb1.mono (Nat.le_of_lt hl0)
  obtain ⟨c0, c1, c2, c3, c4, c5, c6, c7⟩ := hD1.cells
  clear hpl hwh hD hb1 c1 c3 c4 c5 c6 c7
  go_wp2_with fail
  refine wp_region_held_drew (S := fun W => W.cell? ⟨D.p, 0, none⟩ = some (.pointer (some ⟨D.t, 0, none⟩)) ∧ W.cell? ⟨D.p, 2, none⟩ = some (.pointer (some ⟨D.bu, 0, none⟩))) (by kernel_rfl) ⟨(by first | exact c0.drew | exact c0 | exact Below.drew c0), (by first | exact c2.drew | exact c2 | exact Below.drew c2)⟩ (fun hS0 => ?_)
  have hD1_0 : Dev w1.drew D R C on L d u now h := by first | exact hD1.drew | exact hD1
  have hB1_0 : Below D.l w w1.drew := by first | exact hB1.drew | exact hB1
  clear c0 c2 hD1 hB1
  change wpAnyH _ _ _ _ _ 8 #[false, false, false, false, false, false, false, false] _ _
  generalize w1.drew = v0 at *
  refine wpAnyH_take (i := 0) (v := ?_) rfl (by kernel_rfl) (by kernel_rfl) (by kernel_rfl) (fun _ _ _ h => h) (Or.inl ⟨by rfl, ?_⟩) hS0 ?_
  rotate_left
  · (intro w hSw; (try dsimp only at hSw); go_simp; try with_reducible rfl)
  simp only [List.getElem_toArray, List.getElem_cons_zero, List.getElem_cons_succ, Act.put, List.setIfInBounds_toArray, List.set_cons_zero, List.set_cons_succ]
  refine wpAnyH_take (i := 1) (v := ?_) rfl (by kernel_rfl) (by kernel_rfl) (by kernel_rfl) (fun _ _ _ h => h) (Or.inl ⟨by rfl, ?_⟩) hS0 ?_
  rotate_left
  · (intro w hSw; (try dsimp only at hSw); go_simp; try with_reducible rfl)
  simp only [List.getElem_toArray, List.getElem_cons_zero, List.getElem_cons_succ, Act.put, List.setIfInBounds_toArray, List.set_cons_zero, List.set_cons_succ]
  refine wpAnyH_take (i := 2) (v := ?_) rfl (by kernel_rfl) (by kernel_rfl) (by kernel_rfl) (fun _ _ _ h => h) (Or.inl ⟨by rfl, ?_⟩) hS0 ?_
  rotate_left
  · (intro w hSw; (try dsimp only at hSw); go_simp; try with_reducible rfl)
  simp only [List.getElem_toArray, List.getElem_cons_zero, List.getElem_cons_succ, Act.put, List.setIfInBounds_toArray, List.set_cons_zero, List.set_cons_succ]
  refine wpAnyH_take (i := 3) (v := ?_) rfl (by kernel_rfl) (by kernel_rfl) (by kernel_rfl) (fun _ _ _ h => h) (Or.inl ⟨by rfl, ?_⟩) hS0 ?_
  rotate_left
  · (intro w hSw; (try dsimp only at hSw); go_simp; try with_reducible rfl)
  simp only [List.getElem_toArray, List.getElem_cons_zero, List.getElem_cons_succ, Act.put, List.setIfInBounds_toArray, List.set_cons_zero, List.set_cons_succ]
  refine wpAnyH_take (i := 4) (v := ?_) rfl (by kernel_rfl) (by kernel_rfl) (by kernel_rfl) (fun _ _ _ h => h) (Or.inl ⟨by rfl, ?_⟩) hS0 ?_
  rotate_left
  · (intro w hSw; (try dsimp only at hSw); go_simp; try with_reducible rfl)
  simp only [List.getElem_toArray, List.getElem_cons_zero, List.getElem_cons_succ, Act.put, List.setIfInBounds_toArray, List.set_cons_zero, List.set_cons_succ]
  refine wpAnyH_take (i := 6) (v := ?_) rfl (by kernel_rfl) (by kernel_rfl) (by kernel_rfl) (fun _ _ _ h => h) (Or.inl ⟨by rfl, ?_⟩) hS0 ?_
  rotate_left
  · (intro w hSw; (try dsimp only at hSw); go_simp; try with_reducible rfl)
  simp only [List.getElem_toArray, List.getElem_cons_zero, List.getElem_cons_succ, Act.put, List.setIfInBounds_toArray, List.set_cons_zero, List.set_cons_succ]
  refine wpAnyH_ready (rs := [5]) (by kernel_rfl) (by simp) ?_
  refine AllReadyH.cons rfl (fun K hK => ?_) AllReadyH.nil
  go_simp
  refine (hrg _).mono ?_
  rintro e v1 ⟨rfl, hb1⟩
  (try go_simp)
  refine hK.out _ _ ⟨(by first | exact hS0.1.below hb1 hS0.1.lt | exact hS0.1.trans (hb1.mono hS0.1.size) | exact hS0.1.trans (hb1.mono (by have := hS0.1.size; omega)) | exact (hb1.cell (cell_lt hS0.1)).trans hS0.1 | exact hS0.1.below hb1 (Nat.le_refl _) | exact hS0.1.low hb1 | exact hS0.1.below hb1 | exact hS0.1.trans (Only.of hb1)), (by first | exact hS0.2.below hb1 hS0.2.lt | exact hS0.2.trans (hb1.mono hS0.2.size) | exact hS0.2.trans (hb1.mono (by have := hS0.2.size; omega)) | exact (hb1.cell (cell_lt hS0.2)).trans hS0.2 | exact hS0.2.below hb1 (Nat.le_refl _) | exact hS0.2.low hb1 | exact hS0.2.below hb1 | exact hS0.2.trans (Only.of hb1))⟩ (fun hS1 => ?_)
  clear hK K
  have hD1_1 : Dev v1 D R C on L d u now h := (by first | exact hD1_0.below hb1 hD1_0.lt | exact hD1_0.trans (hb1.mono hD1_0.size) | exact hD1_0.trans (hb1.mono (by have := hD1_0.size; omega)) | exact (hb1.cell (cell_lt hD1_0)).trans hD1_0 | exact hD1_0.below hb1 (Nat.le_refl _) | exact hD1_0.low hb1 | exact hD1_0.below hb1 | exact hD1_0.trans (Only.of hb1))
  have hB1_1 : Below D.l w v1 := (by first | exact hB1_0.below hb1 hB1_0.lt | exact hB1_0.trans (hb1.mono hB1_0.size) | exact hB1_0.trans (hb1.mono (by have := hB1_0.size; omega)) | exact (hb1.cell (cell_lt hB1_0)).trans hB1_0 | exact hB1_0.below hb1 (Nat.le_refl _) | exact hB1_0.low hb1 | exact hB1_0.below hb1 | exact hB1_0.trans (Only.of hb1))
  clear hb1 hS0
  simp only [List.getElem_toArray, List.getElem_cons_zero, List.getElem_cons_succ, Act.put, List.setIfInBounds_toArray, List.set_cons_zero, List.set_cons_succ]
  refine wpAnyH_ready (rs := [7]) (by kernel_rfl) (by simp) ?_
  refine AllReadyH.cons rfl (fun K hK => ?_) AllReadyH.nil
  go_simp
  refine (ht _ (Dev.T hD1_1)).mono ?_
  rintro e v2 ⟨⟨v, rfl⟩, q1, q2⟩
  have hN := Dev.setT hD1_1 q1 q2
  have hNB : Below D.l w v2 := (Below.trans hB1_1 (q2.below (Nat.le_of_lt (Nat.lt_of_lt_of_le hl0 (Below.size hB1_1))) (fun k e => by have := (Dev.ap hD1_1).1; omega)))
  (try go_simp)
  refine hK.out _ _ ⟨(Dev.cells hN).1, (Dev.cells hN).2.2.1⟩ (fun hS2 => ?_)
  clear hK K hS1
  simp only [List.getElem_toArray, List.getElem_cons_zero, List.getElem_cons_succ, Act.put, List.setIfInBounds_toArray, List.set_cons_zero, List.set_cons_succ]
  refine wpAnyH_done (by kernel_rfl) ?_ _
  have c0 := hS2.1
  have c2 := hS2.2
  clear hS2
  generalize v2 = w3 at *
  go_wp2_with fail
  refine (latWrite_calls D.bu h b w3 hN.A).mono ?_
  rintro e w4 ⟨rfl, q3, q4⟩
  have hM := hN.setA q3 q4
  have hMB := hNB.trans (q4.below (Nat.le_of_lt (Nat.lt_of_lt_of_le hl0 hNB.size)) (fun k e => by have := hN.ap; omega))
  go_wp2_with fail
  go_end0
  exact ⟨rfl, hM, hMB⟩
end Go.Proofs.Ytemfdkoipeedeaa
