/-
  hard, as far as TopMapped goes: any Write behind New, To while the timer stands still.
-/
import Derived.Test.YtemfdkoipeedeaaTick1
import Derived.Test.YtemfdkoipeedeaaR03
namespace Go.Proofs.Ytemfdkoipeedeaa
set_option linter.unusedSimpArgs false
set_option linter.unusedVariables false
set_option maxRecDepth 10000
open Go.RowKit Pl
theorem tmWriteW (t b : Nat) (reg : Int) (w : World) (hb : b < 256) (hr : reg = 0 ∨ reg = 1) (hT : TB w t 0 0 false 3072) :
    Calls Try.prog 58 #[.pointer (some ⟨t, 0, none⟩), .int .i64 reg, .int .u8 (b : Int)] w fun e w' => (∃ v, e = .returned v) ∧ Only (fun k => k = t) w w' := by
  rcases hr with rfl | rfl
  · refine (tmWrite0_calls t 0 0 b false w hb hT).mono ?_
    rintro e w' ⟨he, _, ho⟩
    exact ⟨he, ho⟩
  · have f1 : w.frozen? ⟨t, 1, none⟩ = false := Blk.frozen hT 1
    have f2 : w.frozen? ⟨t, 2, none⟩ = false := Blk.frozen hT 2
    have f3 : w.frozen? ⟨t, 3, none⟩ = false := Blk.frozen hT 3
    have c0 : w.cell? ⟨t, 0, none⟩ = some (.int .u8 0) := Blk.cell hT 0
    have c1 : w.cell? ⟨t, 1, none⟩ = some (.int .u8 0) := Blk.cell hT 1
    have c2 : w.cell? ⟨t, 2, none⟩ = some (.bool false) := Blk.cell hT 2
    have c3 : w.cell? ⟨t, 3, none⟩ = some (.int .i64 3072) := Blk.cell hT 3
    have a1 := and1_all b hb
    rcases (show b % 2 = 0 ∨ b % 2 = 1 by omega) with h | h
    · have a2 : bits .and .u8 (b : Int) 1 = 0 := by rw [a1, h]; rfl
      clear a1 h
      go_enter Try.func58, Try.ntmps58
      (go_wp2_with fail; refine Cl.p (tmIs_calls t 0 0 false _ hT) ?_)
      go_wp2_with fail
      go_end0
      exact ⟨⟨_, rfl⟩, Only.setCell (S := fun k => k = t) (Only.refl _ _) ⟨t, 2, none⟩ rfl _⟩
    · have a2 : bits .and .u8 (b : Int) 1 = 1 := by rw [a1, h]; rfl
      clear a1 h
      go_enter Try.func58, Try.ntmps58
      (go_wp2_with fail; refine Cl.p (tmIs_calls t 0 0 false _ hT) ?_)
      go_wp2_with fail
      go_end0
      exact ⟨⟨_, rfl⟩, Only.setCell (S := fun k => k = t) (Only.setCell (S := fun k => k = t) (Only.setCell (S := fun k => k = t) (Only.refl _ _) ⟨t, 1, none⟩ rfl _) ⟨t, 3, none⟩ rfl _) ⟨t, 2, none⟩ rfl _⟩
set_option maxRecDepth 100000 in
set_option maxHeartbeats 8000000 in
/-- Any byte is written. -/
theorem hdWriteW (D : DevA) (off b h : Nat) (now : Int) (w : World) (hoff : off < 65536) (hb : b < 256) (hD : Dev w D 0 0 false 3072 0 false now h) :
    Calls Try.prog 44 #[.pointer (some ⟨D.p, 0, none⟩), .int .u16 (off : Int), .int .u8 (b : Int)] w fun e w' => e = .returned (.tuple #[]) ∧ Only D.has w w' := by
  have hal := adr_lt off
  have hpl := fun W => hdPlace_calls off W hoff
  have hwh := fun W => phWhere_calls (adr 255 off) W hal
  have hrg := fun W => phReg_calls (adr 255 off) W hal
  have hle := whr_le (adr 255 off)
  have h6 : whr (adr 255 off) = 6 → rgO (whr (adr 255 off)) (adr 255 off % 8192) = 0 ∨ rgO (whr (adr 255 off)) (adr 255 off % 8192) = 1 := fun h => by
    rw [h]
    unfold rgO
    simp
    omega
  generalize rgO (whr (adr 255 off)) (adr 255 off % 8192) = rg at *
  generalize whr (adr 255 off) = k at *
  generalize adr 255 off = ad at *
  have hap := hD.ap
  have hS : ∀ k, (D.l ≤ k ∧ k ≤ D.p) → D.has k := fun k h => h
  clear hal hoff
  have hk : k = 5 ∨ k = 6 ∨ k = 7 ∨ k = 8 ∨ k = 0 ∨ k = 1 ∨ k = 2 ∨ k = 3 ∨ k = 4 := by omega
  clear hle
  rcases hk with rfl | rfl | rfl | rfl | hk
  · go_enter Try.func44, Try.ntmps44
    (go_wp2_with fail; refine Cl.p (hpl _) ?_)
    go_wp2_with fail
    refine Cl.m (hwh _) ?_
    intro w1 hb1
    have hD1 := hD.low hb1
    have hB1 : Only D.has w w1 := Only.of hb1
    obtain ⟨c0, c1, c2, c3, c4, c5, c6, c7⟩ := hD1.cells
    clear hpl hwh hD hb1 c0 c1 c3 c4 c5 c6 c7
    go_wp2_with fail
    refine (latWrite_calls D.bu h b w1 hD1.A).mono ?_
    rintro e w4 ⟨rfl, q3, q4⟩
    have hMB := hB1.trans (q4.mono (fun k _ e => hS k (by have e : k = D.bu := e; omega)))
    go_wp2_with fail
    go_end0
    exact ⟨rfl, hMB⟩
  · have ht := fun W (hT : TB W D.t 0 0 false 3072) => tmWriteW D.t b rg W hb (h6 rfl) hT
    clear h6
    go_enter Try.func44, Try.ntmps44
    (go_wp2_with fail; refine Cl.p (hpl _) ?_)
    go_wp2_with fail
    refine Cl.m (hwh _) ?_
    intro w1 hb1
    have hD1 := hD.low hb1
    have hB1 : Only D.has w w1 := Only.of hb1
    obtain ⟨c0, c1, c2, c3, c4, c5, c6, c7⟩ := hD1.cells
    have hA1 := hD1.A
    clear hpl hwh hD hb1 c1 c3 c4 c5 c6 c7
    go_wp2_with fail
    refine wp_region_held_drew (S := fun W => W.cell? ⟨D.p, 0, none⟩ = some (.pointer (some ⟨D.t, 0, none⟩)) ∧ W.cell? ⟨D.p, 2, none⟩ = some (.pointer (some ⟨D.bu, 0, none⟩)) ∧ AB W D.bu h) (by kernel_rfl) ⟨(by first | exact c0.drew | exact c0 | exact Below.drew c0), (by first | exact c2.drew | exact c2 | exact Below.drew c2), (by first | exact hA1.drew | exact hA1 | exact Below.drew hA1)⟩ (fun hS0 => ?_)
    have hD1_0 : Dev w1.drew D 0 0 false 3072 0 false now h := by first | exact hD1.drew | exact hD1
    have hB1_0 : Only D.has w w1.drew := by first | exact hB1.drew | exact hB1
    clear c0 c2 hA1 hD1 hB1
    change wpAnyH _ _ _ _ _ 8 #[false, false, false, false, false, false, false, false] _ _
    generalize w1.drew = v0 at *
    refine wpAnyH_take (i := 0) (v := ?_) rfl (by kernel_rfl) (by kernel_rfl) (by kernel_rfl) (fun _ _ _ h => h) (Or.inl ⟨by rfl, ?_⟩) hS0 ?_
    rotate_left
    · (intro w hSw; (try dsimp only at hSw); go_simp; try with_reducible rfl)
    simp only [List.getElem_toArray, List.getElem_cons_zero, List.getElem_cons_succ, Act.put, List.setIfInBounds_toArray, List.set_cons_zero, List.set_cons_succ]
    refine wpAnyH_take (i := 1) (v := ?_) rfl (by kernel_rfl) (by kernel_rfl) (by kernel_rfl) (fun _ _ _ h => h) (Or.inl ⟨by rfl, ?_⟩) hS0 ?_
    rotate_left
    · (intro w hSw; (try dsimp only at hSw); go_simp; try with_reducible rfl)
    simp only [List.getElem_toArray, List.getElem_cons_zero, List.getElem_cons_succ, Act.put, List.setIfInBounds_toArray, List.set_cons_zero, List.set_cons_succ]
    refine wpAnyH_take (i := 2) (v := ?_) rfl (by kernel_rfl) (by kernel_rfl) (by kernel_rfl) (fun _ _ _ h => h) (Or.inl ⟨by rfl, ?_⟩) hS0 ?_
    rotate_left
    · (intro w hSw; (try dsimp only at hSw); go_simp; try with_reducible rfl)
    simp only [List.getElem_toArray, List.getElem_cons_zero, List.getElem_cons_succ, Act.put, List.setIfInBounds_toArray, List.set_cons_zero, List.set_cons_succ]
    refine wpAnyH_take (i := 3) (v := ?_) rfl (by kernel_rfl) (by kernel_rfl) (by kernel_rfl) (fun _ _ _ h => h) (Or.inl ⟨by rfl, ?_⟩) hS0 ?_
    rotate_left
    · (intro w hSw; (try dsimp only at hSw); go_simp; try with_reducible rfl)
    simp only [List.getElem_toArray, List.getElem_cons_zero, List.getElem_cons_succ, Act.put, List.setIfInBounds_toArray, List.set_cons_zero, List.set_cons_succ]
    refine wpAnyH_take (i := 4) (v := ?_) rfl (by kernel_rfl) (by kernel_rfl) (by kernel_rfl) (fun _ _ _ h => h) (Or.inl ⟨by rfl, ?_⟩) hS0 ?_
    rotate_left
    · (intro w hSw; (try dsimp only at hSw); go_simp; try with_reducible rfl)
    simp only [List.getElem_toArray, List.getElem_cons_zero, List.getElem_cons_succ, Act.put, List.setIfInBounds_toArray, List.set_cons_zero, List.set_cons_succ]
    refine wpAnyH_take (i := 6) (v := ?_) rfl (by kernel_rfl) (by kernel_rfl) (by kernel_rfl) (fun _ _ _ h => h) (Or.inl ⟨by rfl, ?_⟩) hS0 ?_
    rotate_left
    · (intro w hSw; (try dsimp only at hSw); go_simp; try with_reducible rfl)
    simp only [List.getElem_toArray, List.getElem_cons_zero, List.getElem_cons_succ, Act.put, List.setIfInBounds_toArray, List.set_cons_zero, List.set_cons_succ]
    refine wpAnyH_ready (rs := [5]) (by kernel_rfl) (by simp) ?_
    refine AllReadyH.cons rfl (fun K hK => ?_) AllReadyH.nil
    go_simp
    refine (hrg _).mono ?_
    rintro e v1 ⟨rfl, hb1⟩
    (try go_simp)
    refine hK.out _ _ ⟨(by first | exact hS0.1.below hb1 hS0.1.lt | exact hS0.1.trans (hb1.mono hS0.1.size) | exact hS0.1.trans (hb1.mono (by have := hS0.1.size; omega)) | exact (hb1.cell (cell_lt hS0.1)).trans hS0.1 | exact hS0.1.below hb1 (Nat.le_refl _) | exact hS0.1.low hb1 | exact hS0.1.below hb1 | exact hS0.1.trans (Only.of hb1)), (by first | exact hS0.2.1.below hb1 hS0.2.1.lt | exact hS0.2.1.trans (hb1.mono hS0.2.1.size) | exact hS0.2.1.trans (hb1.mono (by have := hS0.2.1.size; omega)) | exact (hb1.cell (cell_lt hS0.2.1)).trans hS0.2.1 | exact hS0.2.1.below hb1 (Nat.le_refl _) | exact hS0.2.1.low hb1 | exact hS0.2.1.below hb1 | exact hS0.2.1.trans (Only.of hb1)), (by first | exact hS0.2.2.below hb1 hS0.2.2.lt | exact hS0.2.2.trans (hb1.mono hS0.2.2.size) | exact hS0.2.2.trans (hb1.mono (by have := hS0.2.2.size; omega)) | exact (hb1.cell (cell_lt hS0.2.2)).trans hS0.2.2 | exact hS0.2.2.below hb1 (Nat.le_refl _) | exact hS0.2.2.low hb1 | exact hS0.2.2.below hb1 | exact hS0.2.2.trans (Only.of hb1))⟩ (fun hS1 => ?_)
    clear hK K
    have hD1_1 : Dev v1 D 0 0 false 3072 0 false now h := (by first | exact hD1_0.below hb1 hD1_0.lt | exact hD1_0.trans (hb1.mono hD1_0.size) | exact hD1_0.trans (hb1.mono (by have := hD1_0.size; omega)) | exact (hb1.cell (cell_lt hD1_0)).trans hD1_0 | exact hD1_0.below hb1 (Nat.le_refl _) | exact hD1_0.low hb1 | exact hD1_0.below hb1 | exact hD1_0.trans (Only.of hb1))
    have hB1_1 : Only D.has w v1 := (by first | exact hB1_0.below hb1 hB1_0.lt | exact hB1_0.trans (hb1.mono hB1_0.size) | exact hB1_0.trans (hb1.mono (by have := hB1_0.size; omega)) | exact (hb1.cell (cell_lt hB1_0)).trans hB1_0 | exact hB1_0.below hb1 (Nat.le_refl _) | exact hB1_0.low hb1 | exact hB1_0.below hb1 | exact hB1_0.trans (Only.of hb1))
    clear hb1 hS0
    simp only [List.getElem_toArray, List.getElem_cons_zero, List.getElem_cons_succ, Act.put, List.setIfInBounds_toArray, List.set_cons_zero, List.set_cons_succ]
    refine wpAnyH_ready (rs := [7]) (by kernel_rfl) (by simp) ?_
    refine AllReadyH.cons rfl (fun K hK => ?_) AllReadyH.nil
    go_simp
    refine (ht _ (Dev.T hD1_1)).mono ?_
    rintro e v2 ⟨⟨v, rfl⟩, q2⟩
    have hNB := Only.trans hB1_1 (q2.mono (fun k _ e => hS k (by have e : k = D.t := e; omega)))
    have n1 : ¬ D.p = D.t := by omega
    have n2 : ¬ D.bu = D.t := by omega
    (try go_simp)
    refine hK.out _ _ ⟨(World.cell?_of_block (a := ⟨D.p, 0, none⟩) (q2.block D.p (cell_lt hS1.1) n1)).trans hS1.1, (World.cell?_of_block (a := ⟨D.p, 2, none⟩) (q2.block D.p (cell_lt hS1.1) n1)).trans hS1.2.1, Blk.only hS1.2.2 q2 n2⟩ (fun hS2 => ?_)
    clear hK K hS1
    simp only [List.getElem_toArray, List.getElem_cons_zero, List.getElem_cons_succ, Act.put, List.setIfInBounds_toArray, List.set_cons_zero, List.set_cons_succ]
    refine wpAnyH_done (by kernel_rfl) ?_ _
    have c0 := hS2.1
    have c2 := hS2.2.1
    have hA1 := hS2.2.2
    clear hS2
    generalize v2 = w3 at *
    go_wp2_with fail
    refine (latWrite_calls D.bu h b w3 hA1).mono ?_
    rintro e w4 ⟨rfl, q3, q4⟩
    have hMB := hNB.trans (q4.mono (fun k _ e => hS k (by have e : k = D.bu := e; omega)))
    go_wp2_with fail
    go_end0
    exact ⟨rfl, hMB⟩
  · go_enter Try.func44, Try.ntmps44
    (go_wp2_with fail; refine Cl.p (hpl _) ?_)
    go_wp2_with fail
    refine Cl.m (hwh _) ?_
    intro w1 hb1
    have hD1 := hD.low hb1
    have hB1 : Only D.has w w1 := Only.of hb1
    obtain ⟨c0, c1, c2, c3, c4, c5, c6, c7⟩ := hD1.cells
    clear hpl hwh hD hb1 c0 c1 c3 c2 c5 c6 c7
    go_wp2_with fail
    refine (ptWrite_calls D.po D.gf 0 0 b w1 hb (by omega) (by omega) hD1.P).mono ?_
    rintro e w2 ⟨⟨v, rfl⟩, _, q2⟩
    have hB2 := hB1.trans (q2.mono (fun k _ e => hS k (by have e : k = D.po := e; omega)))
    have c2 : w2.cell? ⟨D.p, 2, none⟩ = some (.pointer (some ⟨D.bu, 0, none⟩)) := Blk.cell (Blk.only hD1.H q2 (by omega)) 2
    have hA2 : AB w2 D.bu h := Blk.only hD1.A q2 (by omega)
    clear hD1 c4 hB1
    go_wp2_with fail
    refine (latWrite_calls D.bu h b w2 hA2).mono ?_
    rintro e w4 ⟨rfl, q3, q4⟩
    have hMB := hB2.trans (q4.mono (fun k _ e => hS k (by have e : k = D.bu := e; omega)))
    go_wp2_with fail
    go_end0
    exact ⟨rfl, hMB⟩
  · go_enter Try.func44, Try.ntmps44
    (go_wp2_with fail; refine Cl.p (hpl _) ?_)
    go_wp2_with fail
    refine Cl.m (hwh _) ?_
    intro w1 hb1
    have hD1 := hD.low hb1
    have hB1 : Only D.has w w1 := Only.of hb1
    obtain ⟨c0, c1, c2, c3, c4, c5, c6, c7⟩ := hD1.cells
    have hA1 := hD1.A
    clear hpl hwh hD hb1 c1 c0 c4 c5 c6 c7 h6
    go_wp2_with fail
    refine wp_region_held_drew (S := fun W => W.cell? ⟨D.p, 3, none⟩ = some (.pointer (some ⟨D.a, 0, none⟩)) ∧ W.cell? ⟨D.p, 2, none⟩ = some (.pointer (some ⟨D.bu, 0, none⟩)) ∧ AB W D.bu h) (by kernel_rfl) ⟨(by first | exact c3.drew | exact c3 | exact Below.drew c3), (by first | exact c2.drew | exact c2 | exact Below.drew c2), (by first | exact hA1.drew | exact hA1 | exact Below.drew hA1)⟩ (fun hS0 => ?_)
    have hD1_0 : Dev w1.drew D 0 0 false 3072 0 false now h := by first | exact hD1.drew | exact hD1
    have hB1_0 : Only D.has w w1.drew := by first | exact hB1.drew | exact hB1
    clear c3 c2 hA1 hD1 hB1
    change wpAnyH _ _ _ _ _ 8 #[false, false, false, false, false, false, false, false] _ _
    generalize w1.drew = v0 at *
    refine wpAnyH_take (i := 0) (v := ?_) rfl (by kernel_rfl) (by kernel_rfl) (by kernel_rfl) (fun _ _ _ h => h) (Or.inl ⟨by rfl, ?_⟩) hS0 ?_
    rotate_left
    · (intro w hSw; (try dsimp only at hSw); go_simp; try with_reducible rfl)
    simp only [List.getElem_toArray, List.getElem_cons_zero, List.getElem_cons_succ, Act.put, List.setIfInBounds_toArray, List.set_cons_zero, List.set_cons_succ]
    refine wpAnyH_take (i := 1) (v := ?_) rfl (by kernel_rfl) (by kernel_rfl) (by kernel_rfl) (fun _ _ _ h => h) (Or.inl ⟨by rfl, ?_⟩) hS0 ?_
    rotate_left
    · (intro w hSw; (try dsimp only at hSw); go_simp; try with_reducible rfl)
    simp only [List.getElem_toArray, List.getElem_cons_zero, List.getElem_cons_succ, Act.put, List.setIfInBounds_toArray, List.set_cons_zero, List.set_cons_succ]
    refine wpAnyH_take (i := 2) (v := ?_) rfl (by kernel_rfl) (by kernel_rfl) (by kernel_rfl) (fun _ _ _ h => h) (Or.inl ⟨by rfl, ?_⟩) hS0 ?_
    rotate_left
    · (intro w hSw; (try dsimp only at hSw); go_simp; try with_reducible rfl)
    simp only [List.getElem_toArray, List.getElem_cons_zero, List.getElem_cons_succ, Act.put, List.setIfInBounds_toArray, List.set_cons_zero, List.set_cons_succ]
    refine wpAnyH_take (i := 3) (v := ?_) rfl (by kernel_rfl) (by kernel_rfl) (by kernel_rfl) (fun _ _ _ h => h) (Or.inl ⟨by rfl, ?_⟩) hS0 ?_
    rotate_left
    · (intro w hSw; (try dsimp only at hSw); go_simp; try with_reducible rfl)
    simp only [List.getElem_toArray, List.getElem_cons_zero, List.getElem_cons_succ, Act.put, List.setIfInBounds_toArray, List.set_cons_zero, List.set_cons_succ]
    refine wpAnyH_take (i := 4) (v := ?_) rfl (by kernel_rfl) (by kernel_rfl) (by kernel_rfl) (fun _ _ _ h => h) (Or.inl ⟨by rfl, ?_⟩) hS0 ?_
    rotate_left
    · (intro w hSw; (try dsimp only at hSw); go_simp; try with_reducible rfl)
    simp only [List.getElem_toArray, List.getElem_cons_zero, List.getElem_cons_succ, Act.put, List.setIfInBounds_toArray, List.set_cons_zero, List.set_cons_succ]
    refine wpAnyH_take (i := 6) (v := ?_) rfl (by kernel_rfl) (by kernel_rfl) (by kernel_rfl) (fun _ _ _ h => h) (Or.inl ⟨by rfl, ?_⟩) hS0 ?_
    rotate_left
    · (intro w hSw; (try dsimp only at hSw); go_simp; try with_reducible rfl)
    simp only [List.getElem_toArray, List.getElem_cons_zero, List.getElem_cons_succ, Act.put, List.setIfInBounds_toArray, List.set_cons_zero, List.set_cons_succ]
    refine wpAnyH_ready (rs := [5]) (by kernel_rfl) (by simp) ?_
    refine AllReadyH.cons rfl (fun K hK => ?_) AllReadyH.nil
    go_simp
    refine (hrg _).mono ?_
    rintro e v1 ⟨rfl, hb1⟩
    (try go_simp)
    refine hK.out _ _ ⟨(by first | exact hS0.1.below hb1 hS0.1.lt | exact hS0.1.trans (hb1.mono hS0.1.size) | exact hS0.1.trans (hb1.mono (by have := hS0.1.size; omega)) | exact (hb1.cell (cell_lt hS0.1)).trans hS0.1 | exact hS0.1.below hb1 (Nat.le_refl _) | exact hS0.1.low hb1 | exact hS0.1.below hb1 | exact hS0.1.trans (Only.of hb1)), (by first | exact hS0.2.1.below hb1 hS0.2.1.lt | exact hS0.2.1.trans (hb1.mono hS0.2.1.size) | exact hS0.2.1.trans (hb1.mono (by have := hS0.2.1.size; omega)) | exact (hb1.cell (cell_lt hS0.2.1)).trans hS0.2.1 | exact hS0.2.1.below hb1 (Nat.le_refl _) | exact hS0.2.1.low hb1 | exact hS0.2.1.below hb1 | exact hS0.2.1.trans (Only.of hb1)), (by first | exact hS0.2.2.below hb1 hS0.2.2.lt | exact hS0.2.2.trans (hb1.mono hS0.2.2.size) | exact hS0.2.2.trans (hb1.mono (by have := hS0.2.2.size; omega)) | exact (hb1.cell (cell_lt hS0.2.2)).trans hS0.2.2 | exact hS0.2.2.below hb1 (Nat.le_refl _) | exact hS0.2.2.low hb1 | exact hS0.2.2.below hb1 | exact hS0.2.2.trans (Only.of hb1))⟩ (fun hS1 => ?_)
    clear hK K
    have hD1_1 : Dev v1 D 0 0 false 3072 0 false now h := (by first | exact hD1_0.below hb1 hD1_0.lt | exact hD1_0.trans (hb1.mono hD1_0.size) | exact hD1_0.trans (hb1.mono (by have := hD1_0.size; omega)) | exact (hb1.cell (cell_lt hD1_0)).trans hD1_0 | exact hD1_0.below hb1 (Nat.le_refl _) | exact hD1_0.low hb1 | exact hD1_0.below hb1 | exact hD1_0.trans (Only.of hb1))
    have hB1_1 : Only D.has w v1 := (by first | exact hB1_0.below hb1 hB1_0.lt | exact hB1_0.trans (hb1.mono hB1_0.size) | exact hB1_0.trans (hb1.mono (by have := hB1_0.size; omega)) | exact (hb1.cell (cell_lt hB1_0)).trans hB1_0 | exact hB1_0.below hb1 (Nat.le_refl _) | exact hB1_0.low hb1 | exact hB1_0.below hb1 | exact hB1_0.trans (Only.of hb1))
    clear hb1 hS0
    simp only [List.getElem_toArray, List.getElem_cons_zero, List.getElem_cons_succ, Act.put, List.setIfInBounds_toArray, List.set_cons_zero, List.set_cons_succ]
    refine wpAnyH_ready (rs := [7]) (by kernel_rfl) (by simp) ?_
    refine AllReadyH.cons rfl (fun K hK => ?_) AllReadyH.nil
    go_simp
    refine (iqWrite_calls D.a 0 b false rg _ hb (Dev.I hD1_1)).mono ?_
    rintro e v2 ⟨⟨v, rfl⟩, _, q2⟩
    have hNB := Only.trans hB1_1 (q2.mono (fun k _ e => hS k (by have e : k = D.a := e; omega)))
    have n1 : ¬ D.p = D.a := by omega
    have n2 : ¬ D.bu = D.a := by omega
    (try go_simp)
    refine hK.out _ _ ⟨(World.cell?_of_block (a := ⟨D.p, 3, none⟩) (q2.block D.p (cell_lt hS1.1) n1)).trans hS1.1, (World.cell?_of_block (a := ⟨D.p, 2, none⟩) (q2.block D.p (cell_lt hS1.1) n1)).trans hS1.2.1, Blk.only hS1.2.2 q2 n2⟩ (fun hS2 => ?_)
    clear hK K hS1
    simp only [List.getElem_toArray, List.getElem_cons_zero, List.getElem_cons_succ, Act.put, List.setIfInBounds_toArray, List.set_cons_zero, List.set_cons_succ]
    refine wpAnyH_done (by kernel_rfl) ?_ _
    have c3 := hS2.1
    have c2 := hS2.2.1
    have hA1 := hS2.2.2
    clear hS2
    generalize v2 = w3 at *
    go_wp2_with fail
    refine (latWrite_calls D.bu h b w3 hA1).mono ?_
    rintro e w4 ⟨rfl, q3, q4⟩
    have hMB := hNB.trans (q4.mono (fun k _ e => hS k (by have e : k = D.bu := e; omega)))
    go_wp2_with fail
    go_end0
    exact ⟨rfl, hMB⟩
  · clear h6 hrg
    rcases hk with rfl | rfl | rfl | rfl | rfl
    all_goals
      go_enter Try.func44, Try.ntmps44
      (go_wp2_with fail; refine Cl.p (hpl _) ?_)
      go_wp2_with fail
      refine Cl.m (hwh _) ?_
      intro w1 hb1
      go_wp2_with fail
      exact bodyPost_ret (results_none rfl _ _ _) rfl ⟨rfl, Only.of hb1⟩
set_option maxRecDepth 100000 in
set_option maxHeartbeats 4000000 in
/-- On to a stamp, the timer off. -/
theorem hdToC (D : DevA) (h : Nat) (now stamp : Int) (w : World) (h1 : 0 ≤ now) (h2 : stamp ≤ 1000000) (hn : now ≤ stamp) (hD : Dev w D 0 0 false 3072 0 false now h) :
    Calls Try.prog 42 #[.pointer (some ⟨D.p, 0, none⟩), .int .i64 stamp] w fun e w' => e = .returned (.tuple #[]) ∧ Dev w' D 0 0 false 3072 0 false stamp h ∧ Only D.has w w' := by
  obtain ⟨c0, c1, c2, c3, c4, c5, c6, c7⟩ := hD.cells
  have hS : ∀ k, (D.l ≤ k ∧ k ≤ D.p) → D.has k := fun k h => h
  by_cases h0 : now < stamp
  · have i1 : (decide (stamp ≤ now)) = false := by rw [decide_eq_false_iff_not]; omega
    obtain ⟨dl, hdl⟩ : ∃ x, stamp - now = x := ⟨_, rfl⟩
    have i2 : IntKind.i64.wrap dl = dl := by rw [IntKind.wrap_i64]; omega
    have hB : Only D.has w w := Only.refl _ _
    have ht := fun W (h : TB W D.t 0 0 false 3072) => tmOff_calls D.t 0 0 dl W h
    clear c1 c2 c3 c4 c5 c6
    go_enter Try.func42, Try.ntmps42
    go_wp2_with fail
    refine wp_region_held_drew (S := fun W => W.cell? ⟨D.p, 0, none⟩ = some (.pointer (some ⟨D.t, 0, none⟩)) ∧ W.cell? ⟨D.p, 7, none⟩ = some (.int .i64 now) ∧ Dev W D 0 0 false 3072 0 false now h ∧ Only D.has w W) (by kernel_rfl) ⟨(by first | exact c0.drew | exact c0 | exact Below.drew c0), (by first | exact c7.drew | exact c7 | exact Below.drew c7), (by first | exact hD.drew | exact hD | exact Below.drew hD), (by first | exact hB.drew | exact hB | exact Below.drew hB)⟩ (fun hS0 => ?_)
    clear c0 c7 hD hB
    change wpAnyH _ _ _ _ _ 12 #[false, false, false, false, false, false, false, false, false, false, false, false] _ _
    generalize w.drew = v0 at *
    refine wpAnyH_take (i := 0) (v := ?_) rfl (by kernel_rfl) (by kernel_rfl) (by kernel_rfl) (fun _ _ _ h => h) (Or.inl ⟨by rfl, ?_⟩) hS0 ?_
    rotate_left
    · (intro w hSw; (try dsimp only at hSw); go_simp; try with_reducible rfl)
    simp only [List.getElem_toArray, List.getElem_cons_zero, List.getElem_cons_succ, Act.put, List.setIfInBounds_toArray, List.set_cons_zero, List.set_cons_succ]
    refine wpAnyH_take (i := 1) (v := ?_) rfl (by kernel_rfl) (by kernel_rfl) (by kernel_rfl) (fun _ _ _ h => h) (Or.inl ⟨by rfl, ?_⟩) hS0 ?_
    rotate_left
    · (intro w hSw; (try dsimp only at hSw); go_simp; try with_reducible rfl)
    simp only [List.getElem_toArray, List.getElem_cons_zero, List.getElem_cons_succ, Act.put, List.setIfInBounds_toArray, List.set_cons_zero, List.set_cons_succ]
    refine wpAnyH_take (i := 2) (v := ?_) rfl (by kernel_rfl) (by kernel_rfl) (by kernel_rfl) (fun _ _ _ h => h) (Or.inl ⟨by rfl, ?_⟩) hS0 ?_
    rotate_left
    · (intro w hSw; (try dsimp only at hSw); go_simp; try with_reducible rfl)
    simp only [List.getElem_toArray, List.getElem_cons_zero, List.getElem_cons_succ, Act.put, List.setIfInBounds_toArray, List.set_cons_zero, List.set_cons_succ]
    refine wpAnyH_take (i := 3) (v := ?_) rfl (by kernel_rfl) (by kernel_rfl) (by kernel_rfl) (fun _ _ _ h => h) (Or.inl ⟨by rfl, ?_⟩) hS0 ?_
    rotate_left
    · (intro w hSw; (try dsimp only at hSw); go_simp; try with_reducible rfl)
    simp only [List.getElem_toArray, List.getElem_cons_zero, List.getElem_cons_succ, Act.put, List.setIfInBounds_toArray, List.set_cons_zero, List.set_cons_succ]
    refine wpAnyH_take (i := 4) (v := ?_) rfl (by kernel_rfl) (by kernel_rfl) (by kernel_rfl) (fun _ _ _ h => h) (Or.inl ⟨by rfl, ?_⟩) hS0 ?_
    rotate_left
    · (intro w hSw; (try dsimp only at hSw); go_simp; try with_reducible rfl)
    simp only [List.getElem_toArray, List.getElem_cons_zero, List.getElem_cons_succ, Act.put, List.setIfInBounds_toArray, List.set_cons_zero, List.set_cons_succ]
    refine wpAnyH_take (i := 5) (v := ?_) rfl (by kernel_rfl) (by kernel_rfl) (by kernel_rfl) (fun _ _ _ h => h) (Or.inl ⟨by rfl, ?_⟩) hS0 ?_
    rotate_left
    · (intro w hSw; (try dsimp only at hSw); go_simp; try with_reducible rfl)
    simp only [List.getElem_toArray, List.getElem_cons_zero, List.getElem_cons_succ, Act.put, List.setIfInBounds_toArray, List.set_cons_zero, List.set_cons_succ]
    refine wpAnyH_take (i := 6) (v := ?_) rfl (by kernel_rfl) (by kernel_rfl) (by kernel_rfl) (fun _ _ _ h => h) (Or.inl ⟨by rfl, ?_⟩) hS0 ?_
    rotate_left
    · (intro w hSw; (try dsimp only at hSw); go_simp; try with_reducible rfl)
    simp only [List.getElem_toArray, List.getElem_cons_zero, List.getElem_cons_succ, Act.put, List.setIfInBounds_toArray, List.set_cons_zero, List.set_cons_succ]
    refine wpAnyH_take (i := 7) (v := ?_) rfl (by kernel_rfl) (by kernel_rfl) (by kernel_rfl) (fun _ _ _ h => h) (Or.inl ⟨by rfl, ?_⟩) hS0 ?_
    rotate_left
    · (intro w hSw; (try dsimp only at hSw); go_simp; try with_reducible rfl)
    simp only [List.getElem_toArray, List.getElem_cons_zero, List.getElem_cons_succ, Act.put, List.setIfInBounds_toArray, List.set_cons_zero, List.set_cons_succ]
    refine wpAnyH_take (i := 8) (v := ?_) rfl (by kernel_rfl) (by kernel_rfl) (by kernel_rfl) (fun _ _ _ h => h) (Or.inl ⟨by rfl, ?_⟩) hS0 ?_
    rotate_left
    · (intro w hSw; (try dsimp only at hSw); go_simp; try with_reducible rfl)
    simp only [List.getElem_toArray, List.getElem_cons_zero, List.getElem_cons_succ, Act.put, List.setIfInBounds_toArray, List.set_cons_zero, List.set_cons_succ]
    refine wpAnyH_take (i := 9) (v := ?_) rfl (by kernel_rfl) (by kernel_rfl) (by kernel_rfl) (fun _ _ _ h => h) (Or.inl ⟨by rfl, ?_⟩) hS0 ?_
    rotate_left
    · (intro w hSw; (try dsimp only at hSw); go_simp; try with_reducible rfl)
    simp only [List.getElem_toArray, List.getElem_cons_zero, List.getElem_cons_succ, Act.put, List.setIfInBounds_toArray, List.set_cons_zero, List.set_cons_succ]
    refine wpAnyH_ready (rs := [10]) (by kernel_rfl) (by simp) ?_
    refine AllReadyH.cons rfl (fun K hK => ?_) AllReadyH.nil
    go_simp
    refine (ht _ (Dev.T hS0.2.2.1)).mono ?_
    rintro e w' ⟨rfl, rfl⟩
    (try go_simp)
    refine hK.out _ _ hS0 (fun _ => ?_)
    clear hK K
    simp only [List.getElem_toArray, List.getElem_cons_zero, List.getElem_cons_succ, Act.put, List.setIfInBounds_toArray, List.set_cons_zero, List.set_cons_succ]
    refine wpAnyH_take (i := 11) (v := ?_) rfl (by kernel_rfl) (by kernel_rfl) (by kernel_rfl) (fun _ _ _ h => h) (Or.inl ⟨by rfl, ?_⟩) hS0 ?_
    rotate_left
    · (intro w hSw; (try dsimp only at hSw); go_simp; try with_reducible rfl)
    simp only [List.getElem_toArray, List.getElem_cons_zero, List.getElem_cons_succ, Act.put, List.setIfInBounds_toArray, List.set_cons_zero, List.set_cons_succ]
    refine wpAnyH_done (by kernel_rfl) ?_ _
    have c0 := hS0.1
    have c7 := hS0.2.1
    have hD := hS0.2.2.1
    have hB := hS0.2.2.2
    clear hS0
    generalize v0 = w1 at *
    have d1 : w1.cell? ⟨D.p, 1, none⟩ = some (.pointer (some ⟨D.l, 0, none⟩)) := Blk.cell hD.H 1
    clear hdl
    go_wp2_with fail
    refine (lnTo_n D.l D.o 0 D.c 0 (fun _ => 0) (fun _ => 0) (fun _ => false) false stamp w1 ⟨by omega, fun i hi => by omega⟩ (Nat.zero_le _) hD.Li (fun i hi => by omega) (fun h => by omega)).mono ?_
    rintro e w2 ⟨⟨v, rfl⟩, hL2, ho2⟩
    have hM := hD.setLi (o' := none) hL2 ho2
    have hap := hM.ap
    have hMB := hB.trans (ho2.mono (fun k _ e => hS k (by have e : k = D.l := e; omega)))
    have f7 : w2.frozen? ⟨D.p, 7, none⟩ = false := Blk.frozen hM.H 7
    have e7 : w2.cell? ⟨D.p, 7, none⟩ = some (.int .i64 now) := Blk.cell hM.H 7
    go_wp2_with fail
    go_end0
    exact ⟨rfl, hM.setH (Blk.set_ hM.H 7 (.int .i64 stamp)) (Only.setCell (S := fun k => k = D.p) (Only.refl _ _) ⟨D.p, 7, none⟩ rfl _), Only.setCell hMB ⟨D.p, 7, none⟩ (hS _ ⟨by show D.l ≤ D.p; omega, Nat.le_refl _⟩) _⟩
  · obtain rfl : now = stamp := by omega
    clear h0 hn c0 c1 c2 c3 c4 c5 c6
    go_enter Try.func42, Try.ntmps42
    go_wp2_with fail
    exact bodyPost_ret (results_none rfl _ _ _) rfl ⟨rfl, hD, Only.refl _ _⟩
end Go.Proofs.Ytemfdkoipeedeaa
