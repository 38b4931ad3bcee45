/-
  Package state: Other.
-/
import Derived.Test.YtelmkpcocaogjaaDoorSta4
import Derived.Test.YtelmkpcocaogjaaDoorRowl
import Derived.Test.YtelmkpcocaogjaaDoorApp1
import Derived.Deep.DeepCutAuto
import Derived.BigQuiet
import Derived.Deep.QuietTactic
namespace Go.Proofs.YtelmkpcocaogjaaDoor
set_option linter.unusedSimpArgs false
set_option linter.unusedVariables false
open Go.RowKit Pl

theorem infoStr : (Tryd.prog.info? 9).map (fun i => (i.zero, i.size, i.bytes)) = some (some (.string ByteArray.empty), 1, 16) := by kernel_rfl
theorem nmA_ix (k : Nat) (hlt : k < 16) (w : World) : (Instr.index 61 (.agg nmA) (.int .i64 (k : Int))).run Tryd.prog w = .ok (.string (nmB k)) w :=
  run_index_row 61 9 16 Tryd.underlying61 (fun _ => by kernel_rfl) (fun _ => by kernel_rfl) _ .i64 k hlt _ (arr_get 16 _ k hlt) w
/-- The names of those that aren't alike, so far. -/
def dfN (A B : Nat → Nat) : Nat → Nat
  | 0 => 0
  | k + 1 => if A k = B k then dfN A B k else dfN A B k + 1
def dfL (A B : Nat → Nat) : Nat → List Value
  | 0 => []
  | k + 1 => if A k = B k then dfL A B k else dfL A B k ++ [.string (nmB k)]
theorem dfN_le (A B : Nat → Nat) : ∀ k, dfN A B k ≤ k
  | 0 => Nat.le_refl _
  | k + 1 => by
    have := dfN_le A B k
    unfold dfN
    split <;> omega
theorem dfL_all (A B : Nat → Nat) : ∀ k, (∀ i, i < k → A i = B i) → dfN A B k = 0 ∧ dfL A B k = []
  | 0, _ => ⟨rfl, rfl⟩
  | k + 1, h => by
    obtain ⟨h1, h2⟩ := dfL_all A B k fun i hi => h i (by omega)
    unfold dfN dfL
    rw [if_pos (h k (by omega)), if_pos (h k (by omega))]
    exact ⟨h1, h2⟩
set_option maxRecDepth 100000 in
set_option maxHeartbeats 4000000 in
theorem stOther_calls (A B : Nat → Nat) (w : World) (hA : ROk A) (hB : ROk B) :
    Calls Tryd.prog 15 #[.agg (stA A), .agg (stA B)] w fun e w' => ∃ v, e = .returned v ∧ w'.ownsRow w.heap.size 9 1 v (dfN A B 16) (dfL A B 16) ∧ Below w.heap.size w w' := by
  have hXA : Blk ((w.alloc (.cells (stA A) 25)).alloc (.cells (stA B) 25)) w.heap.size 25 (stA A) := Blk.alloc (Blk.new _ _ _) _
  have hXB : Blk ((w.alloc (.cells (stA A) 25)).alloc (.cells (stA B) 25)) (w.heap.size + 1) 25 (stA B) := Blk.newAt (by simp)
  have hb0 : Below w.heap.size w ((w.alloc (.cells (stA A) 25)).alloc (.cells (stA B) 25)) := Bl.alloc (Bl.alloc (Below.refl _ _) _) _
  go_enter Tryd.func15, Tryd.ntmps15
  go_upto_region 1 with fail
  generalize ((w.alloc (.cells (stA A) 25)).alloc (.cells (stA B) 25)) = w0 at *
  obtain ⟨gA, hgA⟩ : ∃ x, w.heap.size = x := ⟨_, rfl⟩
  obtain ⟨gB, hgB⟩ : ∃ x, w.heap.size + 1 = x := ⟨_, rfl⟩
  have hAB : w.heap.size ≤ gA ∧ w.heap.size ≤ gB := by omega
  have hXA' : Blk w0 gA 25 (stA A) := by rw [← hgA]; exact hXA
  have hXB' : Blk w0 gB 25 (stA B) := by rw [← hgB]; exact hXB
  clear hXA hXB
  have hXA := hXA'
  have hXB := hXB'
  clear hXA' hXB'
  rw [hgB, hgA]
  go_cut [5, 6] (fun s5 s6 wx => ∃ g4 g5, s5 = .pointer (some ⟨g4, 0, none⟩) ∧ s6 = .pointer (some ⟨g5, 0, none⟩) ∧ Blk wx g4 64 (vaA A) ∧ Blk wx g5 64 (vaA B) ∧ Below w.heap.size w wx)
  case first =>
    refine wp_region_held_drew (S := fun W => Blk W gA 25 (stA A) ∧ Blk W gB 25 (stA B) ∧ Below w.heap.size w W) (by kernel_rfl) ⟨hXA, hXB, hb0.drew⟩ (fun hS0 => ?_)
    change wpAnyH _ _ _ _ _ 8 #[false, false, false, false, false, false, false, false] _ _
    generalize w0.drew = v0 at hS0 ⊢
    refine wpAnyH_take (i := 0) (v := .agg (stA A)) rfl (by kernel_rfl) (by kernel_rfl) (by kernel_rfl) (fun _ _ _ h => h) (YieldsIf.row rfl 25 _ rfl gA rfl _ _ _ (fun _ h => h.1) Tryd.underlying25 rfl (by kernel_rfl)) hS0 ?_
    simp only [List.getElem_toArray, List.getElem_cons_zero, List.getElem_cons_succ, Act.put, List.setIfInBounds_toArray, List.set_cons_zero, List.set_cons_succ]
    refine wpAnyH_take (i := 2) (v := .agg (stA B)) rfl (by kernel_rfl) (by kernel_rfl) (by kernel_rfl) (fun _ _ _ h => h) (YieldsIf.row rfl 25 _ rfl gB rfl _ _ _ (fun _ h => h.2.1) Tryd.underlying25 rfl (by kernel_rfl)) hS0 ?_
    simp only [List.getElem_toArray, List.getElem_cons_zero, List.getElem_cons_succ, Act.put, List.setIfInBounds_toArray, List.set_cons_zero, List.set_cons_succ]
    refine wpAnyH_ready (rs := [1, 4, 5]) (by kernel_rfl) (by simp) ?_
    refine AllReadyH.cons rfl (fun K hK => ?_) ?_
    · -- call 1
      go_simp
      refine (stOf_calls A _ hA).mono ?_
      rintro e v1 ⟨rfl, hb1⟩
      (try go_simp)
      refine hK.out _ _ ⟨hS0.1.below hb1 hS0.1.lt, hS0.2.1.below hb1 hS0.2.1.lt, hS0.2.2.trans (hb1.mono hS0.2.2.size)⟩ (fun hS1 => ?_)
      clear hK K
      clear hb1
      simp only [List.getElem_toArray, List.getElem_cons_zero, List.getElem_cons_succ, Act.put, List.setIfInBounds_toArray, List.set_cons_zero, List.set_cons_succ]
      refine wpAnyH_ready (rs := [3, 4, 5]) (by kernel_rfl) (by simp) ?_
      refine AllReadyH.cons rfl (fun K hK => ?_) ?_
      · -- call 3
        go_simp
        refine (stOf_calls B _ hB).mono ?_
        rintro e v2 ⟨rfl, hb2⟩
        (try go_simp)
        refine hK.out _ _ ⟨hS1.1.below hb2 hS1.1.lt, hS1.2.1.below hb2 hS1.2.1.lt, hS1.2.2.trans (hb2.mono hS1.2.2.size)⟩ (fun hS2 => ?_)
        clear hK K
        clear hb2
        simp only [List.getElem_toArray, List.getElem_cons_zero, List.getElem_cons_succ, Act.put, List.setIfInBounds_toArray, List.set_cons_zero, List.set_cons_succ]
        refine wpAnyH_ready (rs := [4, 5]) (by kernel_rfl) (by simp) ?_
        refine AllReadyH.cons rfl (fun K hK => ?_) ?_
        · -- alloc 4
          go_simp
          refine hK.out _ _ ⟨hS2.1.alloc _, hS2.2.1.alloc _, Bl.alloc hS2.2.2 _⟩ (fun hS3 => ?_)
          clear hK K
          have hN4_3 : Blk (v2.alloc (.cells #[.int .u16 0, .int .u16 0, .int .u16 0, .int .u16 0, .int .u16 0, .int .u16 0, .int .u16 0, .int .u16 0, .int .u16 0, .int .u16 0, .int .u16 0, .int .u16 0, .int .u16 0, .int .u16 0, .int .u16 0, .int .u16 0] 64)) v2.heap.size 64 #[.int .u16 0, .int .u16 0, .int .u16 0, .int .u16 0, .int .u16 0, .int .u16 0, .int .u16 0, .int .u16 0, .int .u16 0, .int .u16 0, .int .u16 0, .int .u16 0, .int .u16 0, .int .u16 0, .int .u16 0, .int .u16 0] := Blk.new _ _ _
          have hg4_0 := hS2.1.lt
          have hg4_1 := hS2.2.1.lt
          have hg4_2 := hS2.2.2.size
          generalize v2.alloc (.cells #[.int .u16 0, .int .u16 0, .int .u16 0, .int .u16 0, .int .u16 0, .int .u16 0, .int .u16 0, .int .u16 0, .int .u16 0, .int .u16 0, .int .u16 0, .int .u16 0, .int .u16 0, .int .u16 0, .int .u16 0, .int .u16 0] 64) = v3 at *
          obtain ⟨g4, hg4⟩ : ∃ x, v2.heap.size = x := ⟨_, rfl⟩
          rw [hg4] at hN4_3 hg4_0 hg4_1 hg4_2  ⊢
          clear hg4
          simp only [List.getElem_toArray, List.getElem_cons_zero, List.getElem_cons_succ, Act.put, List.setIfInBounds_toArray, List.set_cons_zero, List.set_cons_succ]
          refine wpAnyH_ready (rs := [5]) (by kernel_rfl) (by simp) ?_
          refine AllReadyH.cons rfl (fun K hK => ?_) ?_
          · -- alloc 5
            go_simp
            refine hK.out _ _ ⟨hS3.1.alloc _, hS3.2.1.alloc _, Bl.alloc hS3.2.2 _⟩ (fun hS4 => ?_)
            clear hK K
            have hN5_4 : Blk (v3.alloc (.cells #[.int .u16 0, .int .u16 0, .int .u16 0, .int .u16 0, .int .u16 0, .int .u16 0, .int .u16 0, .int .u16 0, .int .u16 0, .int .u16 0, .int .u16 0, .int .u16 0, .int .u16 0, .int .u16 0, .int .u16 0, .int .u16 0] 64)) v3.heap.size 64 #[.int .u16 0, .int .u16 0, .int .u16 0, .int .u16 0, .int .u16 0, .int .u16 0, .int .u16 0, .int .u16 0, .int .u16 0, .int .u16 0, .int .u16 0, .int .u16 0, .int .u16 0, .int .u16 0, .int .u16 0, .int .u16 0] := Blk.new _ _ _
            have hN4_4 := hN4_3.alloc (.cells #[.int .u16 0, .int .u16 0, .int .u16 0, .int .u16 0, .int .u16 0, .int .u16 0, .int .u16 0, .int .u16 0, .int .u16 0, .int .u16 0, .int .u16 0, .int .u16 0, .int .u16 0, .int .u16 0, .int .u16 0, .int .u16 0] 64)
            have hne4_5 : g4 ≠ v3.heap.size := Nat.ne_of_lt hN4_3.lt
            have hg5_0 := hS3.1.lt
            have hg5_1 := hS3.2.1.lt
            have hg5_2 := hS3.2.2.size
            generalize v3.alloc (.cells #[.int .u16 0, .int .u16 0, .int .u16 0, .int .u16 0, .int .u16 0, .int .u16 0, .int .u16 0, .int .u16 0, .int .u16 0, .int .u16 0, .int .u16 0, .int .u16 0, .int .u16 0, .int .u16 0, .int .u16 0, .int .u16 0] 64) = v4 at *
            obtain ⟨g5, hg5⟩ : ∃ x, v3.heap.size = x := ⟨_, rfl⟩
            rw [hg5] at hN5_4 hg5_0 hg5_1 hg5_2 hne4_5 ⊢
            clear hg5
            simp only [List.getElem_toArray, List.getElem_cons_zero, List.getElem_cons_succ, Act.put, List.setIfInBounds_toArray, List.set_cons_zero, List.set_cons_succ]
            refine wpAnyH_ready (rs := [6]) (by kernel_rfl) (by simp) ?_
            refine AllReadyH.cons rfl (fun K hK => ?_) ?_
            · -- store 6
              rw [if_pos (show Region.wanted _ _ = true from by rfl)]
              refine wp_store_row 64 _ _ rfl g4 (vaA A) rfl rfl 64 _ hN4_4 (by kernel_rfl) rfl (by kernel_rfl) ?_
              refine hK.out _ _ ⟨hS4.1.setRow_far (by omega) _, hS4.2.1.setRow_far (by omega) _, below_setRow hS4.2.2 (by omega) _⟩ (fun hS5 => ?_)
              clear hK K
              have hN4_5 := hN4_4.setRow (vaA A)
              have hN5_5 := hN5_4.setRow_far (g' := g4) (by first | exact hne5_4 | exact Ne.symm hne4_5) (vaA A)
              generalize v4.setRow g4 (vaA A) = v5 at *
              simp only [List.getElem_toArray, List.getElem_cons_zero, List.getElem_cons_succ, Act.put, List.setIfInBounds_toArray, List.set_cons_zero, List.set_cons_succ]
              refine wpAnyH_ready (rs := [7]) (by kernel_rfl) (by simp) ?_
              refine AllReadyH.cons rfl (fun K hK => ?_) ?_
              · -- store 7
                rw [if_pos (show Region.wanted _ _ = true from by rfl)]
                refine wp_store_row 64 _ _ rfl g5 (vaA B) rfl rfl 64 _ hN5_5 (by kernel_rfl) rfl (by kernel_rfl) ?_
                refine hK.out _ _ ⟨hS5.1.setRow_far (by omega) _, hS5.2.1.setRow_far (by omega) _, below_setRow hS5.2.2 (by omega) _⟩ (fun hS6 => ?_)
                clear hK K
                have hN5_6 := hN5_5.setRow (vaA B)
                have hN4_6 := hN4_5.setRow_far (g' := g5) (by first | exact hne4_5 | exact Ne.symm hne5_4) (vaA B)
                generalize v5.setRow g5 (vaA B) = v6 at *
                simp only [List.getElem_toArray, List.getElem_cons_zero, List.getElem_cons_succ, Act.put, List.setIfInBounds_toArray, List.set_cons_zero, List.set_cons_succ]
                refine wpAnyH_done (by kernel_rfl) ?_ _
                go_wp2_with fail
                go_meet
                exact ⟨g4, g5, rfl, rfl, hN4_6, hN5_6, hS6.2.2⟩
              exact AllReadyH.nil
            exact AllReadyH.nil
          exact AllReadyH.nil
        refine AllReadyH.cons rfl (fun K hK => ?_) ?_
        · -- alloc 5
          go_simp
          refine hK.out _ _ ⟨hS2.1.alloc _, hS2.2.1.alloc _, Bl.alloc hS2.2.2 _⟩ (fun hS3 => ?_)
          clear hK K
          have hN5_3 : Blk (v2.alloc (.cells #[.int .u16 0, .int .u16 0, .int .u16 0, .int .u16 0, .int .u16 0, .int .u16 0, .int .u16 0, .int .u16 0, .int .u16 0, .int .u16 0, .int .u16 0, .int .u16 0, .int .u16 0, .int .u16 0, .int .u16 0, .int .u16 0] 64)) v2.heap.size 64 #[.int .u16 0, .int .u16 0, .int .u16 0, .int .u16 0, .int .u16 0, .int .u16 0, .int .u16 0, .int .u16 0, .int .u16 0, .int .u16 0, .int .u16 0, .int .u16 0, .int .u16 0, .int .u16 0, .int .u16 0, .int .u16 0] := Blk.new _ _ _
          have hg5_0 := hS2.1.lt
          have hg5_1 := hS2.2.1.lt
          have hg5_2 := hS2.2.2.size
          generalize v2.alloc (.cells #[.int .u16 0, .int .u16 0, .int .u16 0, .int .u16 0, .int .u16 0, .int .u16 0, .int .u16 0, .int .u16 0, .int .u16 0, .int .u16 0, .int .u16 0, .int .u16 0, .int .u16 0, .int .u16 0, .int .u16 0, .int .u16 0] 64) = v3 at *
          obtain ⟨g5, hg5⟩ : ∃ x, v2.heap.size = x := ⟨_, rfl⟩
          rw [hg5] at hN5_3 hg5_0 hg5_1 hg5_2  ⊢
          clear hg5
          simp only [List.getElem_toArray, List.getElem_cons_zero, List.getElem_cons_succ, Act.put, List.setIfInBounds_toArray, List.set_cons_zero, List.set_cons_succ]
          refine wpAnyH_ready (rs := [4]) (by kernel_rfl) (by simp) ?_
          refine AllReadyH.cons rfl (fun K hK => ?_) ?_
          · -- alloc 4
            go_simp
            refine hK.out _ _ ⟨hS3.1.alloc _, hS3.2.1.alloc _, Bl.alloc hS3.2.2 _⟩ (fun hS4 => ?_)
            clear hK K
            have hN4_4 : Blk (v3.alloc (.cells #[.int .u16 0, .int .u16 0, .int .u16 0, .int .u16 0, .int .u16 0, .int .u16 0, .int .u16 0, .int .u16 0, .int .u16 0, .int .u16 0, .int .u16 0, .int .u16 0, .int .u16 0, .int .u16 0, .int .u16 0, .int .u16 0] 64)) v3.heap.size 64 #[.int .u16 0, .int .u16 0, .int .u16 0, .int .u16 0, .int .u16 0, .int .u16 0, .int .u16 0, .int .u16 0, .int .u16 0, .int .u16 0, .int .u16 0, .int .u16 0, .int .u16 0, .int .u16 0, .int .u16 0, .int .u16 0] := Blk.new _ _ _
            have hN5_4 := hN5_3.alloc (.cells #[.int .u16 0, .int .u16 0, .int .u16 0, .int .u16 0, .int .u16 0, .int .u16 0, .int .u16 0, .int .u16 0, .int .u16 0, .int .u16 0, .int .u16 0, .int .u16 0, .int .u16 0, .int .u16 0, .int .u16 0, .int .u16 0] 64)
            have hne5_4 : g5 ≠ v3.heap.size := Nat.ne_of_lt hN5_3.lt
            have hg4_0 := hS3.1.lt
            have hg4_1 := hS3.2.1.lt
            have hg4_2 := hS3.2.2.size
            generalize v3.alloc (.cells #[.int .u16 0, .int .u16 0, .int .u16 0, .int .u16 0, .int .u16 0, .int .u16 0, .int .u16 0, .int .u16 0, .int .u16 0, .int .u16 0, .int .u16 0, .int .u16 0, .int .u16 0, .int .u16 0, .int .u16 0, .int .u16 0] 64) = v4 at *
            obtain ⟨g4, hg4⟩ : ∃ x, v3.heap.size = x := ⟨_, rfl⟩
            rw [hg4] at hN4_4 hg4_0 hg4_1 hg4_2 hne5_4 ⊢
            clear hg4
            simp only [List.getElem_toArray, List.getElem_cons_zero, List.getElem_cons_succ, Act.put, List.setIfInBounds_toArray, List.set_cons_zero, List.set_cons_succ]
            refine wpAnyH_ready (rs := [6]) (by kernel_rfl) (by simp) ?_
            refine AllReadyH.cons rfl (fun K hK => ?_) ?_
            · -- store 6
              rw [if_pos (show Region.wanted _ _ = true from by rfl)]
              refine wp_store_row 64 _ _ rfl g4 (vaA A) rfl rfl 64 _ hN4_4 (by kernel_rfl) rfl (by kernel_rfl) ?_
              refine hK.out _ _ ⟨hS4.1.setRow_far (by omega) _, hS4.2.1.setRow_far (by omega) _, below_setRow hS4.2.2 (by omega) _⟩ (fun hS5 => ?_)
              clear hK K
              have hN4_5 := hN4_4.setRow (vaA A)
              have hN5_5 := hN5_4.setRow_far (g' := g4) (by first | exact hne5_4 | exact Ne.symm hne4_5) (vaA A)
              generalize v4.setRow g4 (vaA A) = v5 at *
              simp only [List.getElem_toArray, List.getElem_cons_zero, List.getElem_cons_succ, Act.put, List.setIfInBounds_toArray, List.set_cons_zero, List.set_cons_succ]
              refine wpAnyH_ready (rs := [7]) (by kernel_rfl) (by simp) ?_
              refine AllReadyH.cons rfl (fun K hK => ?_) ?_
              · -- store 7
                rw [if_pos (show Region.wanted _ _ = true from by rfl)]
                refine wp_store_row 64 _ _ rfl g5 (vaA B) rfl rfl 64 _ hN5_5 (by kernel_rfl) rfl (by kernel_rfl) ?_
                refine hK.out _ _ ⟨hS5.1.setRow_far (by omega) _, hS5.2.1.setRow_far (by omega) _, below_setRow hS5.2.2 (by omega) _⟩ (fun hS6 => ?_)
                clear hK K
                have hN5_6 := hN5_5.setRow (vaA B)
                have hN4_6 := hN4_5.setRow_far (g' := g5) (by first | exact hne4_5 | exact Ne.symm hne5_4) (vaA B)
                generalize v5.setRow g5 (vaA B) = v6 at *
                simp only [List.getElem_toArray, List.getElem_cons_zero, List.getElem_cons_succ, Act.put, List.setIfInBounds_toArray, List.set_cons_zero, List.set_cons_succ]
                refine wpAnyH_done (by kernel_rfl) ?_ _
                go_wp2_with fail
                go_meet
                exact ⟨g4, g5, rfl, rfl, hN4_6, hN5_6, hS6.2.2⟩
              exact AllReadyH.nil
            exact AllReadyH.nil
          exact AllReadyH.nil
        exact AllReadyH.nil
      refine AllReadyH.cons rfl (fun K hK => ?_) ?_
      · -- alloc 4
        go_simp
        refine hK.out _ _ ⟨hS1.1.alloc _, hS1.2.1.alloc _, Bl.alloc hS1.2.2 _⟩ (fun hS2 => ?_)
        clear hK K
        have hN4_2 : Blk (v1.alloc (.cells #[.int .u16 0, .int .u16 0, .int .u16 0, .int .u16 0, .int .u16 0, .int .u16 0, .int .u16 0, .int .u16 0, .int .u16 0, .int .u16 0, .int .u16 0, .int .u16 0, .int .u16 0, .int .u16 0, .int .u16 0, .int .u16 0] 64)) v1.heap.size 64 #[.int .u16 0, .int .u16 0, .int .u16 0, .int .u16 0, .int .u16 0, .int .u16 0, .int .u16 0, .int .u16 0, .int .u16 0, .int .u16 0, .int .u16 0, .int .u16 0, .int .u16 0, .int .u16 0, .int .u16 0, .int .u16 0] := Blk.new _ _ _
        have hg4_0 := hS1.1.lt
        have hg4_1 := hS1.2.1.lt
        have hg4_2 := hS1.2.2.size
        generalize v1.alloc (.cells #[.int .u16 0, .int .u16 0, .int .u16 0, .int .u16 0, .int .u16 0, .int .u16 0, .int .u16 0, .int .u16 0, .int .u16 0, .int .u16 0, .int .u16 0, .int .u16 0, .int .u16 0, .int .u16 0, .int .u16 0, .int .u16 0] 64) = v2 at *
        obtain ⟨g4, hg4⟩ : ∃ x, v1.heap.size = x := ⟨_, rfl⟩
        rw [hg4] at hN4_2 hg4_0 hg4_1 hg4_2  ⊢
        clear hg4
        simp only [List.getElem_toArray, List.getElem_cons_zero, List.getElem_cons_succ, Act.put, List.setIfInBounds_toArray, List.set_cons_zero, List.set_cons_succ]
        refine wpAnyH_ready (rs := [3, 5]) (by kernel_rfl) (by simp) ?_
        refine AllReadyH.cons rfl (fun K hK => ?_) ?_
        · -- call 3
          go_simp
          refine (stOf_calls B _ hB).mono ?_
          rintro e v3 ⟨rfl, hb3⟩
          (try go_simp)
          refine hK.out _ _ ⟨hS2.1.below hb3 hS2.1.lt, hS2.2.1.below hb3 hS2.2.1.lt, hS2.2.2.trans (hb3.mono hS2.2.2.size)⟩ (fun hS3 => ?_)
          clear hK K
          have hN4_3 := hN4_2.below hb3 hN4_2.lt
          clear hb3
          simp only [List.getElem_toArray, List.getElem_cons_zero, List.getElem_cons_succ, Act.put, List.setIfInBounds_toArray, List.set_cons_zero, List.set_cons_succ]
          refine wpAnyH_ready (rs := [5]) (by kernel_rfl) (by simp) ?_
          refine AllReadyH.cons rfl (fun K hK => ?_) ?_
          · -- alloc 5
            go_simp
            refine hK.out _ _ ⟨hS3.1.alloc _, hS3.2.1.alloc _, Bl.alloc hS3.2.2 _⟩ (fun hS4 => ?_)
            clear hK K
            have hN5_4 : Blk (v3.alloc (.cells #[.int .u16 0, .int .u16 0, .int .u16 0, .int .u16 0, .int .u16 0, .int .u16 0, .int .u16 0, .int .u16 0, .int .u16 0, .int .u16 0, .int .u16 0, .int .u16 0, .int .u16 0, .int .u16 0, .int .u16 0, .int .u16 0] 64)) v3.heap.size 64 #[.int .u16 0, .int .u16 0, .int .u16 0, .int .u16 0, .int .u16 0, .int .u16 0, .int .u16 0, .int .u16 0, .int .u16 0, .int .u16 0, .int .u16 0, .int .u16 0, .int .u16 0, .int .u16 0, .int .u16 0, .int .u16 0] := Blk.new _ _ _
            have hN4_4 := hN4_3.alloc (.cells #[.int .u16 0, .int .u16 0, .int .u16 0, .int .u16 0, .int .u16 0, .int .u16 0, .int .u16 0, .int .u16 0, .int .u16 0, .int .u16 0, .int .u16 0, .int .u16 0, .int .u16 0, .int .u16 0, .int .u16 0, .int .u16 0] 64)
            have hne4_5 : g4 ≠ v3.heap.size := Nat.ne_of_lt hN4_3.lt
            have hg5_0 := hS3.1.lt
            have hg5_1 := hS3.2.1.lt
            have hg5_2 := hS3.2.2.size
            generalize v3.alloc (.cells #[.int .u16 0, .int .u16 0, .int .u16 0, .int .u16 0, .int .u16 0, .int .u16 0, .int .u16 0, .int .u16 0, .int .u16 0, .int .u16 0, .int .u16 0, .int .u16 0, .int .u16 0, .int .u16 0, .int .u16 0, .int .u16 0] 64) = v4 at *
            obtain ⟨g5, hg5⟩ : ∃ x, v3.heap.size = x := ⟨_, rfl⟩
            rw [hg5] at hN5_4 hg5_0 hg5_1 hg5_2 hne4_5 ⊢
            clear hg5
            simp only [List.getElem_toArray, List.getElem_cons_zero, List.getElem_cons_succ, Act.put, List.setIfInBounds_toArray, List.set_cons_zero, List.set_cons_succ]
            refine wpAnyH_ready (rs := [6]) (by kernel_rfl) (by simp) ?_
            refine AllReadyH.cons rfl (fun K hK => ?_) ?_
            · -- store 6
              rw [if_pos (show Region.wanted _ _ = true from by rfl)]
              refine wp_store_row 64 _ _ rfl g4 (vaA A) rfl rfl 64 _ hN4_4 (by kernel_rfl) rfl (by kernel_rfl) ?_
              refine hK.out _ _ ⟨hS4.1.setRow_far (by omega) _, hS4.2.1.setRow_far (by omega) _, below_setRow hS4.2.2 (by omega) _⟩ (fun hS5 => ?_)
              clear hK K
              have hN4_5 := hN4_4.setRow (vaA A)
              have hN5_5 := hN5_4.setRow_far (g' := g4) (by first | exact hne5_4 | exact Ne.symm hne4_5) (vaA A)
              generalize v4.setRow g4 (vaA A) = v5 at *
              simp only [List.getElem_toArray, List.getElem_cons_zero, List.getElem_cons_succ, Act.put, List.setIfInBounds_toArray, List.set_cons_zero, List.set_cons_succ]
              refine wpAnyH_ready (rs := [7]) (by kernel_rfl) (by simp) ?_
              refine AllReadyH.cons rfl (fun K hK => ?_) ?_
              · -- store 7
                rw [if_pos (show Region.wanted _ _ = true from by rfl)]
                refine wp_store_row 64 _ _ rfl g5 (vaA B) rfl rfl 64 _ hN5_5 (by kernel_rfl) rfl (by kernel_rfl) ?_
                refine hK.out _ _ ⟨hS5.1.setRow_far (by omega) _, hS5.2.1.setRow_far (by omega) _, below_setRow hS5.2.2 (by omega) _⟩ (fun hS6 => ?_)
                clear hK K
                have hN5_6 := hN5_5.setRow (vaA B)
                have hN4_6 := hN4_5.setRow_far (g' := g5) (by first | exact hne4_5 | exact Ne.symm hne5_4) (vaA B)
                generalize v5.setRow g5 (vaA B) = v6 at *
                simp only [List.getElem_toArray, List.getElem_cons_zero, List.getElem_cons_succ, Act.put, List.setIfInBounds_toArray, List.set_cons_zero, List.set_cons_succ]
                refine wpAnyH_done (by kernel_rfl) ?_ _
                go_wp2_with fail
                go_meet
                exact ⟨g4, g5, rfl, rfl, hN4_6, hN5_6, hS6.2.2⟩
              exact AllReadyH.nil
            exact AllReadyH.nil
          exact AllReadyH.nil
        refine AllReadyH.cons rfl (fun K hK => ?_) ?_
        · -- alloc 5
          go_simp
          refine hK.out _ _ ⟨hS2.1.alloc _, hS2.2.1.alloc _, Bl.alloc hS2.2.2 _⟩ (fun hS3 => ?_)
          clear hK K
          have hN5_3 : Blk (v2.alloc (.cells #[.int .u16 0, .int .u16 0, .int .u16 0, .int .u16 0, .int .u16 0, .int .u16 0, .int .u16 0, .int .u16 0, .int .u16 0, .int .u16 0, .int .u16 0, .int .u16 0, .int .u16 0, .int .u16 0, .int .u16 0, .int .u16 0] 64)) v2.heap.size 64 #[.int .u16 0, .int .u16 0, .int .u16 0, .int .u16 0, .int .u16 0, .int .u16 0, .int .u16 0, .int .u16 0, .int .u16 0, .int .u16 0, .int .u16 0, .int .u16 0, .int .u16 0, .int .u16 0, .int .u16 0, .int .u16 0] := Blk.new _ _ _
          have hN4_3 := hN4_2.alloc (.cells #[.int .u16 0, .int .u16 0, .int .u16 0, .int .u16 0, .int .u16 0, .int .u16 0, .int .u16 0, .int .u16 0, .int .u16 0, .int .u16 0, .int .u16 0, .int .u16 0, .int .u16 0, .int .u16 0, .int .u16 0, .int .u16 0] 64)
          have hne4_5 : g4 ≠ v2.heap.size := Nat.ne_of_lt hN4_2.lt
          have hg5_0 := hS2.1.lt
          have hg5_1 := hS2.2.1.lt
          have hg5_2 := hS2.2.2.size
          generalize v2.alloc (.cells #[.int .u16 0, .int .u16 0, .int .u16 0, .int .u16 0, .int .u16 0, .int .u16 0, .int .u16 0, .int .u16 0, .int .u16 0, .int .u16 0, .int .u16 0, .int .u16 0, .int .u16 0, .int .u16 0, .int .u16 0, .int .u16 0] 64) = v3 at *
          obtain ⟨g5, hg5⟩ : ∃ x, v2.heap.size = x := ⟨_, rfl⟩
          rw [hg5] at hN5_3 hg5_0 hg5_1 hg5_2 hne4_5 ⊢
          clear hg5
          simp only [List.getElem_toArray, List.getElem_cons_zero, List.getElem_cons_succ, Act.put, List.setIfInBounds_toArray, List.set_cons_zero, List.set_cons_succ]
          refine wpAnyH_ready (rs := [3]) (by kernel_rfl) (by simp) ?_
          refine AllReadyH.cons rfl (fun K hK => ?_) ?_
          · -- call 3
            go_simp
            refine (stOf_calls B _ hB).mono ?_
            rintro e v4 ⟨rfl, hb4⟩
            (try go_simp)
            refine hK.out _ _ ⟨hS3.1.below hb4 hS3.1.lt, hS3.2.1.below hb4 hS3.2.1.lt, hS3.2.2.trans (hb4.mono hS3.2.2.size)⟩ (fun hS4 => ?_)
            clear hK K
            have hN4_4 := hN4_3.below hb4 hN4_3.lt
            have hN5_4 := hN5_3.below hb4 hN5_3.lt
            clear hb4
            simp only [List.getElem_toArray, List.getElem_cons_zero, List.getElem_cons_succ, Act.put, List.setIfInBounds_toArray, List.set_cons_zero, List.set_cons_succ]
            refine wpAnyH_ready (rs := [6]) (by kernel_rfl) (by simp) ?_
            refine AllReadyH.cons rfl (fun K hK => ?_) ?_
            · -- store 6
              rw [if_pos (show Region.wanted _ _ = true from by rfl)]
              refine wp_store_row 64 _ _ rfl g4 (vaA A) rfl rfl 64 _ hN4_4 (by kernel_rfl) rfl (by kernel_rfl) ?_
              refine hK.out _ _ ⟨hS4.1.setRow_far (by omega) _, hS4.2.1.setRow_far (by omega) _, below_setRow hS4.2.2 (by omega) _⟩ (fun hS5 => ?_)
              clear hK K
              have hN4_5 := hN4_4.setRow (vaA A)
              have hN5_5 := hN5_4.setRow_far (g' := g4) (by first | exact hne5_4 | exact Ne.symm hne4_5) (vaA A)
              generalize v4.setRow g4 (vaA A) = v5 at *
              simp only [List.getElem_toArray, List.getElem_cons_zero, List.getElem_cons_succ, Act.put, List.setIfInBounds_toArray, List.set_cons_zero, List.set_cons_succ]
              refine wpAnyH_ready (rs := [7]) (by kernel_rfl) (by simp) ?_
              refine AllReadyH.cons rfl (fun K hK => ?_) ?_
              · -- store 7
                rw [if_pos (show Region.wanted _ _ = true from by rfl)]
                refine wp_store_row 64 _ _ rfl g5 (vaA B) rfl rfl 64 _ hN5_5 (by kernel_rfl) rfl (by kernel_rfl) ?_
                refine hK.out _ _ ⟨hS5.1.setRow_far (by omega) _, hS5.2.1.setRow_far (by omega) _, below_setRow hS5.2.2 (by omega) _⟩ (fun hS6 => ?_)
                clear hK K
                have hN5_6 := hN5_5.setRow (vaA B)
                have hN4_6 := hN4_5.setRow_far (g' := g5) (by first | exact hne4_5 | exact Ne.symm hne5_4) (vaA B)
                generalize v5.setRow g5 (vaA B) = v6 at *
                simp only [List.getElem_toArray, List.getElem_cons_zero, List.getElem_cons_succ, Act.put, List.setIfInBounds_toArray, List.set_cons_zero, List.set_cons_succ]
                refine wpAnyH_done (by kernel_rfl) ?_ _
                go_wp2_with fail
                go_meet
                exact ⟨g4, g5, rfl, rfl, hN4_6, hN5_6, hS6.2.2⟩
              exact AllReadyH.nil
            exact AllReadyH.nil
          exact AllReadyH.nil
        exact AllReadyH.nil
      refine AllReadyH.cons rfl (fun K hK => ?_) ?_
      · -- alloc 5
        go_simp
        refine hK.out _ _ ⟨hS1.1.alloc _, hS1.2.1.alloc _, Bl.alloc hS1.2.2 _⟩ (fun hS2 => ?_)
        clear hK K
        have hN5_2 : Blk (v1.alloc (.cells #[.int .u16 0, .int .u16 0, .int .u16 0, .int .u16 0, .int .u16 0, .int .u16 0, .int .u16 0, .int .u16 0, .int .u16 0, .int .u16 0, .int .u16 0, .int .u16 0, .int .u16 0, .int .u16 0, .int .u16 0, .int .u16 0] 64)) v1.heap.size 64 #[.int .u16 0, .int .u16 0, .int .u16 0, .int .u16 0, .int .u16 0, .int .u16 0, .int .u16 0, .int .u16 0, .int .u16 0, .int .u16 0, .int .u16 0, .int .u16 0, .int .u16 0, .int .u16 0, .int .u16 0, .int .u16 0] := Blk.new _ _ _
        have hg5_0 := hS1.1.lt
        have hg5_1 := hS1.2.1.lt
        have hg5_2 := hS1.2.2.size
        generalize v1.alloc (.cells #[.int .u16 0, .int .u16 0, .int .u16 0, .int .u16 0, .int .u16 0, .int .u16 0, .int .u16 0, .int .u16 0, .int .u16 0, .int .u16 0, .int .u16 0, .int .u16 0, .int .u16 0, .int .u16 0, .int .u16 0, .int .u16 0] 64) = v2 at *
        obtain ⟨g5, hg5⟩ : ∃ x, v1.heap.size = x := ⟨_, rfl⟩
        rw [hg5] at hN5_2 hg5_0 hg5_1 hg5_2  ⊢
        clear hg5
        simp only [List.getElem_toArray, List.getElem_cons_zero, List.getElem_cons_succ, Act.put, List.setIfInBounds_toArray, List.set_cons_zero, List.set_cons_succ]
        refine wpAnyH_ready (rs := [3, 4]) (by kernel_rfl) (by simp) ?_
        refine AllReadyH.cons rfl (fun K hK => ?_) ?_
        · -- call 3
          go_simp
          refine (stOf_calls B _ hB).mono ?_
          rintro e v3 ⟨rfl, hb3⟩
          (try go_simp)
          refine hK.out _ _ ⟨hS2.1.below hb3 hS2.1.lt, hS2.2.1.below hb3 hS2.2.1.lt, hS2.2.2.trans (hb3.mono hS2.2.2.size)⟩ (fun hS3 => ?_)
          clear hK K
          have hN5_3 := hN5_2.below hb3 hN5_2.lt
          clear hb3
          simp only [List.getElem_toArray, List.getElem_cons_zero, List.getElem_cons_succ, Act.put, List.setIfInBounds_toArray, List.set_cons_zero, List.set_cons_succ]
          refine wpAnyH_ready (rs := [4]) (by kernel_rfl) (by simp) ?_
          refine AllReadyH.cons rfl (fun K hK => ?_) ?_
          · -- alloc 4
            go_simp
            refine hK.out _ _ ⟨hS3.1.alloc _, hS3.2.1.alloc _, Bl.alloc hS3.2.2 _⟩ (fun hS4 => ?_)
            clear hK K
            have hN4_4 : Blk (v3.alloc (.cells #[.int .u16 0, .int .u16 0, .int .u16 0, .int .u16 0, .int .u16 0, .int .u16 0, .int .u16 0, .int .u16 0, .int .u16 0, .int .u16 0, .int .u16 0, .int .u16 0, .int .u16 0, .int .u16 0, .int .u16 0, .int .u16 0] 64)) v3.heap.size 64 #[.int .u16 0, .int .u16 0, .int .u16 0, .int .u16 0, .int .u16 0, .int .u16 0, .int .u16 0, .int .u16 0, .int .u16 0, .int .u16 0, .int .u16 0, .int .u16 0, .int .u16 0, .int .u16 0, .int .u16 0, .int .u16 0] := Blk.new _ _ _
            have hN5_4 := hN5_3.alloc (.cells #[.int .u16 0, .int .u16 0, .int .u16 0, .int .u16 0, .int .u16 0, .int .u16 0, .int .u16 0, .int .u16 0, .int .u16 0, .int .u16 0, .int .u16 0, .int .u16 0, .int .u16 0, .int .u16 0, .int .u16 0, .int .u16 0] 64)
            have hne5_4 : g5 ≠ v3.heap.size := Nat.ne_of_lt hN5_3.lt
            have hg4_0 := hS3.1.lt
            have hg4_1 := hS3.2.1.lt
            have hg4_2 := hS3.2.2.size
            generalize v3.alloc (.cells #[.int .u16 0, .int .u16 0, .int .u16 0, .int .u16 0, .int .u16 0, .int .u16 0, .int .u16 0, .int .u16 0, .int .u16 0, .int .u16 0, .int .u16 0, .int .u16 0, .int .u16 0, .int .u16 0, .int .u16 0, .int .u16 0] 64) = v4 at *
            obtain ⟨g4, hg4⟩ : ∃ x, v3.heap.size = x := ⟨_, rfl⟩
            rw [hg4] at hN4_4 hg4_0 hg4_1 hg4_2 hne5_4 ⊢
            clear hg4
            simp only [List.getElem_toArray, List.getElem_cons_zero, List.getElem_cons_succ, Act.put, List.setIfInBounds_toArray, List.set_cons_zero, List.set_cons_succ]
            refine wpAnyH_ready (rs := [6]) (by kernel_rfl) (by simp) ?_
            refine AllReadyH.cons rfl (fun K hK => ?_) ?_
            · -- store 6
              rw [if_pos (show Region.wanted _ _ = true from by rfl)]
              refine wp_store_row 64 _ _ rfl g4 (vaA A) rfl rfl 64 _ hN4_4 (by kernel_rfl) rfl (by kernel_rfl) ?_
              refine hK.out _ _ ⟨hS4.1.setRow_far (by omega) _, hS4.2.1.setRow_far (by omega) _, below_setRow hS4.2.2 (by omega) _⟩ (fun hS5 => ?_)
              clear hK K
              have hN4_5 := hN4_4.setRow (vaA A)
              have hN5_5 := hN5_4.setRow_far (g' := g4) (by first | exact hne5_4 | exact Ne.symm hne4_5) (vaA A)
              generalize v4.setRow g4 (vaA A) = v5 at *
              simp only [List.getElem_toArray, List.getElem_cons_zero, List.getElem_cons_succ, Act.put, List.setIfInBounds_toArray, List.set_cons_zero, List.set_cons_succ]
              refine wpAnyH_ready (rs := [7]) (by kernel_rfl) (by simp) ?_
              refine AllReadyH.cons rfl (fun K hK => ?_) ?_
              · -- store 7
                rw [if_pos (show Region.wanted _ _ = true from by rfl)]
                refine wp_store_row 64 _ _ rfl g5 (vaA B) rfl rfl 64 _ hN5_5 (by kernel_rfl) rfl (by kernel_rfl) ?_
                refine hK.out _ _ ⟨hS5.1.setRow_far (by omega) _, hS5.2.1.setRow_far (by omega) _, below_setRow hS5.2.2 (by omega) _⟩ (fun hS6 => ?_)
                clear hK K
                have hN5_6 := hN5_5.setRow (vaA B)
                have hN4_6 := hN4_5.setRow_far (g' := g5) (by first | exact hne4_5 | exact Ne.symm hne5_4) (vaA B)
                generalize v5.setRow g5 (vaA B) = v6 at *
                simp only [List.getElem_toArray, List.getElem_cons_zero, List.getElem_cons_succ, Act.put, List.setIfInBounds_toArray, List.set_cons_zero, List.set_cons_succ]
                refine wpAnyH_done (by kernel_rfl) ?_ _
                go_wp2_with fail
                go_meet
                exact ⟨g4, g5, rfl, rfl, hN4_6, hN5_6, hS6.2.2⟩
              exact AllReadyH.nil
            exact AllReadyH.nil
          exact AllReadyH.nil
        refine AllReadyH.cons rfl (fun K hK => ?_) ?_
        · -- alloc 4
          go_simp
          refine hK.out _ _ ⟨hS2.1.alloc _, hS2.2.1.alloc _, Bl.alloc hS2.2.2 _⟩ (fun hS3 => ?_)
          clear hK K
          have hN4_3 : Blk (v2.alloc (.cells #[.int .u16 0, .int .u16 0, .int .u16 0, .int .u16 0, .int .u16 0, .int .u16 0, .int .u16 0, .int .u16 0, .int .u16 0, .int .u16 0, .int .u16 0, .int .u16 0, .int .u16 0, .int .u16 0, .int .u16 0, .int .u16 0] 64)) v2.heap.size 64 #[.int .u16 0, .int .u16 0, .int .u16 0, .int .u16 0, .int .u16 0, .int .u16 0, .int .u16 0, .int .u16 0, .int .u16 0, .int .u16 0, .int .u16 0, .int .u16 0, .int .u16 0, .int .u16 0, .int .u16 0, .int .u16 0] := Blk.new _ _ _
          have hN5_3 := hN5_2.alloc (.cells #[.int .u16 0, .int .u16 0, .int .u16 0, .int .u16 0, .int .u16 0, .int .u16 0, .int .u16 0, .int .u16 0, .int .u16 0, .int .u16 0, .int .u16 0, .int .u16 0, .int .u16 0, .int .u16 0, .int .u16 0, .int .u16 0] 64)
          have hne5_4 : g5 ≠ v2.heap.size := Nat.ne_of_lt hN5_2.lt
          have hg4_0 := hS2.1.lt
          have hg4_1 := hS2.2.1.lt
          have hg4_2 := hS2.2.2.size
          generalize v2.alloc (.cells #[.int .u16 0, .int .u16 0, .int .u16 0, .int .u16 0, .int .u16 0, .int .u16 0, .int .u16 0, .int .u16 0, .int .u16 0, .int .u16 0, .int .u16 0, .int .u16 0, .int .u16 0, .int .u16 0, .int .u16 0, .int .u16 0] 64) = v3 at *
          obtain ⟨g4, hg4⟩ : ∃ x, v2.heap.size = x := ⟨_, rfl⟩
          rw [hg4] at hN4_3 hg4_0 hg4_1 hg4_2 hne5_4 ⊢
          clear hg4
          simp only [List.getElem_toArray, List.getElem_cons_zero, List.getElem_cons_succ, Act.put, List.setIfInBounds_toArray, List.set_cons_zero, List.set_cons_succ]
          refine wpAnyH_ready (rs := [3]) (by kernel_rfl) (by simp) ?_
          refine AllReadyH.cons rfl (fun K hK => ?_) ?_
          · -- call 3
            go_simp
            refine (stOf_calls B _ hB).mono ?_
            rintro e v4 ⟨rfl, hb4⟩
            (try go_simp)
            refine hK.out _ _ ⟨hS3.1.below hb4 hS3.1.lt, hS3.2.1.below hb4 hS3.2.1.lt, hS3.2.2.trans (hb4.mono hS3.2.2.size)⟩ (fun hS4 => ?_)
            clear hK K
            have hN5_4 := hN5_3.below hb4 hN5_3.lt
            have hN4_4 := hN4_3.below hb4 hN4_3.lt
            clear hb4
            simp only [List.getElem_toArray, List.getElem_cons_zero, List.getElem_cons_succ, Act.put, List.setIfInBounds_toArray, List.set_cons_zero, List.set_cons_succ]
            refine wpAnyH_ready (rs := [6]) (by kernel_rfl) (by simp) ?_
            refine AllReadyH.cons rfl (fun K hK => ?_) ?_
            · -- store 6
              rw [if_pos (show Region.wanted _ _ = true from by rfl)]
              refine wp_store_row 64 _ _ rfl g4 (vaA A) rfl rfl 64 _ hN4_4 (by kernel_rfl) rfl (by kernel_rfl) ?_
              refine hK.out _ _ ⟨hS4.1.setRow_far (by omega) _, hS4.2.1.setRow_far (by omega) _, below_setRow hS4.2.2 (by omega) _⟩ (fun hS5 => ?_)
              clear hK K
              have hN4_5 := hN4_4.setRow (vaA A)
              have hN5_5 := hN5_4.setRow_far (g' := g4) (by first | exact hne5_4 | exact Ne.symm hne4_5) (vaA A)
              generalize v4.setRow g4 (vaA A) = v5 at *
              simp only [List.getElem_toArray, List.getElem_cons_zero, List.getElem_cons_succ, Act.put, List.setIfInBounds_toArray, List.set_cons_zero, List.set_cons_succ]
              refine wpAnyH_ready (rs := [7]) (by kernel_rfl) (by simp) ?_
              refine AllReadyH.cons rfl (fun K hK => ?_) ?_
              · -- store 7
                rw [if_pos (show Region.wanted _ _ = true from by rfl)]
                refine wp_store_row 64 _ _ rfl g5 (vaA B) rfl rfl 64 _ hN5_5 (by kernel_rfl) rfl (by kernel_rfl) ?_
                refine hK.out _ _ ⟨hS5.1.setRow_far (by omega) _, hS5.2.1.setRow_far (by omega) _, below_setRow hS5.2.2 (by omega) _⟩ (fun hS6 => ?_)
                clear hK K
                have hN5_6 := hN5_5.setRow (vaA B)
                have hN4_6 := hN4_5.setRow_far (g' := g5) (by first | exact hne4_5 | exact Ne.symm hne5_4) (vaA B)
                generalize v5.setRow g5 (vaA B) = v6 at *
                simp only [List.getElem_toArray, List.getElem_cons_zero, List.getElem_cons_succ, Act.put, List.setIfInBounds_toArray, List.set_cons_zero, List.set_cons_succ]
                refine wpAnyH_done (by kernel_rfl) ?_ _
                go_wp2_with fail
                go_meet
                exact ⟨g4, g5, rfl, rfl, hN4_6, hN5_6, hS6.2.2⟩
              exact AllReadyH.nil
            exact AllReadyH.nil
          exact AllReadyH.nil
        exact AllReadyH.nil
      exact AllReadyH.nil
    refine AllReadyH.cons rfl (fun K hK => ?_) ?_
    · -- alloc 4
      go_simp
      refine hK.out _ _ ⟨hS0.1.alloc _, hS0.2.1.alloc _, Bl.alloc hS0.2.2 _⟩ (fun hS1 => ?_)
      clear hK K
      have hN4_1 : Blk (v0.alloc (.cells #[.int .u16 0, .int .u16 0, .int .u16 0, .int .u16 0, .int .u16 0, .int .u16 0, .int .u16 0, .int .u16 0, .int .u16 0, .int .u16 0, .int .u16 0, .int .u16 0, .int .u16 0, .int .u16 0, .int .u16 0, .int .u16 0] 64)) v0.heap.size 64 #[.int .u16 0, .int .u16 0, .int .u16 0, .int .u16 0, .int .u16 0, .int .u16 0, .int .u16 0, .int .u16 0, .int .u16 0, .int .u16 0, .int .u16 0, .int .u16 0, .int .u16 0, .int .u16 0, .int .u16 0, .int .u16 0] := Blk.new _ _ _
      have hg4_0 := hS0.1.lt
      have hg4_1 := hS0.2.1.lt
      have hg4_2 := hS0.2.2.size
      generalize v0.alloc (.cells #[.int .u16 0, .int .u16 0, .int .u16 0, .int .u16 0, .int .u16 0, .int .u16 0, .int .u16 0, .int .u16 0, .int .u16 0, .int .u16 0, .int .u16 0, .int .u16 0, .int .u16 0, .int .u16 0, .int .u16 0, .int .u16 0] 64) = v1 at *
      obtain ⟨g4, hg4⟩ : ∃ x, v0.heap.size = x := ⟨_, rfl⟩
      rw [hg4] at hN4_1 hg4_0 hg4_1 hg4_2  ⊢
      clear hg4
      simp only [List.getElem_toArray, List.getElem_cons_zero, List.getElem_cons_succ, Act.put, List.setIfInBounds_toArray, List.set_cons_zero, List.set_cons_succ]
      refine wpAnyH_ready (rs := [1, 5]) (by kernel_rfl) (by simp) ?_
      refine AllReadyH.cons rfl (fun K hK => ?_) ?_
      · -- call 1
        go_simp
        refine (stOf_calls A _ hA).mono ?_
        rintro e v2 ⟨rfl, hb2⟩
        (try go_simp)
        refine hK.out _ _ ⟨hS1.1.below hb2 hS1.1.lt, hS1.2.1.below hb2 hS1.2.1.lt, hS1.2.2.trans (hb2.mono hS1.2.2.size)⟩ (fun hS2 => ?_)
        clear hK K
        have hN4_2 := hN4_1.below hb2 hN4_1.lt
        clear hb2
        simp only [List.getElem_toArray, List.getElem_cons_zero, List.getElem_cons_succ, Act.put, List.setIfInBounds_toArray, List.set_cons_zero, List.set_cons_succ]
        refine wpAnyH_ready (rs := [3, 5]) (by kernel_rfl) (by simp) ?_
        refine AllReadyH.cons rfl (fun K hK => ?_) ?_
        · -- call 3
          go_simp
          refine (stOf_calls B _ hB).mono ?_
          rintro e v3 ⟨rfl, hb3⟩
          (try go_simp)
          refine hK.out _ _ ⟨hS2.1.below hb3 hS2.1.lt, hS2.2.1.below hb3 hS2.2.1.lt, hS2.2.2.trans (hb3.mono hS2.2.2.size)⟩ (fun hS3 => ?_)
          clear hK K
          have hN4_3 := hN4_2.below hb3 hN4_2.lt
          clear hb3
          simp only [List.getElem_toArray, List.getElem_cons_zero, List.getElem_cons_succ, Act.put, List.setIfInBounds_toArray, List.set_cons_zero, List.set_cons_succ]
          refine wpAnyH_ready (rs := [5]) (by kernel_rfl) (by simp) ?_
          refine AllReadyH.cons rfl (fun K hK => ?_) ?_
          · -- alloc 5
            go_simp
            refine hK.out _ _ ⟨hS3.1.alloc _, hS3.2.1.alloc _, Bl.alloc hS3.2.2 _⟩ (fun hS4 => ?_)
            clear hK K
            have hN5_4 : Blk (v3.alloc (.cells #[.int .u16 0, .int .u16 0, .int .u16 0, .int .u16 0, .int .u16 0, .int .u16 0, .int .u16 0, .int .u16 0, .int .u16 0, .int .u16 0, .int .u16 0, .int .u16 0, .int .u16 0, .int .u16 0, .int .u16 0, .int .u16 0] 64)) v3.heap.size 64 #[.int .u16 0, .int .u16 0, .int .u16 0, .int .u16 0, .int .u16 0, .int .u16 0, .int .u16 0, .int .u16 0, .int .u16 0, .int .u16 0, .int .u16 0, .int .u16 0, .int .u16 0, .int .u16 0, .int .u16 0, .int .u16 0] := Blk.new _ _ _
            have hN4_4 := hN4_3.alloc (.cells #[.int .u16 0, .int .u16 0, .int .u16 0, .int .u16 0, .int .u16 0, .int .u16 0, .int .u16 0, .int .u16 0, .int .u16 0, .int .u16 0, .int .u16 0, .int .u16 0, .int .u16 0, .int .u16 0, .int .u16 0, .int .u16 0] 64)
            have hne4_5 : g4 ≠ v3.heap.size := Nat.ne_of_lt hN4_3.lt
            have hg5_0 := hS3.1.lt
            have hg5_1 := hS3.2.1.lt
            have hg5_2 := hS3.2.2.size
            generalize v3.alloc (.cells #[.int .u16 0, .int .u16 0, .int .u16 0, .int .u16 0, .int .u16 0, .int .u16 0, .int .u16 0, .int .u16 0, .int .u16 0, .int .u16 0, .int .u16 0, .int .u16 0, .int .u16 0, .int .u16 0, .int .u16 0, .int .u16 0] 64) = v4 at *
            obtain ⟨g5, hg5⟩ : ∃ x, v3.heap.size = x := ⟨_, rfl⟩
            rw [hg5] at hN5_4 hg5_0 hg5_1 hg5_2 hne4_5 ⊢
            clear hg5
            simp only [List.getElem_toArray, List.getElem_cons_zero, List.getElem_cons_succ, Act.put, List.setIfInBounds_toArray, List.set_cons_zero, List.set_cons_succ]
            refine wpAnyH_ready (rs := [6]) (by kernel_rfl) (by simp) ?_
            refine AllReadyH.cons rfl (fun K hK => ?_) ?_
            · -- store 6
              rw [if_pos (show Region.wanted _ _ = true from by rfl)]
              refine wp_store_row 64 _ _ rfl g4 (vaA A) rfl rfl 64 _ hN4_4 (by kernel_rfl) rfl (by kernel_rfl) ?_
              refine hK.out _ _ ⟨hS4.1.setRow_far (by omega) _, hS4.2.1.setRow_far (by omega) _, below_setRow hS4.2.2 (by omega) _⟩ (fun hS5 => ?_)
              clear hK K
              have hN4_5 := hN4_4.setRow (vaA A)
              have hN5_5 := hN5_4.setRow_far (g' := g4) (by first | exact hne5_4 | exact Ne.symm hne4_5) (vaA A)
              generalize v4.setRow g4 (vaA A) = v5 at *
              simp only [List.getElem_toArray, List.getElem_cons_zero, List.getElem_cons_succ, Act.put, List.setIfInBounds_toArray, List.set_cons_zero, List.set_cons_succ]
              refine wpAnyH_ready (rs := [7]) (by kernel_rfl) (by simp) ?_
              refine AllReadyH.cons rfl (fun K hK => ?_) ?_
              · -- store 7
                rw [if_pos (show Region.wanted _ _ = true from by rfl)]
                refine wp_store_row 64 _ _ rfl g5 (vaA B) rfl rfl 64 _ hN5_5 (by kernel_rfl) rfl (by kernel_rfl) ?_
                refine hK.out _ _ ⟨hS5.1.setRow_far (by omega) _, hS5.2.1.setRow_far (by omega) _, below_setRow hS5.2.2 (by omega) _⟩ (fun hS6 => ?_)
                clear hK K
                have hN5_6 := hN5_5.setRow (vaA B)
                have hN4_6 := hN4_5.setRow_far (g' := g5) (by first | exact hne4_5 | exact Ne.symm hne5_4) (vaA B)
                generalize v5.setRow g5 (vaA B) = v6 at *
                simp only [List.getElem_toArray, List.getElem_cons_zero, List.getElem_cons_succ, Act.put, List.setIfInBounds_toArray, List.set_cons_zero, List.set_cons_succ]
                refine wpAnyH_done (by kernel_rfl) ?_ _
                go_wp2_with fail
                go_meet
                exact ⟨g4, g5, rfl, rfl, hN4_6, hN5_6, hS6.2.2⟩
              exact AllReadyH.nil
            exact AllReadyH.nil
          exact AllReadyH.nil
        refine AllReadyH.cons rfl (fun K hK => ?_) ?_
        · -- alloc 5
          go_simp
          refine hK.out _ _ ⟨hS2.1.alloc _, hS2.2.1.alloc _, Bl.alloc hS2.2.2 _⟩ (fun hS3 => ?_)
          clear hK K
          have hN5_3 : Blk (v2.alloc (.cells #[.int .u16 0, .int .u16 0, .int .u16 0, .int .u16 0, .int .u16 0, .int .u16 0, .int .u16 0, .int .u16 0, .int .u16 0, .int .u16 0, .int .u16 0, .int .u16 0, .int .u16 0, .int .u16 0, .int .u16 0, .int .u16 0] 64)) v2.heap.size 64 #[.int .u16 0, .int .u16 0, .int .u16 0, .int .u16 0, .int .u16 0, .int .u16 0, .int .u16 0, .int .u16 0, .int .u16 0, .int .u16 0, .int .u16 0, .int .u16 0, .int .u16 0, .int .u16 0, .int .u16 0, .int .u16 0] := Blk.new _ _ _
          have hN4_3 := hN4_2.alloc (.cells #[.int .u16 0, .int .u16 0, .int .u16 0, .int .u16 0, .int .u16 0, .int .u16 0, .int .u16 0, .int .u16 0, .int .u16 0, .int .u16 0, .int .u16 0, .int .u16 0, .int .u16 0, .int .u16 0, .int .u16 0, .int .u16 0] 64)
          have hne4_5 : g4 ≠ v2.heap.size := Nat.ne_of_lt hN4_2.lt
          have hg5_0 := hS2.1.lt
          have hg5_1 := hS2.2.1.lt
          have hg5_2 := hS2.2.2.size
          generalize v2.alloc (.cells #[.int .u16 0, .int .u16 0, .int .u16 0, .int .u16 0, .int .u16 0, .int .u16 0, .int .u16 0, .int .u16 0, .int .u16 0, .int .u16 0, .int .u16 0, .int .u16 0, .int .u16 0, .int .u16 0, .int .u16 0, .int .u16 0] 64) = v3 at *
          obtain ⟨g5, hg5⟩ : ∃ x, v2.heap.size = x := ⟨_, rfl⟩
          rw [hg5] at hN5_3 hg5_0 hg5_1 hg5_2 hne4_5 ⊢
          clear hg5
          simp only [List.getElem_toArray, List.getElem_cons_zero, List.getElem_cons_succ, Act.put, List.setIfInBounds_toArray, List.set_cons_zero, List.set_cons_succ]
          refine wpAnyH_ready (rs := [3]) (by kernel_rfl) (by simp) ?_
          refine AllReadyH.cons rfl (fun K hK => ?_) ?_
          · -- call 3
            go_simp
            refine (stOf_calls B _ hB).mono ?_
            rintro e v4 ⟨rfl, hb4⟩
            (try go_simp)
            refine hK.out _ _ ⟨hS3.1.below hb4 hS3.1.lt, hS3.2.1.below hb4 hS3.2.1.lt, hS3.2.2.trans (hb4.mono hS3.2.2.size)⟩ (fun hS4 => ?_)
            clear hK K
            have hN4_4 := hN4_3.below hb4 hN4_3.lt
            have hN5_4 := hN5_3.below hb4 hN5_3.lt
            clear hb4
            simp only [List.getElem_toArray, List.getElem_cons_zero, List.getElem_cons_succ, Act.put, List.setIfInBounds_toArray, List.set_cons_zero, List.set_cons_succ]
            refine wpAnyH_ready (rs := [6]) (by kernel_rfl) (by simp) ?_
            refine AllReadyH.cons rfl (fun K hK => ?_) ?_
            · -- store 6
              rw [if_pos (show Region.wanted _ _ = true from by rfl)]
              refine wp_store_row 64 _ _ rfl g4 (vaA A) rfl rfl 64 _ hN4_4 (by kernel_rfl) rfl (by kernel_rfl) ?_
              refine hK.out _ _ ⟨hS4.1.setRow_far (by omega) _, hS4.2.1.setRow_far (by omega) _, below_setRow hS4.2.2 (by omega) _⟩ (fun hS5 => ?_)
              clear hK K
              have hN4_5 := hN4_4.setRow (vaA A)
              have hN5_5 := hN5_4.setRow_far (g' := g4) (by first | exact hne5_4 | exact Ne.symm hne4_5) (vaA A)
              generalize v4.setRow g4 (vaA A) = v5 at *
              simp only [List.getElem_toArray, List.getElem_cons_zero, List.getElem_cons_succ, Act.put, List.setIfInBounds_toArray, List.set_cons_zero, List.set_cons_succ]
              refine wpAnyH_ready (rs := [7]) (by kernel_rfl) (by simp) ?_
              refine AllReadyH.cons rfl (fun K hK => ?_) ?_
              · -- store 7
                rw [if_pos (show Region.wanted _ _ = true from by rfl)]
                refine wp_store_row 64 _ _ rfl g5 (vaA B) rfl rfl 64 _ hN5_5 (by kernel_rfl) rfl (by kernel_rfl) ?_
                refine hK.out _ _ ⟨hS5.1.setRow_far (by omega) _, hS5.2.1.setRow_far (by omega) _, below_setRow hS5.2.2 (by omega) _⟩ (fun hS6 => ?_)
                clear hK K
                have hN5_6 := hN5_5.setRow (vaA B)
                have hN4_6 := hN4_5.setRow_far (g' := g5) (by first | exact hne4_5 | exact Ne.symm hne5_4) (vaA B)
                generalize v5.setRow g5 (vaA B) = v6 at *
                simp only [List.getElem_toArray, List.getElem_cons_zero, List.getElem_cons_succ, Act.put, List.setIfInBounds_toArray, List.set_cons_zero, List.set_cons_succ]
                refine wpAnyH_done (by kernel_rfl) ?_ _
                go_wp2_with fail
                go_meet
                exact ⟨g4, g5, rfl, rfl, hN4_6, hN5_6, hS6.2.2⟩
              exact AllReadyH.nil
            exact AllReadyH.nil
          exact AllReadyH.nil
        exact AllReadyH.nil
      refine AllReadyH.cons rfl (fun K hK => ?_) ?_
      · -- alloc 5
        go_simp
        refine hK.out _ _ ⟨hS1.1.alloc _, hS1.2.1.alloc _, Bl.alloc hS1.2.2 _⟩ (fun hS2 => ?_)
        clear hK K
        have hN5_2 : Blk (v1.alloc (.cells #[.int .u16 0, .int .u16 0, .int .u16 0, .int .u16 0, .int .u16 0, .int .u16 0, .int .u16 0, .int .u16 0, .int .u16 0, .int .u16 0, .int .u16 0, .int .u16 0, .int .u16 0, .int .u16 0, .int .u16 0, .int .u16 0] 64)) v1.heap.size 64 #[.int .u16 0, .int .u16 0, .int .u16 0, .int .u16 0, .int .u16 0, .int .u16 0, .int .u16 0, .int .u16 0, .int .u16 0, .int .u16 0, .int .u16 0, .int .u16 0, .int .u16 0, .int .u16 0, .int .u16 0, .int .u16 0] := Blk.new _ _ _
        have hN4_2 := hN4_1.alloc (.cells #[.int .u16 0, .int .u16 0, .int .u16 0, .int .u16 0, .int .u16 0, .int .u16 0, .int .u16 0, .int .u16 0, .int .u16 0, .int .u16 0, .int .u16 0, .int .u16 0, .int .u16 0, .int .u16 0, .int .u16 0, .int .u16 0] 64)
        have hne4_5 : g4 ≠ v1.heap.size := Nat.ne_of_lt hN4_1.lt
        have hg5_0 := hS1.1.lt
        have hg5_1 := hS1.2.1.lt
        have hg5_2 := hS1.2.2.size
        generalize v1.alloc (.cells #[.int .u16 0, .int .u16 0, .int .u16 0, .int .u16 0, .int .u16 0, .int .u16 0, .int .u16 0, .int .u16 0, .int .u16 0, .int .u16 0, .int .u16 0, .int .u16 0, .int .u16 0, .int .u16 0, .int .u16 0, .int .u16 0] 64) = v2 at *
        obtain ⟨g5, hg5⟩ : ∃ x, v1.heap.size = x := ⟨_, rfl⟩
        rw [hg5] at hN5_2 hg5_0 hg5_1 hg5_2 hne4_5 ⊢
        clear hg5
        simp only [List.getElem_toArray, List.getElem_cons_zero, List.getElem_cons_succ, Act.put, List.setIfInBounds_toArray, List.set_cons_zero, List.set_cons_succ]
        refine wpAnyH_ready (rs := [1]) (by kernel_rfl) (by simp) ?_
        refine AllReadyH.cons rfl (fun K hK => ?_) ?_
        · -- call 1
          go_simp
          refine (stOf_calls A _ hA).mono ?_
          rintro e v3 ⟨rfl, hb3⟩
          (try go_simp)
          refine hK.out _ _ ⟨hS2.1.below hb3 hS2.1.lt, hS2.2.1.below hb3 hS2.2.1.lt, hS2.2.2.trans (hb3.mono hS2.2.2.size)⟩ (fun hS3 => ?_)
          clear hK K
          have hN4_3 := hN4_2.below hb3 hN4_2.lt
          have hN5_3 := hN5_2.below hb3 hN5_2.lt
          clear hb3
          simp only [List.getElem_toArray, List.getElem_cons_zero, List.getElem_cons_succ, Act.put, List.setIfInBounds_toArray, List.set_cons_zero, List.set_cons_succ]
          refine wpAnyH_ready (rs := [3]) (by kernel_rfl) (by simp) ?_
          refine AllReadyH.cons rfl (fun K hK => ?_) ?_
          · -- call 3
            go_simp
            refine (stOf_calls B _ hB).mono ?_
            rintro e v4 ⟨rfl, hb4⟩
            (try go_simp)
            refine hK.out _ _ ⟨hS3.1.below hb4 hS3.1.lt, hS3.2.1.below hb4 hS3.2.1.lt, hS3.2.2.trans (hb4.mono hS3.2.2.size)⟩ (fun hS4 => ?_)
            clear hK K
            have hN4_4 := hN4_3.below hb4 hN4_3.lt
            have hN5_4 := hN5_3.below hb4 hN5_3.lt
            clear hb4
            simp only [List.getElem_toArray, List.getElem_cons_zero, List.getElem_cons_succ, Act.put, List.setIfInBounds_toArray, List.set_cons_zero, List.set_cons_succ]
            refine wpAnyH_ready (rs := [6]) (by kernel_rfl) (by simp) ?_
            refine AllReadyH.cons rfl (fun K hK => ?_) ?_
            · -- store 6
              rw [if_pos (show Region.wanted _ _ = true from by rfl)]
              refine wp_store_row 64 _ _ rfl g4 (vaA A) rfl rfl 64 _ hN4_4 (by kernel_rfl) rfl (by kernel_rfl) ?_
              refine hK.out _ _ ⟨hS4.1.setRow_far (by omega) _, hS4.2.1.setRow_far (by omega) _, below_setRow hS4.2.2 (by omega) _⟩ (fun hS5 => ?_)
              clear hK K
              have hN4_5 := hN4_4.setRow (vaA A)
              have hN5_5 := hN5_4.setRow_far (g' := g4) (by first | exact hne5_4 | exact Ne.symm hne4_5) (vaA A)
              generalize v4.setRow g4 (vaA A) = v5 at *
              simp only [List.getElem_toArray, List.getElem_cons_zero, List.getElem_cons_succ, Act.put, List.setIfInBounds_toArray, List.set_cons_zero, List.set_cons_succ]
              refine wpAnyH_ready (rs := [7]) (by kernel_rfl) (by simp) ?_
              refine AllReadyH.cons rfl (fun K hK => ?_) ?_
              · -- store 7
                rw [if_pos (show Region.wanted _ _ = true from by rfl)]
                refine wp_store_row 64 _ _ rfl g5 (vaA B) rfl rfl 64 _ hN5_5 (by kernel_rfl) rfl (by kernel_rfl) ?_
                refine hK.out _ _ ⟨hS5.1.setRow_far (by omega) _, hS5.2.1.setRow_far (by omega) _, below_setRow hS5.2.2 (by omega) _⟩ (fun hS6 => ?_)
                clear hK K
                have hN5_6 := hN5_5.setRow (vaA B)
                have hN4_6 := hN4_5.setRow_far (g' := g5) (by first | exact hne4_5 | exact Ne.symm hne5_4) (vaA B)
                generalize v5.setRow g5 (vaA B) = v6 at *
                simp only [List.getElem_toArray, List.getElem_cons_zero, List.getElem_cons_succ, Act.put, List.setIfInBounds_toArray, List.set_cons_zero, List.set_cons_succ]
                refine wpAnyH_done (by kernel_rfl) ?_ _
                go_wp2_with fail
                go_meet
                exact ⟨g4, g5, rfl, rfl, hN4_6, hN5_6, hS6.2.2⟩
              exact AllReadyH.nil
            exact AllReadyH.nil
          exact AllReadyH.nil
        exact AllReadyH.nil
      exact AllReadyH.nil
    refine AllReadyH.cons rfl (fun K hK => ?_) ?_
    · -- alloc 5
      go_simp
      refine hK.out _ _ ⟨hS0.1.alloc _, hS0.2.1.alloc _, Bl.alloc hS0.2.2 _⟩ (fun hS1 => ?_)
      clear hK K
      have hN5_1 : Blk (v0.alloc (.cells #[.int .u16 0, .int .u16 0, .int .u16 0, .int .u16 0, .int .u16 0, .int .u16 0, .int .u16 0, .int .u16 0, .int .u16 0, .int .u16 0, .int .u16 0, .int .u16 0, .int .u16 0, .int .u16 0, .int .u16 0, .int .u16 0] 64)) v0.heap.size 64 #[.int .u16 0, .int .u16 0, .int .u16 0, .int .u16 0, .int .u16 0, .int .u16 0, .int .u16 0, .int .u16 0, .int .u16 0, .int .u16 0, .int .u16 0, .int .u16 0, .int .u16 0, .int .u16 0, .int .u16 0, .int .u16 0] := Blk.new _ _ _
      have hg5_0 := hS0.1.lt
      have hg5_1 := hS0.2.1.lt
      have hg5_2 := hS0.2.2.size
      generalize v0.alloc (.cells #[.int .u16 0, .int .u16 0, .int .u16 0, .int .u16 0, .int .u16 0, .int .u16 0, .int .u16 0, .int .u16 0, .int .u16 0, .int .u16 0, .int .u16 0, .int .u16 0, .int .u16 0, .int .u16 0, .int .u16 0, .int .u16 0] 64) = v1 at *
      obtain ⟨g5, hg5⟩ : ∃ x, v0.heap.size = x := ⟨_, rfl⟩
      rw [hg5] at hN5_1 hg5_0 hg5_1 hg5_2  ⊢
      clear hg5
      simp only [List.getElem_toArray, List.getElem_cons_zero, List.getElem_cons_succ, Act.put, List.setIfInBounds_toArray, List.set_cons_zero, List.set_cons_succ]
      refine wpAnyH_ready (rs := [1, 4]) (by kernel_rfl) (by simp) ?_
      refine AllReadyH.cons rfl (fun K hK => ?_) ?_
      · -- call 1
        go_simp
        refine (stOf_calls A _ hA).mono ?_
        rintro e v2 ⟨rfl, hb2⟩
        (try go_simp)
        refine hK.out _ _ ⟨hS1.1.below hb2 hS1.1.lt, hS1.2.1.below hb2 hS1.2.1.lt, hS1.2.2.trans (hb2.mono hS1.2.2.size)⟩ (fun hS2 => ?_)
        clear hK K
        have hN5_2 := hN5_1.below hb2 hN5_1.lt
        clear hb2
        simp only [List.getElem_toArray, List.getElem_cons_zero, List.getElem_cons_succ, Act.put, List.setIfInBounds_toArray, List.set_cons_zero, List.set_cons_succ]
        refine wpAnyH_ready (rs := [3, 4]) (by kernel_rfl) (by simp) ?_
        refine AllReadyH.cons rfl (fun K hK => ?_) ?_
        · -- call 3
          go_simp
          refine (stOf_calls B _ hB).mono ?_
          rintro e v3 ⟨rfl, hb3⟩
          (try go_simp)
          refine hK.out _ _ ⟨hS2.1.below hb3 hS2.1.lt, hS2.2.1.below hb3 hS2.2.1.lt, hS2.2.2.trans (hb3.mono hS2.2.2.size)⟩ (fun hS3 => ?_)
          clear hK K
          have hN5_3 := hN5_2.below hb3 hN5_2.lt
          clear hb3
          simp only [List.getElem_toArray, List.getElem_cons_zero, List.getElem_cons_succ, Act.put, List.setIfInBounds_toArray, List.set_cons_zero, List.set_cons_succ]
          refine wpAnyH_ready (rs := [4]) (by kernel_rfl) (by simp) ?_
          refine AllReadyH.cons rfl (fun K hK => ?_) ?_
          · -- alloc 4
            go_simp
            refine hK.out _ _ ⟨hS3.1.alloc _, hS3.2.1.alloc _, Bl.alloc hS3.2.2 _⟩ (fun hS4 => ?_)
            clear hK K
            have hN4_4 : Blk (v3.alloc (.cells #[.int .u16 0, .int .u16 0, .int .u16 0, .int .u16 0, .int .u16 0, .int .u16 0, .int .u16 0, .int .u16 0, .int .u16 0, .int .u16 0, .int .u16 0, .int .u16 0, .int .u16 0, .int .u16 0, .int .u16 0, .int .u16 0] 64)) v3.heap.size 64 #[.int .u16 0, .int .u16 0, .int .u16 0, .int .u16 0, .int .u16 0, .int .u16 0, .int .u16 0, .int .u16 0, .int .u16 0, .int .u16 0, .int .u16 0, .int .u16 0, .int .u16 0, .int .u16 0, .int .u16 0, .int .u16 0] := Blk.new _ _ _
            have hN5_4 := hN5_3.alloc (.cells #[.int .u16 0, .int .u16 0, .int .u16 0, .int .u16 0, .int .u16 0, .int .u16 0, .int .u16 0, .int .u16 0, .int .u16 0, .int .u16 0, .int .u16 0, .int .u16 0, .int .u16 0, .int .u16 0, .int .u16 0, .int .u16 0] 64)
            have hne5_4 : g5 ≠ v3.heap.size := Nat.ne_of_lt hN5_3.lt
            have hg4_0 := hS3.1.lt
            have hg4_1 := hS3.2.1.lt
            have hg4_2 := hS3.2.2.size
            generalize v3.alloc (.cells #[.int .u16 0, .int .u16 0, .int .u16 0, .int .u16 0, .int .u16 0, .int .u16 0, .int .u16 0, .int .u16 0, .int .u16 0, .int .u16 0, .int .u16 0, .int .u16 0, .int .u16 0, .int .u16 0, .int .u16 0, .int .u16 0] 64) = v4 at *
            obtain ⟨g4, hg4⟩ : ∃ x, v3.heap.size = x := ⟨_, rfl⟩
            rw [hg4] at hN4_4 hg4_0 hg4_1 hg4_2 hne5_4 ⊢
            clear hg4
            simp only [List.getElem_toArray, List.getElem_cons_zero, List.getElem_cons_succ, Act.put, List.setIfInBounds_toArray, List.set_cons_zero, List.set_cons_succ]
            refine wpAnyH_ready (rs := [6]) (by kernel_rfl) (by simp) ?_
            refine AllReadyH.cons rfl (fun K hK => ?_) ?_
            · -- store 6
              rw [if_pos (show Region.wanted _ _ = true from by rfl)]
              refine wp_store_row 64 _ _ rfl g4 (vaA A) rfl rfl 64 _ hN4_4 (by kernel_rfl) rfl (by kernel_rfl) ?_
              refine hK.out _ _ ⟨hS4.1.setRow_far (by omega) _, hS4.2.1.setRow_far (by omega) _, below_setRow hS4.2.2 (by omega) _⟩ (fun hS5 => ?_)
              clear hK K
              have hN4_5 := hN4_4.setRow (vaA A)
              have hN5_5 := hN5_4.setRow_far (g' := g4) (by first | exact hne5_4 | exact Ne.symm hne4_5) (vaA A)
              generalize v4.setRow g4 (vaA A) = v5 at *
              simp only [List.getElem_toArray, List.getElem_cons_zero, List.getElem_cons_succ, Act.put, List.setIfInBounds_toArray, List.set_cons_zero, List.set_cons_succ]
              refine wpAnyH_ready (rs := [7]) (by kernel_rfl) (by simp) ?_
              refine AllReadyH.cons rfl (fun K hK => ?_) ?_
              · -- store 7
                rw [if_pos (show Region.wanted _ _ = true from by rfl)]
                refine wp_store_row 64 _ _ rfl g5 (vaA B) rfl rfl 64 _ hN5_5 (by kernel_rfl) rfl (by kernel_rfl) ?_
                refine hK.out _ _ ⟨hS5.1.setRow_far (by omega) _, hS5.2.1.setRow_far (by omega) _, below_setRow hS5.2.2 (by omega) _⟩ (fun hS6 => ?_)
                clear hK K
                have hN5_6 := hN5_5.setRow (vaA B)
                have hN4_6 := hN4_5.setRow_far (g' := g5) (by first | exact hne4_5 | exact Ne.symm hne5_4) (vaA B)
                generalize v5.setRow g5 (vaA B) = v6 at *
                simp only [List.getElem_toArray, List.getElem_cons_zero, List.getElem_cons_succ, Act.put, List.setIfInBounds_toArray, List.set_cons_zero, List.set_cons_succ]
                refine wpAnyH_done (by kernel_rfl) ?_ _
                go_wp2_with fail
                go_meet
                exact ⟨g4, g5, rfl, rfl, hN4_6, hN5_6, hS6.2.2⟩
              exact AllReadyH.nil
            exact AllReadyH.nil
          exact AllReadyH.nil
        refine AllReadyH.cons rfl (fun K hK => ?_) ?_
        · -- alloc 4
          go_simp
          refine hK.out _ _ ⟨hS2.1.alloc _, hS2.2.1.alloc _, Bl.alloc hS2.2.2 _⟩ (fun hS3 => ?_)
          clear hK K
          have hN4_3 : Blk (v2.alloc (.cells #[.int .u16 0, .int .u16 0, .int .u16 0, .int .u16 0, .int .u16 0, .int .u16 0, .int .u16 0, .int .u16 0, .int .u16 0, .int .u16 0, .int .u16 0, .int .u16 0, .int .u16 0, .int .u16 0, .int .u16 0, .int .u16 0] 64)) v2.heap.size 64 #[.int .u16 0, .int .u16 0, .int .u16 0, .int .u16 0, .int .u16 0, .int .u16 0, .int .u16 0, .int .u16 0, .int .u16 0, .int .u16 0, .int .u16 0, .int .u16 0, .int .u16 0, .int .u16 0, .int .u16 0, .int .u16 0] := Blk.new _ _ _
          have hN5_3 := hN5_2.alloc (.cells #[.int .u16 0, .int .u16 0, .int .u16 0, .int .u16 0, .int .u16 0, .int .u16 0, .int .u16 0, .int .u16 0, .int .u16 0, .int .u16 0, .int .u16 0, .int .u16 0, .int .u16 0, .int .u16 0, .int .u16 0, .int .u16 0] 64)
          have hne5_4 : g5 ≠ v2.heap.size := Nat.ne_of_lt hN5_2.lt
          have hg4_0 := hS2.1.lt
          have hg4_1 := hS2.2.1.lt
          have hg4_2 := hS2.2.2.size
          generalize v2.alloc (.cells #[.int .u16 0, .int .u16 0, .int .u16 0, .int .u16 0, .int .u16 0, .int .u16 0, .int .u16 0, .int .u16 0, .int .u16 0, .int .u16 0, .int .u16 0, .int .u16 0, .int .u16 0, .int .u16 0, .int .u16 0, .int .u16 0] 64) = v3 at *
          obtain ⟨g4, hg4⟩ : ∃ x, v2.heap.size = x := ⟨_, rfl⟩
          rw [hg4] at hN4_3 hg4_0 hg4_1 hg4_2 hne5_4 ⊢
          clear hg4
          simp only [List.getElem_toArray, List.getElem_cons_zero, List.getElem_cons_succ, Act.put, List.setIfInBounds_toArray, List.set_cons_zero, List.set_cons_succ]
          refine wpAnyH_ready (rs := [3]) (by kernel_rfl) (by simp) ?_
          refine AllReadyH.cons rfl (fun K hK => ?_) ?_
          · -- call 3
            go_simp
            refine (stOf_calls B _ hB).mono ?_
            rintro e v4 ⟨rfl, hb4⟩
            (try go_simp)
            refine hK.out _ _ ⟨hS3.1.below hb4 hS3.1.lt, hS3.2.1.below hb4 hS3.2.1.lt, hS3.2.2.trans (hb4.mono hS3.2.2.size)⟩ (fun hS4 => ?_)
            clear hK K
            have hN5_4 := hN5_3.below hb4 hN5_3.lt
            have hN4_4 := hN4_3.below hb4 hN4_3.lt
            clear hb4
            simp only [List.getElem_toArray, List.getElem_cons_zero, List.getElem_cons_succ, Act.put, List.setIfInBounds_toArray, List.set_cons_zero, List.set_cons_succ]
            refine wpAnyH_ready (rs := [6]) (by kernel_rfl) (by simp) ?_
            refine AllReadyH.cons rfl (fun K hK => ?_) ?_
            · -- store 6
              rw [if_pos (show Region.wanted _ _ = true from by rfl)]
              refine wp_store_row 64 _ _ rfl g4 (vaA A) rfl rfl 64 _ hN4_4 (by kernel_rfl) rfl (by kernel_rfl) ?_
              refine hK.out _ _ ⟨hS4.1.setRow_far (by omega) _, hS4.2.1.setRow_far (by omega) _, below_setRow hS4.2.2 (by omega) _⟩ (fun hS5 => ?_)
              clear hK K
              have hN4_5 := hN4_4.setRow (vaA A)
              have hN5_5 := hN5_4.setRow_far (g' := g4) (by first | exact hne5_4 | exact Ne.symm hne4_5) (vaA A)
              generalize v4.setRow g4 (vaA A) = v5 at *
              simp only [List.getElem_toArray, List.getElem_cons_zero, List.getElem_cons_succ, Act.put, List.setIfInBounds_toArray, List.set_cons_zero, List.set_cons_succ]
              refine wpAnyH_ready (rs := [7]) (by kernel_rfl) (by simp) ?_
              refine AllReadyH.cons rfl (fun K hK => ?_) ?_
              · -- store 7
                rw [if_pos (show Region.wanted _ _ = true from by rfl)]
                refine wp_store_row 64 _ _ rfl g5 (vaA B) rfl rfl 64 _ hN5_5 (by kernel_rfl) rfl (by kernel_rfl) ?_
                refine hK.out _ _ ⟨hS5.1.setRow_far (by omega) _, hS5.2.1.setRow_far (by omega) _, below_setRow hS5.2.2 (by omega) _⟩ (fun hS6 => ?_)
                clear hK K
                have hN5_6 := hN5_5.setRow (vaA B)
                have hN4_6 := hN4_5.setRow_far (g' := g5) (by first | exact hne4_5 | exact Ne.symm hne5_4) (vaA B)
                generalize v5.setRow g5 (vaA B) = v6 at *
                simp only [List.getElem_toArray, List.getElem_cons_zero, List.getElem_cons_succ, Act.put, List.setIfInBounds_toArray, List.set_cons_zero, List.set_cons_succ]
                refine wpAnyH_done (by kernel_rfl) ?_ _
                go_wp2_with fail
                go_meet
                exact ⟨g4, g5, rfl, rfl, hN4_6, hN5_6, hS6.2.2⟩
              exact AllReadyH.nil
            exact AllReadyH.nil
          exact AllReadyH.nil
        exact AllReadyH.nil
      refine AllReadyH.cons rfl (fun K hK => ?_) ?_
      · -- alloc 4
        go_simp
        refine hK.out _ _ ⟨hS1.1.alloc _, hS1.2.1.alloc _, Bl.alloc hS1.2.2 _⟩ (fun hS2 => ?_)
        clear hK K
        have hN4_2 : Blk (v1.alloc (.cells #[.int .u16 0, .int .u16 0, .int .u16 0, .int .u16 0, .int .u16 0, .int .u16 0, .int .u16 0, .int .u16 0, .int .u16 0, .int .u16 0, .int .u16 0, .int .u16 0, .int .u16 0, .int .u16 0, .int .u16 0, .int .u16 0] 64)) v1.heap.size 64 #[.int .u16 0, .int .u16 0, .int .u16 0, .int .u16 0, .int .u16 0, .int .u16 0, .int .u16 0, .int .u16 0, .int .u16 0, .int .u16 0, .int .u16 0, .int .u16 0, .int .u16 0, .int .u16 0, .int .u16 0, .int .u16 0] := Blk.new _ _ _
        have hN5_2 := hN5_1.alloc (.cells #[.int .u16 0, .int .u16 0, .int .u16 0, .int .u16 0, .int .u16 0, .int .u16 0, .int .u16 0, .int .u16 0, .int .u16 0, .int .u16 0, .int .u16 0, .int .u16 0, .int .u16 0, .int .u16 0, .int .u16 0, .int .u16 0] 64)
        have hne5_4 : g5 ≠ v1.heap.size := Nat.ne_of_lt hN5_1.lt
        have hg4_0 := hS1.1.lt
        have hg4_1 := hS1.2.1.lt
        have hg4_2 := hS1.2.2.size
        generalize v1.alloc (.cells #[.int .u16 0, .int .u16 0, .int .u16 0, .int .u16 0, .int .u16 0, .int .u16 0, .int .u16 0, .int .u16 0, .int .u16 0, .int .u16 0, .int .u16 0, .int .u16 0, .int .u16 0, .int .u16 0, .int .u16 0, .int .u16 0] 64) = v2 at *
        obtain ⟨g4, hg4⟩ : ∃ x, v1.heap.size = x := ⟨_, rfl⟩
        rw [hg4] at hN4_2 hg4_0 hg4_1 hg4_2 hne5_4 ⊢
        clear hg4
        simp only [List.getElem_toArray, List.getElem_cons_zero, List.getElem_cons_succ, Act.put, List.setIfInBounds_toArray, List.set_cons_zero, List.set_cons_succ]
        refine wpAnyH_ready (rs := [1]) (by kernel_rfl) (by simp) ?_
        refine AllReadyH.cons rfl (fun K hK => ?_) ?_
        · -- call 1
          go_simp
          refine (stOf_calls A _ hA).mono ?_
          rintro e v3 ⟨rfl, hb3⟩
          (try go_simp)
          refine hK.out _ _ ⟨hS2.1.below hb3 hS2.1.lt, hS2.2.1.below hb3 hS2.2.1.lt, hS2.2.2.trans (hb3.mono hS2.2.2.size)⟩ (fun hS3 => ?_)
          clear hK K
          have hN5_3 := hN5_2.below hb3 hN5_2.lt
          have hN4_3 := hN4_2.below hb3 hN4_2.lt
          clear hb3
          simp only [List.getElem_toArray, List.getElem_cons_zero, List.getElem_cons_succ, Act.put, List.setIfInBounds_toArray, List.set_cons_zero, List.set_cons_succ]
          refine wpAnyH_ready (rs := [3]) (by kernel_rfl) (by simp) ?_
          refine AllReadyH.cons rfl (fun K hK => ?_) ?_
          · -- call 3
            go_simp
            refine (stOf_calls B _ hB).mono ?_
            rintro e v4 ⟨rfl, hb4⟩
            (try go_simp)
            refine hK.out _ _ ⟨hS3.1.below hb4 hS3.1.lt, hS3.2.1.below hb4 hS3.2.1.lt, hS3.2.2.trans (hb4.mono hS3.2.2.size)⟩ (fun hS4 => ?_)
            clear hK K
            have hN5_4 := hN5_3.below hb4 hN5_3.lt
            have hN4_4 := hN4_3.below hb4 hN4_3.lt
            clear hb4
            simp only [List.getElem_toArray, List.getElem_cons_zero, List.getElem_cons_succ, Act.put, List.setIfInBounds_toArray, List.set_cons_zero, List.set_cons_succ]
            refine wpAnyH_ready (rs := [6]) (by kernel_rfl) (by simp) ?_
            refine AllReadyH.cons rfl (fun K hK => ?_) ?_
            · -- store 6
              rw [if_pos (show Region.wanted _ _ = true from by rfl)]
              refine wp_store_row 64 _ _ rfl g4 (vaA A) rfl rfl 64 _ hN4_4 (by kernel_rfl) rfl (by kernel_rfl) ?_
              refine hK.out _ _ ⟨hS4.1.setRow_far (by omega) _, hS4.2.1.setRow_far (by omega) _, below_setRow hS4.2.2 (by omega) _⟩ (fun hS5 => ?_)
              clear hK K
              have hN4_5 := hN4_4.setRow (vaA A)
              have hN5_5 := hN5_4.setRow_far (g' := g4) (by first | exact hne5_4 | exact Ne.symm hne4_5) (vaA A)
              generalize v4.setRow g4 (vaA A) = v5 at *
              simp only [List.getElem_toArray, List.getElem_cons_zero, List.getElem_cons_succ, Act.put, List.setIfInBounds_toArray, List.set_cons_zero, List.set_cons_succ]
              refine wpAnyH_ready (rs := [7]) (by kernel_rfl) (by simp) ?_
              refine AllReadyH.cons rfl (fun K hK => ?_) ?_
              · -- store 7
                rw [if_pos (show Region.wanted _ _ = true from by rfl)]
                refine wp_store_row 64 _ _ rfl g5 (vaA B) rfl rfl 64 _ hN5_5 (by kernel_rfl) rfl (by kernel_rfl) ?_
                refine hK.out _ _ ⟨hS5.1.setRow_far (by omega) _, hS5.2.1.setRow_far (by omega) _, below_setRow hS5.2.2 (by omega) _⟩ (fun hS6 => ?_)
                clear hK K
                have hN5_6 := hN5_5.setRow (vaA B)
                have hN4_6 := hN4_5.setRow_far (g' := g5) (by first | exact hne4_5 | exact Ne.symm hne5_4) (vaA B)
                generalize v5.setRow g5 (vaA B) = v6 at *
                simp only [List.getElem_toArray, List.getElem_cons_zero, List.getElem_cons_succ, Act.put, List.setIfInBounds_toArray, List.set_cons_zero, List.set_cons_succ]
                refine wpAnyH_done (by kernel_rfl) ?_ _
                go_wp2_with fail
                go_meet
                exact ⟨g4, g5, rfl, rfl, hN4_6, hN5_6, hS6.2.2⟩
              exact AllReadyH.nil
            exact AllReadyH.nil
          exact AllReadyH.nil
        exact AllReadyH.nil
      exact AllReadyH.nil
    exact AllReadyH.nil
  case rest =>
    obtain ⟨g4, g5, rfl, rfl, hV4, hV5, hbc⟩ := hcut
    clear hXA hXB hb0
    obtain ⟨i0, hi, hz0, hz1, hz2⟩ := info_parts infoStr
    have heq : ∀ W, (binOp .eql 64 (.agg (vaA A)) (.agg (vaA B))).run Tryd.prog W = .ok (.bool ((List.range 16).all fun i => (A i : Int) == (B i : Int))) W := fun W =>
      run_eql_ints 64 22 16 .u16 Tryd.underlying64 Tryd.underlying22 (fun _ => by kernel_rfl) (fun i => (A i : Int)) (fun i => (B i : Int)) W
    by_cases hall : ∀ i, i < 16 → A i = B i
    · have hq : ((List.range 16).all fun i => (A i : Int) == (B i : Int)) = true := by
        rw [List.all_eq_true]
        intro i hi
        rw [hall i (by simpa using hi)]
        exact beq_self_eq_true _
      obtain ⟨d1, d2⟩ := dfL_all A B 16 hall
      have D1 := hide d1
      have D2 := hide d2
      simp only [hq] at heq
      clear hall hq d1 d2 hi hz0 hz1 hz2
      go_wp2_with (first
        | (refine wpList_load_row rfl 64 (.tmp 5) rfl g4 rfl _ (vaA A) (0, 0) _ hV4 Tryd.underlying64 rfl (by kernel_rfl) ?_)
        | (refine wpList_load_row rfl 64 (.tmp 6) rfl g5 rfl _ (vaA B) (0, 0) _ hV5 Tryd.underlying64 rfl (by kernel_rfl) ?_))
      go_ret
      exact ⟨_, rfl, by rw [D1.out, D2.out]; exact World.ownsRow_nil _ _ _ _, hbc⟩
    · have hq : ((List.range 16).all fun i => (A i : Int) == (B i : Int)) = false := by
        rw [Bool.eq_false_iff]
        intro h
        rw [List.all_eq_true] at h
        apply hall
        intro i hi
        have := h i (by simpa using hi)
        have : (A i : Int) = (B i : Int) := by simpa using this
        omega
      simp only [hq] at heq
      clear hall hq
      go_wp2_with (first
        | (refine wpList_load_row rfl 64 (.tmp 5) rfl g4 rfl _ (vaA A) (0, 0) _ hV4 Tryd.underlying64 rfl (by kernel_rfl) ?_)
        | (refine wpList_load_row rfl 64 (.tmp 6) rfl g5 rfl _ (vaA B) (0, 0) _ hV5 Tryd.underlying64 rfl (by kernel_rfl) ?_))
      refine (stNames_calls _).mono ?_
      rintro e w1 ⟨rfl, hb1⟩
      have hV41 := hV4.below hb1 hV4.lt
      have hV51 := hV5.below hb1 hV5.lt
      have hb01 := hbc.trans (hb1.mono hbc.size)
      clear hV4 hV5 hb1 heq
      go_wp2_with fail
      go_loopw [7, 19] (fun v i wr => ∃ k : Nat, k ≤ 16 ∧ i = .int .i64 (k : Int) ∧ wr.ownsRow w.heap.size 9 1 v (dfN A B k) (dfL A B k) ∧ Blk wr g4 64 (vaA A) ∧ Blk wr g5 64 (vaA B) ∧ Below w.heap.size w wr) (fun _ i _ => 16 - (intOf i).toNat)
      case atStart => exact ⟨0, Nat.zero_le _, rfl, World.ownsRow_nil _ _ _ _, hV41, hV51, hb01⟩
      case round =>
        obtain ⟨k, hk, rfl, hown, h4, h5, hbr⟩ := hrel
        by_cases hlt : k < 16
        · have hix := nmA_ix k hlt
          have hlt' : (k : Int) < 16 := by omega
          have c4 : wr.cell? ⟨g4, k, none⟩ = some (.int .u16 (A k : Int)) := by
            rw [h4.cell]; exact arr_get 16 _ k hlt
          have c5 : wr.cell? ⟨g5, k, none⟩ = some (.int .u16 (B k : Int)) := by
            rw [h5.cell]; exact arr_get 16 _ k hlt
          have hnle := dfN_le A B k
          by_cases hq : A k = B k
          · have e1 : ((A k : Int) != (B k : Int)) = false := by rw [hq]; exact bne_self_eq_false _
            have hN : dfN A B (k + 1) = dfN A B k := if_pos hq
            have hL : dfL A B (k + 1) = dfL A B k := if_pos hq
            have HN := hide hN
            have HL := hide hL
            clear hq hN hL hV41 hV51 hb01
            go_wp2_with fail
            go_quiet (fail)
            have hbd : Below w.heap.size w (wr.drewN nq) := below_drewN hbr nq
            have hownd : (wr.drewN nq).ownsRow w.heap.size 9 1 u7 (dfN A B k) (dfL A B k) := hown
            have h4d : Blk (wr.drewN nq) g4 64 (vaA A) := h4
            have h5d : Blk (wr.drewN nq) g5 64 (vaA B) := h5
            have hbase : w.heap.size ≤ (wr.drewN nq).heap.size := hbd.size
            generalize wr.drewN nq = wd at *
            clear hown h4 h5 hbr c4 c5
            go_wp2_with fail
            go_roundw
            case rel => exact ⟨k + 1, by omega, by go_num, by rw [HN.out, HL.out]; exact hownd, h4d, h5d, hbd⟩
            case measure => simp [intOf]; omega
          · have e1 : ((A k : Int) != (B k : Int)) = true := by rw [bne_iff_ne]; omega
            have hN : dfN A B (k + 1) = dfN A B k + 1 := if_neg hq
            have hL : dfL A B (k + 1) = dfL A B k ++ [.string (nmB k)] := if_neg hq
            have HN := hide hN
            have HL := hide hL
            clear hq hN hL hV41 hV51 hb01
            go_wp2_with fail
            go_quiet (fail)
            have hbd : Below w.heap.size w (wr.drewN nq) := below_drewN hbr nq
            have hownd : (wr.drewN nq).ownsRow w.heap.size 9 1 u7 (dfN A B k) (dfL A B k) := hown
            have h4d : Blk (wr.drewN nq) g4 64 (vaA A) := h4
            have h5d : Blk (wr.drewN nq) g5 64 (vaA B) := h5
            have hbase : w.heap.size ≤ (wr.drewN nq).heap.size := hbd.size
            generalize wr.drewN nq = wd at *
            clear hown h4 h5 hbr c4 c5
            go_wp2_with (at_builtin; refine wpList_append_one rfl _ _ 32 rfl w.heap.size 9 i0 _ 16 Tryd.underlying32 hi hz0 hz1 hz2 rfl _ _ _ rfl hownd (.string (nmB k)) rfl rfl (by unfold maxLen; omega) (by omega) hbase ?_; intro gg cap w1 hown1 hkp)
            have h41 : Blk w1 g4 64 (vaA A) := hkp.2 _ _ _ (by decide) h4d
            have h51 : Blk w1 g5 64 (vaA B) := hkp.2 _ _ _ (by decide) h5d
            have hb1 := hbd.trans hkp.1
            clear hkp h4d h5d hbd hownd
            go_wp2_with fail
            go_roundw
            case rel => exact ⟨k + 1, by omega, by go_num, by rw [HN.out, HL.out]; exact hown1, h41, h51, hb1⟩
            case measure => simp [intOf]; omega
        · obtain rfl : k = 16 := by omega
          go_wp2_with fail
          go_ret
          exact ⟨_, rfl, hown, hbr⟩
end Go.Proofs.YtelmkpcocaogjaaDoor
