/-
  Package modes: operand, of a block; of branches, and of what has a byte ahead.
-/
import Derived.Test.YtlojabeeonhceaaDoorMod5
namespace Go.Proofs.YtlojabeeonhceaaDoor
set_option linter.unusedSimpArgs false
set_option linter.unusedVariables false
set_option maxRecDepth 10000
open Go.RowKit Go.Shelf Pl
theorem Byt.at {w : World} {b o n : Nat} {B : Nat → Nat} (h : Byt w b o n B) (k m : Nat) (hk : k + m ≤ n) : Byt w b (o + k) m (fun i => B (k + i)) := fun i hi => by
  have := h (k + i) (by omega)
  rw [Nat.add_assoc]
  exact this
set_option maxHeartbeats 4000000 in
theorem opBlk_calls (b o c : Nat) (p : Nat) (B : Nat → Nat) (w : World) (hB : Byt w b o 6 B) (hc6 : 6 ≤ c) :
    Calls Tryd.prog 25 #[.int .u8 19, .slice (some ⟨b, o, none⟩) 6 c, .int .u16 (p : Int)] w fun e w' => e = .returned (.string ⟨(dlr (B 0 + 256 * B 1) 4 ++ 44 :: (dlr (B 2 + 256 * B 3) 4 ++ 44 :: dlr (B 4 + 256 * B 5) 4)).toArray⟩) ∧ Below w.heap.size w w' := by
  have hw1 : ∀ W, Byt W b o 6 B → Calls Tryd.prog 38 #[.slice (some ⟨b, o, none⟩) 6 c] W fun e w' => e = .returned (.int .u16 ((B 0 + 256 * B 1 : Nat) : Int)) ∧ Below W.heap.size W w' := fun W h => word_calls b o 6 c B W h (by omega)
  have hw2 : ∀ W, Byt W b o 6 B → Calls Tryd.prog 38 #[.slice (some ⟨b, o + 2, none⟩) 4 (c - 2)] W fun e w' => e = .returned (.int .u16 ((B 2 + 256 * B 3 : Nat) : Int)) ∧ Below W.heap.size W w' := fun W h => word_calls b (o + 2) 4 (c - 2) (fun i => B (2 + i)) W (h.at 2 4 (by omega)) (by omega)
  have hw3 : ∀ W, Byt W b o 6 B → Calls Tryd.prog 38 #[.slice (some ⟨b, o + 4, none⟩) 2 (c - 4)] W fun e w' => e = .returned (.int .u16 ((B 4 + 256 * B 5 : Nat) : Int)) ∧ Below W.heap.size W w' := fun W h => word_calls b (o + 4) 2 (c - 4) (fun i => B (4 + i)) W (h.at 4 2 (by omega)) (by omega)
  have l0 := (hB 0 (by omega)).2
  have l1 := (hB 1 (by omega)).2
  have l2 := (hB 2 (by omega)).2
  have l3 := (hB 3 (by omega)).2
  have l4 := (hB 4 (by omega)).2
  have l5 := (hB 5 (by omega)).2
  have hp1 := fun W => address_calls (B 0 + 256 * B 1) W (by omega)
  have hp2 := fun W => address_calls (B 2 + 256 * B 3) W (by omega)
  have hp3 := fun W => address_calls (B 4 + 256 * B 5) W (by omega)
  have hl1 := dlr_len (B 0 + 256 * B 1) 4 rfl
  have hl2 := dlr_len (B 2 + 256 * B 3) 4 rfl
  have hl3 := dlr_len (B 4 + 256 * B 5) 4 rfl
  generalize dlr (B 0 + 256 * B 1) 4 = x1 at *
  generalize dlr (B 2 + 256 * B 3) 4 = x2 at *
  generalize dlr (B 4 + 256 * B 5) 4 = x3 at *
  generalize B 0 + 256 * B 1 = a1 at *
  generalize B 2 + 256 * B 3 = a2 at *
  generalize B 4 + 256 * B 5 = a3 at *
  clear l0 l1 l2 l3 l4 l5
  have i1 : 2 < c := by omega
  have i2 : ¬ c = 2 := by omega
  have i3 : ¬ c - 2 = 0 := by omega
  have i4 : (c - 2 == 0) = false := by rw [beq_eq_false_iff_ne]; omega
  have j1 : 4 < c := by omega
  have j2 : ¬ c = 4 := by omega
  have j3 : ¬ c - 4 = 0 := by omega
  have j4 : (c - 4 == 0) = false := by rw [beq_eq_false_iff_ne]; omega
  have hb0 : Below w.heap.size w w := Below.refl _ _
  go_enter Tryd.func25, Tryd.ntmps25
  go_wp2_with fail
  refine wp_region_held_drew (S := fun W => Byt W b o 6 B ∧ Below w.heap.size w W) (by kernel_rfl) ⟨(by first | exact hB.drew | exact hB | exact Below.drew hB), (by first | exact hb0.drew | exact hb0 | exact Below.drew hb0)⟩ (fun hS0 => ?_)
  clear hB hb0
  change wpAnyH _ _ _ _ _ 14 #[false, false, false, false, false, false, false, false, false, false, false, false, false, false] _ _
  generalize w.drew = v0 at *
  refine wpAnyH_take (i := 0) (v := ?_) rfl (by kernel_rfl) (by kernel_rfl) (by kernel_rfl) (fun _ _ _ h => h) (Or.inl ⟨by rfl, ?_⟩) hS0 ?_
  rotate_left
  · (intro w hSw; (try dsimp only at hSw); go_simp; try with_reducible rfl)
  simp only [List.getElem_toArray, List.getElem_cons_zero, List.getElem_cons_succ, Act.put, List.setIfInBounds_toArray, List.set_cons_zero, List.set_cons_succ]
  refine wpAnyH_take (i := 3) (v := ?_) rfl (by kernel_rfl) (by kernel_rfl) (by kernel_rfl) (fun _ _ _ h => h) (Or.inl ⟨by rfl, ?_⟩) hS0 ?_
  rotate_left
  · (intro w hSw; (try dsimp only at hSw); go_simp; try with_reducible rfl)
  simp only [List.getElem_toArray, List.getElem_cons_zero, List.getElem_cons_succ, Act.put, List.setIfInBounds_toArray, List.set_cons_zero, List.set_cons_succ]
  refine wpAnyH_take (i := 4) (v := ?_) rfl (by kernel_rfl) (by kernel_rfl) (by kernel_rfl) (fun _ _ _ h => h) (Or.inl ⟨by rfl, ?_⟩) hS0 ?_
  rotate_left
  · (intro w hSw; (try dsimp only at hSw); go_simp; try with_reducible rfl)
  simp only [List.getElem_toArray, List.getElem_cons_zero, List.getElem_cons_succ, Act.put, List.setIfInBounds_toArray, List.set_cons_zero, List.set_cons_succ]
  refine wpAnyH_take (i := 7) (v := ?_) rfl (by kernel_rfl) (by kernel_rfl) (by kernel_rfl) (fun _ _ _ h => h) (Or.inl ⟨by rfl, ?_⟩) hS0 ?_
  rotate_left
  · (intro w hSw; (try dsimp only at hSw); go_simp; try with_reducible rfl)
  simp only [List.getElem_toArray, List.getElem_cons_zero, List.getElem_cons_succ, Act.put, List.setIfInBounds_toArray, List.set_cons_zero, List.set_cons_succ]
  refine wpAnyH_take (i := 8) (v := ?_) rfl (by kernel_rfl) (by kernel_rfl) (by kernel_rfl) (fun _ _ _ h => h) (Or.inl ⟨by rfl, ?_⟩) hS0 ?_
  rotate_left
  · (intro w hSw; (try dsimp only at hSw); go_simp; try with_reducible rfl)
  simp only [List.getElem_toArray, List.getElem_cons_zero, List.getElem_cons_succ, Act.put, List.setIfInBounds_toArray, List.set_cons_zero, List.set_cons_succ]
  refine wpAnyH_ready (rs := [1]) (by kernel_rfl) (by simp) ?_
  refine AllReadyH.cons rfl (fun K hK => ?_) AllReadyH.nil
  go_simp
  refine (hw1 _ hS0.1).mono ?_
  rintro e v1 ⟨rfl, hb1⟩
  (try go_simp)
  refine hK.out _ _ ⟨(by first | exact hS0.1.below hb1 hS0.1.lt | exact hS0.1.trans (hb1.mono hS0.1.size) | exact hS0.1.trans (hb1.mono (by have := hS0.1.size; omega)) | exact (hb1.cell (cell_lt hS0.1)).trans hS0.1 | exact hS0.1.below hb1 (Nat.le_refl _) | exact hS0.1.low hb1 | exact hS0.1.below hb1 | exact hS0.1.trans (Only.of hb1)), (by first | exact hS0.2.below hb1 hS0.2.lt | exact hS0.2.trans (hb1.mono hS0.2.size) | exact hS0.2.trans (hb1.mono (by have := hS0.2.size; omega)) | exact (hb1.cell (cell_lt hS0.2)).trans hS0.2 | exact hS0.2.below hb1 (Nat.le_refl _) | exact hS0.2.low hb1 | exact hS0.2.below hb1 | exact hS0.2.trans (Only.of hb1))⟩ (fun hS1 => ?_)
  clear hK K
  clear hb1 hS0
  simp only [List.getElem_toArray, List.getElem_cons_zero, List.getElem_cons_succ, Act.put, List.setIfInBounds_toArray, List.set_cons_zero, List.set_cons_succ]
  refine wpAnyH_ready (rs := [2]) (by kernel_rfl) (by simp) ?_
  refine AllReadyH.cons rfl (fun K hK => ?_) AllReadyH.nil
  go_simp
  refine (hp1 _).mono ?_
  rintro e v2 ⟨rfl, hb2⟩
  (try go_simp)
  refine hK.out _ _ ⟨(by first | exact hS1.1.below hb2 hS1.1.lt | exact hS1.1.trans (hb2.mono hS1.1.size) | exact hS1.1.trans (hb2.mono (by have := hS1.1.size; omega)) | exact (hb2.cell (cell_lt hS1.1)).trans hS1.1 | exact hS1.1.below hb2 (Nat.le_refl _) | exact hS1.1.low hb2 | exact hS1.1.below hb2 | exact hS1.1.trans (Only.of hb2)), (by first | exact hS1.2.below hb2 hS1.2.lt | exact hS1.2.trans (hb2.mono hS1.2.size) | exact hS1.2.trans (hb2.mono (by have := hS1.2.size; omega)) | exact (hb2.cell (cell_lt hS1.2)).trans hS1.2 | exact hS1.2.below hb2 (Nat.le_refl _) | exact hS1.2.low hb2 | exact hS1.2.below hb2 | exact hS1.2.trans (Only.of hb2))⟩ (fun hS2 => ?_)
  clear hK K
  clear hb2 hS1
  simp only [List.getElem_toArray, List.getElem_cons_zero, List.getElem_cons_succ, Act.put, List.setIfInBounds_toArray, List.set_cons_zero, List.set_cons_succ]
  refine wpAnyH_ready (rs := [5]) (by kernel_rfl) (by simp) ?_
  refine AllReadyH.cons rfl (fun K hK => ?_) AllReadyH.nil
  go_simp
  refine (hw2 _ hS2.1).mono ?_
  rintro e v3 ⟨rfl, hb3⟩
  (try go_simp)
  refine hK.out _ _ ⟨(by first | exact hS2.1.below hb3 hS2.1.lt | exact hS2.1.trans (hb3.mono hS2.1.size) | exact hS2.1.trans (hb3.mono (by have := hS2.1.size; omega)) | exact (hb3.cell (cell_lt hS2.1)).trans hS2.1 | exact hS2.1.below hb3 (Nat.le_refl _) | exact hS2.1.low hb3 | exact hS2.1.below hb3 | exact hS2.1.trans (Only.of hb3)), (by first | exact hS2.2.below hb3 hS2.2.lt | exact hS2.2.trans (hb3.mono hS2.2.size) | exact hS2.2.trans (hb3.mono (by have := hS2.2.size; omega)) | exact (hb3.cell (cell_lt hS2.2)).trans hS2.2 | exact hS2.2.below hb3 (Nat.le_refl _) | exact hS2.2.low hb3 | exact hS2.2.below hb3 | exact hS2.2.trans (Only.of hb3))⟩ (fun hS3 => ?_)
  clear hK K
  clear hb3 hS2
  simp only [List.getElem_toArray, List.getElem_cons_zero, List.getElem_cons_succ, Act.put, List.setIfInBounds_toArray, List.set_cons_zero, List.set_cons_succ]
  refine wpAnyH_ready (rs := [6]) (by kernel_rfl) (by simp) ?_
  refine AllReadyH.cons rfl (fun K hK => ?_) AllReadyH.nil
  go_simp
  refine (hp2 _).mono ?_
  rintro e v4 ⟨rfl, hb4⟩
  (try go_simp)
  refine hK.out _ _ ⟨(by first | exact hS3.1.below hb4 hS3.1.lt | exact hS3.1.trans (hb4.mono hS3.1.size) | exact hS3.1.trans (hb4.mono (by have := hS3.1.size; omega)) | exact (hb4.cell (cell_lt hS3.1)).trans hS3.1 | exact hS3.1.below hb4 (Nat.le_refl _) | exact hS3.1.low hb4 | exact hS3.1.below hb4 | exact hS3.1.trans (Only.of hb4)), (by first | exact hS3.2.below hb4 hS3.2.lt | exact hS3.2.trans (hb4.mono hS3.2.size) | exact hS3.2.trans (hb4.mono (by have := hS3.2.size; omega)) | exact (hb4.cell (cell_lt hS3.2)).trans hS3.2 | exact hS3.2.below hb4 (Nat.le_refl _) | exact hS3.2.low hb4 | exact hS3.2.below hb4 | exact hS3.2.trans (Only.of hb4))⟩ (fun hS4 => ?_)
  clear hK K
  clear hb4 hS3
  simp only [List.getElem_toArray, List.getElem_cons_zero, List.getElem_cons_succ, Act.put, List.setIfInBounds_toArray, List.set_cons_zero, List.set_cons_succ]
  refine wpAnyH_ready (rs := [9]) (by kernel_rfl) (by simp) ?_
  refine AllReadyH.cons rfl (fun K hK => ?_) AllReadyH.nil
  go_simp
  refine (hw3 _ hS4.1).mono ?_
  rintro e v5 ⟨rfl, hb5⟩
  (try go_simp)
  refine hK.out _ _ ⟨(by first | exact hS4.1.below hb5 hS4.1.lt | exact hS4.1.trans (hb5.mono hS4.1.size) | exact hS4.1.trans (hb5.mono (by have := hS4.1.size; omega)) | exact (hb5.cell (cell_lt hS4.1)).trans hS4.1 | exact hS4.1.below hb5 (Nat.le_refl _) | exact hS4.1.low hb5 | exact hS4.1.below hb5 | exact hS4.1.trans (Only.of hb5)), (by first | exact hS4.2.below hb5 hS4.2.lt | exact hS4.2.trans (hb5.mono hS4.2.size) | exact hS4.2.trans (hb5.mono (by have := hS4.2.size; omega)) | exact (hb5.cell (cell_lt hS4.2)).trans hS4.2 | exact hS4.2.below hb5 (Nat.le_refl _) | exact hS4.2.low hb5 | exact hS4.2.below hb5 | exact hS4.2.trans (Only.of hb5))⟩ (fun hS5 => ?_)
  clear hK K
  clear hb5 hS4
  simp only [List.getElem_toArray, List.getElem_cons_zero, List.getElem_cons_succ, Act.put, List.setIfInBounds_toArray, List.set_cons_zero, List.set_cons_succ]
  refine wpAnyH_ready (rs := [10]) (by kernel_rfl) (by simp) ?_
  refine AllReadyH.cons rfl (fun K hK => ?_) AllReadyH.nil
  go_simp
  refine (hp3 _).mono ?_
  rintro e v6 ⟨rfl, hb6⟩
  (try go_simp)
  refine hK.out _ _ ⟨(by first | exact hS5.1.below hb6 hS5.1.lt | exact hS5.1.trans (hb6.mono hS5.1.size) | exact hS5.1.trans (hb6.mono (by have := hS5.1.size; omega)) | exact (hb6.cell (cell_lt hS5.1)).trans hS5.1 | exact hS5.1.below hb6 (Nat.le_refl _) | exact hS5.1.low hb6 | exact hS5.1.below hb6 | exact hS5.1.trans (Only.of hb6)), (by first | exact hS5.2.below hb6 hS5.2.lt | exact hS5.2.trans (hb6.mono hS5.2.size) | exact hS5.2.trans (hb6.mono (by have := hS5.2.size; omega)) | exact (hb6.cell (cell_lt hS5.2)).trans hS5.2 | exact hS5.2.below hb6 (Nat.le_refl _) | exact hS5.2.low hb6 | exact hS5.2.below hb6 | exact hS5.2.trans (Only.of hb6))⟩ (fun hS6 => ?_)
  clear hK K
  clear hb6 hS5
  simp only [List.getElem_toArray, List.getElem_cons_zero, List.getElem_cons_succ, Act.put, List.setIfInBounds_toArray, List.set_cons_zero, List.set_cons_succ]
  refine wpAnyH_ready (rs := [11]) (by kernel_rfl) (by simp) ?_
  refine AllReadyH.cons rfl (fun K hK => ?_) AllReadyH.nil
  go_simp
  have hb7 : Below v6.heap.size v6 (v6.alloc (.cells #[.string ⟨x1.toArray⟩, .string ⟨x2.toArray⟩, .string ⟨x3.toArray⟩] 9)) := Bl.alloc (Below.refl _ _) _
  refine hK.out _ _ ⟨(by first | exact hS6.1.below hb7 hS6.1.lt | exact hS6.1.trans (hb7.mono hS6.1.size) | exact hS6.1.trans (hb7.mono (by have := hS6.1.size; omega)) | exact (hb7.cell (cell_lt hS6.1)).trans hS6.1 | exact hS6.1.below hb7 (Nat.le_refl _) | exact hS6.1.low hb7 | exact hS6.1.below hb7 | exact hS6.1.trans (Only.of hb7)), (by first | exact hS6.2.below hb7 hS6.2.lt | exact hS6.2.trans (hb7.mono hS6.2.size) | exact hS6.2.trans (hb7.mono (by have := hS6.2.size; omega)) | exact (hb7.cell (cell_lt hS6.2)).trans hS6.2 | exact hS6.2.below hb7 (Nat.le_refl _) | exact hS6.2.low hb7 | exact hS6.2.below hb7 | exact hS6.2.trans (Only.of hb7))⟩ (fun hS7 => ?_)
  clear hK K
  have hg_7 : Blk (v6.alloc (.cells #[.string ⟨x1.toArray⟩, .string ⟨x2.toArray⟩, .string ⟨x3.toArray⟩] 9)) v6.heap.size 9 #[.string ⟨x1.toArray⟩, .string ⟨x2.toArray⟩, .string ⟨x3.toArray⟩] := Blk.new _ _ _
  clear hb7 hS6
  generalize v6.alloc (.cells #[.string ⟨x1.toArray⟩, .string ⟨x2.toArray⟩, .string ⟨x3.toArray⟩] 9) = v7 at *
  generalize v6.heap.size = g at *
  simp only [List.getElem_toArray, List.getElem_cons_zero, List.getElem_cons_succ, Act.put, List.setIfInBounds_toArray, List.set_cons_zero, List.set_cons_succ]
  refine wpAnyH_ready (rs := [12]) (by kernel_rfl) (by simp) ?_
  refine AllReadyH.cons rfl (fun K hK => ?_) AllReadyH.nil
  go_simp
  refine (join3_calls g x1 x2 x3 _ hg_7 (by omega)).mono ?_
  rintro e v8 ⟨rfl, hb8⟩
  (try go_simp)
  refine hK.out _ _ ⟨(by first | exact hS7.1.below hb8 hS7.1.lt | exact hS7.1.trans (hb8.mono hS7.1.size) | exact hS7.1.trans (hb8.mono (by have := hS7.1.size; omega)) | exact (hb8.cell (cell_lt hS7.1)).trans hS7.1 | exact hS7.1.below hb8 (Nat.le_refl _) | exact hS7.1.low hb8 | exact hS7.1.below hb8 | exact hS7.1.trans (Only.of hb8)), (by first | exact hS7.2.below hb8 hS7.2.lt | exact hS7.2.trans (hb8.mono hS7.2.size) | exact hS7.2.trans (hb8.mono (by have := hS7.2.size; omega)) | exact (hb8.cell (cell_lt hS7.2)).trans hS7.2 | exact hS7.2.below hb8 (Nat.le_refl _) | exact hS7.2.low hb8 | exact hS7.2.below hb8 | exact hS7.2.trans (Only.of hb8))⟩ (fun hS8 => ?_)
  clear hK K
  have hg_8 := hg_7.below hb8 hg_7.lt
  clear hb8 hS7
  simp only [List.getElem_toArray, List.getElem_cons_zero, List.getElem_cons_succ, Act.put, List.setIfInBounds_toArray, List.set_cons_zero, List.set_cons_succ]
  refine wpAnyH_take (i := 13) (v := ?_) rfl (by kernel_rfl) (by kernel_rfl) (by kernel_rfl) (fun _ _ _ h => h) (Or.inl ⟨by rfl, ?_⟩) hS8 ?_
  rotate_left
  · (intro w hSw; (try dsimp only at hSw); go_simp; try with_reducible rfl)
  simp only [List.getElem_toArray, List.getElem_cons_zero, List.getElem_cons_succ, Act.put, List.setIfInBounds_toArray, List.set_cons_zero, List.set_cons_succ]
  refine wpAnyH_done (by kernel_rfl) ?_ _
  have hB := hS8.1
  have hb0 := hS8.2
  clear hS8
  have hg := hg_8
  go_wp2_with fail
  go_ret
  exact ⟨rfl, hb0⟩
end Go.Proofs.YtlojabeeonhceaaDoor
