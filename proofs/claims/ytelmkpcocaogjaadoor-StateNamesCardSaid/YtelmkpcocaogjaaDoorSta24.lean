/-
  gannetlaw25: StateNames.
-/
import Derived.Test.YtelmkpcocaogjaaDoorSta23
import Derived.BigQuiet
import Derived.Deep.QuietTactic
namespace Go.Proofs.YtelmkpcocaogjaaDoor
set_option linter.unusedSimpArgs false
set_option linter.unusedVariables false
open Go.RowKit Pl
theorem dfL_len (A B : Nat → Nat) : ∀ k, (dfL A B k).length = dfN A B k
  | 0 => rfl
  | k + 1 => by
    have h := dfL_len A B k
    unfold dfL dfN
    by_cases e : A k = B k
    · rw [if_pos e, if_pos e]; exact h
    · rw [if_neg e, if_neg e, List.length_append, h]; rfl
theorem dfL_get (A B : Nat → Nat) (k : Nat) (hne : A k ≠ B k) : ∀ m, k < m → (dfL A B m)[dfN A B k]? = some (.string (nmB k)) ∧ dfN A B k < dfN A B m
  | 0, h => absurd h (by omega)
  | m + 1, h => by
    have hl := dfL_len A B m
    by_cases e : k = m
    · subst e
      unfold dfL
      rw [if_neg hne, List.getElem?_append_right (by omega), hl]
      have : dfN A B (k + 1) = dfN A B k + 1 := by
        show (if A k = B k then dfN A B k else dfN A B k + 1) = _
        rw [if_neg hne]
      exact ⟨by simp, by omega⟩
    · obtain ⟨h1, h2⟩ := dfL_get A B k hne m (by omega)
      unfold dfL
      have h3 : dfN A B m ≤ dfN A B (m + 1) := by
        show _ ≤ (if A m = B m then dfN A B m else dfN A B m + 1)
        split <;> omega
      by_cases e2 : A m = B m
      · rw [if_pos e2]; exact ⟨h1, by omega⟩
      · rw [if_neg e2, List.getElem?_append_left (by omega)]; exact ⟨h1, by omega⟩
theorem dfN_eq {A B : Nat → Nat} {k : Nat} (h : A k = B k) : dfN A B (k + 1) = dfN A B k := by
  show (if A k = B k then dfN A B k else dfN A B k + 1) = _
  rw [if_pos h]
theorem dfN_ne {A B : Nat → Nat} {k : Nat} (h : A k ≠ B k) : dfN A B (k + 1) = dfN A B k + 1 := by
  show (if A k = B k then dfN A B k else dfN A B k + 1) = _
  rw [if_neg h]
theorem get_any (R : Nat → Nat) (s : ByteArray) (ix : Nat) (hR : ROk R) (hix : ix ≤ 16) (h1 : ix < 16 → s = nmB ix) (h2 : ix = 16 → ∀ i, i < 16 → nmB i ≠ s) :
    ∃ (v : Nat) (ok : Bool), (ix < 16 → v = R ix ∧ ok = true) ∧ (ix = 16 → v = 0 ∧ ok = false) ∧ ∀ W, Calls Tryd.prog 16 #[.agg (stA R), .string s] W fun e w' => e = .returned (.tuple #[.int .u16 (v : Int), .bool ok]) ∧ Below W.heap.size W w' := by
  by_cases hi : ix < 16
  · have e := h1 hi
    subst e
    exact ⟨R ix, true, fun _ => ⟨rfl, rfl⟩, fun h => by omega, fun W => stGet_yes R ix W hR hi⟩
  · have e : ix = 16 := by omega
    exact ⟨0, false, fun h => by omega, fun _ => ⟨rfl, rfl⟩, fun W => stGet_no R s W (h2 e)⟩
/-- Has the name been met? -/
def Met (ix k : Nat) (u : Bool) : Prop := u = true ↔ ix < k
/-- The others' slice. -/
def Oth (w : World) (o : Option Addr) (A B : Nat → Nat) : Prop := 0 < dfN A B 16 → ∃ g, o = some ⟨g, 0, none⟩ ∧ g < w.heap.size ∧ ∀ j u, (dfL A B 16)[j]? = some u → w.cell? ⟨g, j, none⟩ = some u
theorem Oth.below {w w' : World} {o : Option Addr} {A B : Nat → Nat} (h : Oth w o A B) (hb : Below w.heap.size w w') : Oth w' o A B := fun h0 => by
  obtain ⟨g, e, hl, hc⟩ := h h0
  exact ⟨g, e, Nat.lt_of_lt_of_le hl hb.size, fun j u hj => (hb.cell (p := ⟨g, j, none⟩) hl).trans (hc j u hj)⟩
theorem other_any (A B : Nat → Nat) (w : World) (hA : ROk A) (hB : ROk B) :
    Calls Tryd.prog 15 #[.agg (stA A), .agg (stA B)] w fun e w' => ∃ o c, e = .returned (.slice o (dfN A B 16) c) ∧ Oth w' o A B ∧ Below w.heap.size w w' := by
  refine (stOther_calls A B w hA hB).mono ?_
  rintro e w' ⟨v, rfl, hown, hb⟩
  by_cases h0 : 0 < dfN A B 16
  · obtain ⟨g, c, rfl, _, hlt, _, hc⟩ := own1_form hown h0
    exact ⟨_, c, rfl, fun _ => ⟨g, rfl, hlt, hc⟩, hb⟩
  · rcases hown.2 with ⟨rfl, h⟩ | ⟨g, cap, cur, rfl, _⟩
    · exact ⟨none, 0, by rw [h], fun h => absurd h h0, hb⟩
    · exact ⟨_, _, rfl, fun h => absurd h h0, hb⟩
set_option maxRecDepth 100000 in
set_option maxHeartbeats 16000000 in
theorem stateNames_calls (A B : Nat → Nat) (name : ByteArray) (M : Int) (w : World) (hA : ROk A) (hB : ROk B)
    (hM : w.cell? ⟨0, 0, none⟩ = some (.int .i64 M)) :
    Calls Tryd.prog 4 #[.agg (stA A), .agg (stA B), .string name] w fun e w' => e = .returned (.bool true) ∧ Below w.heap.size w w' := by
  obtain ⟨ix, hix, hnm, h1, h2⟩ := nm_at name
  obtain ⟨vv, okb, hv1, hv2, hget⟩ := get_any A name ix hA hix h1 h2
  clear h1 h2
  have hsA : Blk ((w.alloc (.cells (stA A) 25)).alloc (.cells (stA B) 25)) w.heap.size 25 (stA A) := Blk.alloc (Blk.new _ _ _) _
  have hsB : Blk ((w.alloc (.cells (stA A) 25)).alloc (.cells (stA B) 25)) (w.heap.size + 1) 25 (stA B) := Blk.newAt (by simp)
  have hb01 : Below w.heap.size w ((w.alloc (.cells (stA A) 25)).alloc (.cells (stA B) 25)) := Bl.alloc (Bl.alloc (Below.refl _ _) _) _
  have hM1 := (hb01.cell (p := ⟨0, 0, none⟩) (cell_lt hM)).trans hM
  clear hM
  go_enter Tryd.func4, Tryd.ntmps4
  go_wp2_with fail
  obtain ⟨gA, hgA⟩ : ∃ x, w.heap.size = x := ⟨_, rfl⟩
  obtain ⟨gB, hgB⟩ : ∃ x, w.heap.size + 1 = x := ⟨_, rfl⟩
  rw [hgB] at hsB ⊢
  rw [hgA] at hsA ⊢
  clear hgA hgB
  generalize (w.alloc (.cells (stA A) 25)).alloc (.cells (stA B) 25) = w1 at *
  refine Cl.m (live25_calls M _ hM1) ?_
  intro w2 hb2
  have hA2 := hsA.below hb2 hsA.lt
  have hB2 := hsB.below hb2 hsB.lt
  have hb02 := hb01.trans (hb2.mono hb01.size)
  clear hsA hsB hM1 hb01 hb2
  go_wp2_with fail
  refine wp_region_held_drew (S := fun W => Blk W gA 25 (stA A) ∧ Blk W gB 25 (stA B) ∧ Below w.heap.size w W) (by kernel_rfl) ⟨(by first | exact hA2.drew | exact hA2 | exact Below.drew hA2), (by first | exact hB2.drew | exact hB2 | exact Below.drew hB2), (by first | exact hb02.drew | exact hb02 | exact Below.drew hb02)⟩ (fun hS0 => ?_)
  clear hA2 hB2 hb02
  change wpAnyH _ _ _ _ _ 8 #[false, false, false, false, false, false, false, false] _ _
  generalize w2.drew = v0 at *
  refine wpAnyH_take (i := 1) (v := .agg (stA A)) rfl (by kernel_rfl) (by kernel_rfl) (by kernel_rfl) (fun _ _ _ h => h) (YieldsIf.row_w (by rfl) 25 _ rfl gA rfl _ _ _ (fun _ h => h.1) Tryd.underlying25 rfl (by kernel_rfl)) hS0 ?_
  simp only [List.getElem_toArray, List.getElem_cons_zero, List.getElem_cons_succ, Act.put, List.setIfInBounds_toArray, List.set_cons_zero, List.set_cons_succ]
  refine wpAnyH_take (i := 3) (v := .agg (stA B)) rfl (by kernel_rfl) (by kernel_rfl) (by kernel_rfl) (fun _ _ _ h => h) (YieldsIf.row_w (by rfl) 25 _ rfl gB rfl _ _ _ (fun _ h => h.2.1) Tryd.underlying25 rfl (by kernel_rfl)) hS0 ?_
  simp only [List.getElem_toArray, List.getElem_cons_zero, List.getElem_cons_succ, Act.put, List.setIfInBounds_toArray, List.set_cons_zero, List.set_cons_succ]
  refine wpAnyH_ready (rs := [0]) (by kernel_rfl) (by simp) ?_
  refine AllReadyH.cons rfl (fun K hK => ?_) AllReadyH.nil
  go_simp
  refine (rNames_calls _).mono ?_
  rintro e v1 ⟨gn, rfl, hBn, hb1⟩
  (try go_simp)
  refine hK.out _ _ ⟨(by first | exact hS0.1.below hb1 hS0.1.lt | exact hS0.1.trans (hb1.mono hS0.1.size) | exact (hb1.cell (cell_lt hS0.1)).trans hS0.1 | exact hS0.1.below hb1 (Nat.le_refl _) | exact hS0.1.low hb1 | exact hS0.1.below hb1), (by first | exact hS0.2.1.below hb1 hS0.2.1.lt | exact hS0.2.1.trans (hb1.mono hS0.2.1.size) | exact (hb1.cell (cell_lt hS0.2.1)).trans hS0.2.1 | exact hS0.2.1.below hb1 (Nat.le_refl _) | exact hS0.2.1.low hb1 | exact hS0.2.1.below hb1), (by first | exact hS0.2.2.below hb1 hS0.2.2.lt | exact hS0.2.2.trans (hb1.mono hS0.2.2.size) | exact (hb1.cell (cell_lt hS0.2.2)).trans hS0.2.2 | exact hS0.2.2.below hb1 (Nat.le_refl _) | exact hS0.2.2.low hb1 | exact hS0.2.2.below hb1)⟩ (fun hS1 => ?_)
  clear hK K
  have hT : Blk v1 gA 25 (stA A) ∧ Blk v1 gB 25 (stA B) ∧ Below w.heap.size w v1 ∧ Blk v1 gn 9 nmA := ⟨hS1.1, hS1.2.1, hS1.2.2, hBn⟩
  refine wpAnyH_mono (S' := fun W => Blk W gA 25 (stA A) ∧ Blk W gB 25 (stA B) ∧ Below w.heap.size w W ∧ Blk W gn 9 nmA) (fun _ h => ⟨h.1, h.2.1, h.2.2.1⟩) ?_
  clear hS1
  have hS1 := hT
  clear hT
  clear hb1 hS0
  simp only [List.getElem_toArray, List.getElem_cons_zero, List.getElem_cons_succ, Act.put, List.setIfInBounds_toArray, List.set_cons_zero, List.set_cons_succ]
  refine wpAnyH_ready (rs := [2]) (by kernel_rfl) (by simp) ?_
  refine AllReadyH.cons rfl (fun K hK => ?_) AllReadyH.nil
  go_simp
  refine (rAll_calls A _ hA).mono ?_
  rintro e v2 ⟨va, rfl, hown, hb2⟩
  obtain ⟨gl, cl, cur, rfl, _, hBl, _, hcs⟩ := own1_row hown (by decide)
  (try go_simp)
  refine hK.out _ _ ⟨(by first | exact hS1.1.below hb2 hS1.1.lt | exact hS1.1.trans (hb2.mono hS1.1.size) | exact (hb2.cell (cell_lt hS1.1)).trans hS1.1 | exact hS1.1.below hb2 (Nat.le_refl _) | exact hS1.1.low hb2 | exact hS1.1.below hb2), (by first | exact hS1.2.1.below hb2 hS1.2.1.lt | exact hS1.2.1.trans (hb2.mono hS1.2.1.size) | exact (hb2.cell (cell_lt hS1.2.1)).trans hS1.2.1 | exact hS1.2.1.below hb2 (Nat.le_refl _) | exact hS1.2.1.low hb2 | exact hS1.2.1.below hb2), (by first | exact hS1.2.2.1.below hb2 hS1.2.2.1.lt | exact hS1.2.2.1.trans (hb2.mono hS1.2.2.1.size) | exact (hb2.cell (cell_lt hS1.2.2.1)).trans hS1.2.2.1 | exact hS1.2.2.1.below hb2 (Nat.le_refl _) | exact hS1.2.2.1.low hb2 | exact hS1.2.2.1.below hb2), (by first | exact hS1.2.2.2.below hb2 hS1.2.2.2.lt | exact hS1.2.2.2.trans (hb2.mono hS1.2.2.2.size) | exact (hb2.cell (cell_lt hS1.2.2.2)).trans hS1.2.2.2 | exact hS1.2.2.2.below hb2 (Nat.le_refl _) | exact hS1.2.2.2.low hb2 | exact hS1.2.2.2.below hb2)⟩ (fun hS2 => ?_)
  clear hK K
  have hT : Blk v2 gA 25 (stA A) ∧ Blk v2 gB 25 (stA B) ∧ Below w.heap.size w v2 ∧ Blk v2 gn 9 nmA ∧ Blk v2 gl 22 cur := ⟨hS2.1, hS2.2.1, hS2.2.2.1, hS2.2.2.2, hBl⟩
  refine wpAnyH_mono (S' := fun W => Blk W gA 25 (stA A) ∧ Blk W gB 25 (stA B) ∧ Below w.heap.size w W ∧ Blk W gn 9 nmA ∧ Blk W gl 22 cur) (fun _ h => ⟨h.1, h.2.1, h.2.2.1, h.2.2.2.1⟩) ?_
  clear hS2
  have hS2 := hT
  clear hT
  clear hb2 hS1
  simp only [List.getElem_toArray, List.getElem_cons_zero, List.getElem_cons_succ, Act.put, List.setIfInBounds_toArray, List.set_cons_zero, List.set_cons_succ]
  refine wpAnyH_ready (rs := [4]) (by kernel_rfl) (by simp) ?_
  refine AllReadyH.cons rfl (fun K hK => ?_) AllReadyH.nil
  go_simp
  refine (rAll_calls B _ hB).mono ?_
  rintro e v3 ⟨vb, rfl, hownb, hb3⟩
  obtain ⟨gm, cm, curb, rfl, _, hBm, _, hcsb⟩ := own1_row hownb (by decide)
  (try go_simp)
  refine hK.out _ _ ⟨(by first | exact hS2.1.below hb3 hS2.1.lt | exact hS2.1.trans (hb3.mono hS2.1.size) | exact (hb3.cell (cell_lt hS2.1)).trans hS2.1 | exact hS2.1.below hb3 (Nat.le_refl _) | exact hS2.1.low hb3 | exact hS2.1.below hb3), (by first | exact hS2.2.1.below hb3 hS2.2.1.lt | exact hS2.2.1.trans (hb3.mono hS2.2.1.size) | exact (hb3.cell (cell_lt hS2.2.1)).trans hS2.2.1 | exact hS2.2.1.below hb3 (Nat.le_refl _) | exact hS2.2.1.low hb3 | exact hS2.2.1.below hb3), (by first | exact hS2.2.2.1.below hb3 hS2.2.2.1.lt | exact hS2.2.2.1.trans (hb3.mono hS2.2.2.1.size) | exact (hb3.cell (cell_lt hS2.2.2.1)).trans hS2.2.2.1 | exact hS2.2.2.1.below hb3 (Nat.le_refl _) | exact hS2.2.2.1.low hb3 | exact hS2.2.2.1.below hb3), (by first | exact hS2.2.2.2.1.below hb3 hS2.2.2.2.1.lt | exact hS2.2.2.2.1.trans (hb3.mono hS2.2.2.2.1.size) | exact (hb3.cell (cell_lt hS2.2.2.2.1)).trans hS2.2.2.2.1 | exact hS2.2.2.2.1.below hb3 (Nat.le_refl _) | exact hS2.2.2.2.1.low hb3 | exact hS2.2.2.2.1.below hb3), (by first | exact hS2.2.2.2.2.below hb3 hS2.2.2.2.2.lt | exact hS2.2.2.2.2.trans (hb3.mono hS2.2.2.2.2.size) | exact (hb3.cell (cell_lt hS2.2.2.2.2)).trans hS2.2.2.2.2 | exact hS2.2.2.2.2.below hb3 (Nat.le_refl _) | exact hS2.2.2.2.2.low hb3 | exact hS2.2.2.2.2.below hb3)⟩ (fun hS3 => ?_)
  clear hK K
  have hT : Blk v3 gA 25 (stA A) ∧ Blk v3 gB 25 (stA B) ∧ Below w.heap.size w v3 ∧ Blk v3 gn 9 nmA ∧ Blk v3 gl 22 cur ∧ Blk v3 gm 22 curb := ⟨hS3.1, hS3.2.1, hS3.2.2.1, hS3.2.2.2.1, hS3.2.2.2.2, hBm⟩
  refine wpAnyH_mono (S' := fun W => Blk W gA 25 (stA A) ∧ Blk W gB 25 (stA B) ∧ Below w.heap.size w W ∧ Blk W gn 9 nmA ∧ Blk W gl 22 cur ∧ Blk W gm 22 curb) (fun _ h => ⟨h.1, h.2.1, h.2.2.1, h.2.2.2.1, h.2.2.2.2.1⟩) ?_
  clear hS3
  have hS3 := hT
  clear hT
  clear hb3 hS2
  simp only [List.getElem_toArray, List.getElem_cons_zero, List.getElem_cons_succ, Act.put, List.setIfInBounds_toArray, List.set_cons_zero, List.set_cons_succ]
  refine wpAnyH_take (i := 5) (v := ?_) rfl (by kernel_rfl) (by kernel_rfl) (by kernel_rfl) (fun _ _ _ h => h) (Or.inl ⟨by rfl, ?_⟩) hS3 ?_
  rotate_left
  · (intro w hSw; (try dsimp only at hSw); go_simp; try with_reducible rfl)
  simp only [List.getElem_toArray, List.getElem_cons_zero, List.getElem_cons_succ, Act.put, List.setIfInBounds_toArray, List.set_cons_zero, List.set_cons_succ]
  refine wpAnyH_take (i := 6) (v := ?_) rfl (by kernel_rfl) (by kernel_rfl) (by kernel_rfl) (fun _ _ _ h => h) (Or.inl ⟨by rfl, ?_⟩) hS3 ?_
  rotate_left
  · (intro w hSw; (try dsimp only at hSw); go_simp; try with_reducible rfl)
  simp only [List.getElem_toArray, List.getElem_cons_zero, List.getElem_cons_succ, Act.put, List.setIfInBounds_toArray, List.set_cons_zero, List.set_cons_succ]
  refine wpAnyH_take (i := 7) (v := ?_) rfl (by kernel_rfl) (by kernel_rfl) (by kernel_rfl) (fun _ _ _ h => h) (Or.inl ⟨by rfl, ?_⟩) hS3 ?_
  rotate_left
  · (intro w hSw; (try dsimp only at hSw); go_simp; try with_reducible rfl)
  simp only [List.getElem_toArray, List.getElem_cons_zero, List.getElem_cons_succ, Act.put, List.setIfInBounds_toArray, List.set_cons_zero, List.set_cons_succ]
  refine wpAnyH_done (by kernel_rfl) ?_ _
  have hA2 := hS3.1
  have hB2 := hS3.2.1
  have hb02 := hS3.2.2.1
  have hn := hS3.2.2.2.1
  have hl := hS3.2.2.2.2.1
  have hm := hS3.2.2.2.2.2
  clear hS3
  clear hBn hBl hBm hown hownb
  generalize v3 = w3 at *
  have HC : Hid (∀ j, j < 16 → cur[j]? = some (.int .u16 (A j : Int))) := fun j hj => hcs j _ (wdL_get A 16 j hj)
  have HD : Hid (∀ j, j < 16 → curb[j]? = some (.int .u16 (B j : Int))) := fun j hj => hcsb j _ (wdL_get B 16 j hj)
  clear hcs hcsb
  go_wp2_with fail
  refine wp_region_held_drew (S := fun W => Blk W gA 25 (stA A) ∧ Blk W gB 25 (stA B) ∧ Below w.heap.size w W ∧ Blk W gn 9 nmA ∧ Blk W gl 22 cur ∧ Blk W gm 22 curb) (by kernel_rfl) ⟨(by first | exact hA2.drew | exact hA2 | exact Below.drew hA2), (by first | exact hB2.drew | exact hB2 | exact Below.drew hB2), (by first | exact hb02.drew | exact hb02 | exact Below.drew hb02), (by first | exact hn.drew | exact hn | exact Below.drew hn), (by first | exact hl.drew | exact hl | exact Below.drew hl), (by first | exact hm.drew | exact hm | exact Below.drew hm)⟩ (fun hS0 => ?_)
  clear hA2 hB2 hb02 hn hl hm
  change wpAnyH _ _ _ _ _ 6 #[false, false, false, false, false, false] _ _
  generalize w3.drew = v0 at *
  refine wpAnyH_take (i := 1) (v := .agg (stA A)) rfl (by kernel_rfl) (by kernel_rfl) (by kernel_rfl) (fun _ _ _ h => h) (YieldsIf.row_w (by rfl) 25 _ rfl gA rfl _ _ _ (fun _ h => h.1) Tryd.underlying25 rfl (by kernel_rfl)) hS0 ?_
  simp only [List.getElem_toArray, List.getElem_cons_zero, List.getElem_cons_succ, Act.put, List.setIfInBounds_toArray, List.set_cons_zero, List.set_cons_succ]
  refine wpAnyH_take (i := 2) (v := .agg (stA B)) rfl (by kernel_rfl) (by kernel_rfl) (by kernel_rfl) (fun _ _ _ h => h) (YieldsIf.row_w (by rfl) 25 _ rfl gB rfl _ _ _ (fun _ h => h.2.1) Tryd.underlying25 rfl (by kernel_rfl)) hS0 ?_
  simp only [List.getElem_toArray, List.getElem_cons_zero, List.getElem_cons_succ, Act.put, List.setIfInBounds_toArray, List.set_cons_zero, List.set_cons_succ]
  refine wpAnyH_ready (rs := [0]) (by kernel_rfl) (by simp) ?_
  refine AllReadyH.cons rfl (fun K hK => ?_) AllReadyH.nil
  go_simp
  refine (stNamesL_calls _).mono ?_
  rintro e v1 ⟨gN, rfl, hBN, hb1⟩
  (try go_simp)
  refine hK.out _ _ ⟨(by first | exact hS0.1.below hb1 hS0.1.lt | exact hS0.1.trans (hb1.mono hS0.1.size) | exact (hb1.cell (cell_lt hS0.1)).trans hS0.1 | exact hS0.1.below hb1 (Nat.le_refl _) | exact hS0.1.low hb1 | exact hS0.1.below hb1), (by first | exact hS0.2.1.below hb1 hS0.2.1.lt | exact hS0.2.1.trans (hb1.mono hS0.2.1.size) | exact (hb1.cell (cell_lt hS0.2.1)).trans hS0.2.1 | exact hS0.2.1.below hb1 (Nat.le_refl _) | exact hS0.2.1.low hb1 | exact hS0.2.1.below hb1), (by first | exact hS0.2.2.1.below hb1 hS0.2.2.1.lt | exact hS0.2.2.1.trans (hb1.mono hS0.2.2.1.size) | exact (hb1.cell (cell_lt hS0.2.2.1)).trans hS0.2.2.1 | exact hS0.2.2.1.below hb1 (Nat.le_refl _) | exact hS0.2.2.1.low hb1 | exact hS0.2.2.1.below hb1), (by first | exact hS0.2.2.2.1.below hb1 hS0.2.2.2.1.lt | exact hS0.2.2.2.1.trans (hb1.mono hS0.2.2.2.1.size) | exact (hb1.cell (cell_lt hS0.2.2.2.1)).trans hS0.2.2.2.1 | exact hS0.2.2.2.1.below hb1 (Nat.le_refl _) | exact hS0.2.2.2.1.low hb1 | exact hS0.2.2.2.1.below hb1), (by first | exact hS0.2.2.2.2.1.below hb1 hS0.2.2.2.2.1.lt | exact hS0.2.2.2.2.1.trans (hb1.mono hS0.2.2.2.2.1.size) | exact (hb1.cell (cell_lt hS0.2.2.2.2.1)).trans hS0.2.2.2.2.1 | exact hS0.2.2.2.2.1.below hb1 (Nat.le_refl _) | exact hS0.2.2.2.2.1.low hb1 | exact hS0.2.2.2.2.1.below hb1), (by first | exact hS0.2.2.2.2.2.below hb1 hS0.2.2.2.2.2.lt | exact hS0.2.2.2.2.2.trans (hb1.mono hS0.2.2.2.2.2.size) | exact (hb1.cell (cell_lt hS0.2.2.2.2.2)).trans hS0.2.2.2.2.2 | exact hS0.2.2.2.2.2.below hb1 (Nat.le_refl _) | exact hS0.2.2.2.2.2.low hb1 | exact hS0.2.2.2.2.2.below hb1)⟩ (fun hS1 => ?_)
  clear hK K
  have hT : Blk v1 gA 25 (stA A) ∧ Blk v1 gB 25 (stA B) ∧ Below w.heap.size w v1 ∧ Blk v1 gn 9 nmA ∧ Blk v1 gl 22 cur ∧ Blk v1 gm 22 curb ∧ Blk v1 gN 61 nmA := ⟨hS1.1, hS1.2.1, hS1.2.2.1, hS1.2.2.2.1, hS1.2.2.2.2.1, hS1.2.2.2.2.2, hBN⟩
  refine wpAnyH_mono (S' := fun W => Blk W gA 25 (stA A) ∧ Blk W gB 25 (stA B) ∧ Below w.heap.size w W ∧ Blk W gn 9 nmA ∧ Blk W gl 22 cur ∧ Blk W gm 22 curb ∧ Blk W gN 61 nmA) (fun _ h => ⟨h.1, h.2.1, h.2.2.1, h.2.2.2.1, h.2.2.2.2.1, h.2.2.2.2.2.1⟩) ?_
  clear hS1
  have hS1 := hT
  clear hT
  clear hb1 hS0
  simp only [List.getElem_toArray, List.getElem_cons_zero, List.getElem_cons_succ, Act.put, List.setIfInBounds_toArray, List.set_cons_zero, List.set_cons_succ]
  refine wpAnyH_ready (rs := [3]) (by kernel_rfl) (by simp) ?_
  refine AllReadyH.cons rfl (fun K hK => ?_) AllReadyH.nil
  go_simp
  refine (other_any A B _ hA hB).mono ?_
  rintro e v2 ⟨oo, co, rfl, hoo, hb2⟩
  (try go_simp)
  refine hK.out _ _ ⟨(by first | exact hS1.1.below hb2 hS1.1.lt | exact hS1.1.trans (hb2.mono hS1.1.size) | exact (hb2.cell (cell_lt hS1.1)).trans hS1.1 | exact hS1.1.below hb2 (Nat.le_refl _) | exact hS1.1.low hb2 | exact hS1.1.below hb2), (by first | exact hS1.2.1.below hb2 hS1.2.1.lt | exact hS1.2.1.trans (hb2.mono hS1.2.1.size) | exact (hb2.cell (cell_lt hS1.2.1)).trans hS1.2.1 | exact hS1.2.1.below hb2 (Nat.le_refl _) | exact hS1.2.1.low hb2 | exact hS1.2.1.below hb2), (by first | exact hS1.2.2.1.below hb2 hS1.2.2.1.lt | exact hS1.2.2.1.trans (hb2.mono hS1.2.2.1.size) | exact (hb2.cell (cell_lt hS1.2.2.1)).trans hS1.2.2.1 | exact hS1.2.2.1.below hb2 (Nat.le_refl _) | exact hS1.2.2.1.low hb2 | exact hS1.2.2.1.below hb2), (by first | exact hS1.2.2.2.1.below hb2 hS1.2.2.2.1.lt | exact hS1.2.2.2.1.trans (hb2.mono hS1.2.2.2.1.size) | exact (hb2.cell (cell_lt hS1.2.2.2.1)).trans hS1.2.2.2.1 | exact hS1.2.2.2.1.below hb2 (Nat.le_refl _) | exact hS1.2.2.2.1.low hb2 | exact hS1.2.2.2.1.below hb2), (by first | exact hS1.2.2.2.2.1.below hb2 hS1.2.2.2.2.1.lt | exact hS1.2.2.2.2.1.trans (hb2.mono hS1.2.2.2.2.1.size) | exact (hb2.cell (cell_lt hS1.2.2.2.2.1)).trans hS1.2.2.2.2.1 | exact hS1.2.2.2.2.1.below hb2 (Nat.le_refl _) | exact hS1.2.2.2.2.1.low hb2 | exact hS1.2.2.2.2.1.below hb2), (by first | exact hS1.2.2.2.2.2.1.below hb2 hS1.2.2.2.2.2.1.lt | exact hS1.2.2.2.2.2.1.trans (hb2.mono hS1.2.2.2.2.2.1.size) | exact (hb2.cell (cell_lt hS1.2.2.2.2.2.1)).trans hS1.2.2.2.2.2.1 | exact hS1.2.2.2.2.2.1.below hb2 (Nat.le_refl _) | exact hS1.2.2.2.2.2.1.low hb2 | exact hS1.2.2.2.2.2.1.below hb2), (by first | exact hS1.2.2.2.2.2.2.below hb2 hS1.2.2.2.2.2.2.lt | exact hS1.2.2.2.2.2.2.trans (hb2.mono hS1.2.2.2.2.2.2.size) | exact (hb2.cell (cell_lt hS1.2.2.2.2.2.2)).trans hS1.2.2.2.2.2.2 | exact hS1.2.2.2.2.2.2.below hb2 (Nat.le_refl _) | exact hS1.2.2.2.2.2.2.low hb2 | exact hS1.2.2.2.2.2.2.below hb2)⟩ (fun hS2 => ?_)
  clear hK K
  have hT : Blk v2 gA 25 (stA A) ∧ Blk v2 gB 25 (stA B) ∧ Below w.heap.size w v2 ∧ Blk v2 gn 9 nmA ∧ Blk v2 gl 22 cur ∧ Blk v2 gm 22 curb ∧ Blk v2 gN 61 nmA ∧ Oth v2 oo A B := ⟨hS2.1, hS2.2.1, hS2.2.2.1, hS2.2.2.2.1, hS2.2.2.2.2.1, hS2.2.2.2.2.2.1, hS2.2.2.2.2.2.2, hoo⟩
  refine wpAnyH_mono (S' := fun W => Blk W gA 25 (stA A) ∧ Blk W gB 25 (stA B) ∧ Below w.heap.size w W ∧ Blk W gn 9 nmA ∧ Blk W gl 22 cur ∧ Blk W gm 22 curb ∧ Blk W gN 61 nmA ∧ Oth W oo A B) (fun _ h => ⟨h.1, h.2.1, h.2.2.1, h.2.2.2.1, h.2.2.2.2.1, h.2.2.2.2.2.1, h.2.2.2.2.2.2.1⟩) ?_
  clear hS2
  have hS2 := hT
  clear hT
  clear hb2 hS1
  simp only [List.getElem_toArray, List.getElem_cons_zero, List.getElem_cons_succ, Act.put, List.setIfInBounds_toArray, List.set_cons_zero, List.set_cons_succ]
  refine wpAnyH_take (i := 4) (v := ?_) rfl (by kernel_rfl) (by kernel_rfl) (by kernel_rfl) (fun _ _ _ h => h) (Or.inl ⟨by rfl, ?_⟩) hS2 ?_
  rotate_left
  · (intro w hSw; (try dsimp only at hSw); go_simp; try with_reducible rfl)
  simp only [List.getElem_toArray, List.getElem_cons_zero, List.getElem_cons_succ, Act.put, List.setIfInBounds_toArray, List.set_cons_zero, List.set_cons_succ]
  refine wpAnyH_take (i := 5) (v := ?_) rfl (by kernel_rfl) (by kernel_rfl) (by kernel_rfl) (fun _ _ _ h => h) (Or.inl ⟨by rfl, ?_⟩) hS2 ?_
  rotate_left
  · (intro w hSw; (try dsimp only at hSw); go_simp; try with_reducible rfl)
  simp only [List.getElem_toArray, List.getElem_cons_zero, List.getElem_cons_succ, Act.put, List.setIfInBounds_toArray, List.set_cons_zero, List.set_cons_succ]
  refine wpAnyH_done (by kernel_rfl) ?_ _
  have hA2 := hS2.1
  have hB2 := hS2.2.1
  have hb02 := hS2.2.2.1
  have hn := hS2.2.2.2.1
  have hl := hS2.2.2.2.2.1
  have hm := hS2.2.2.2.2.2.1
  have hN := hS2.2.2.2.2.2.2.1
  have ho := hS2.2.2.2.2.2.2.2
  clear hS2
  clear hBN hoo
  generalize v2 = w4 at *
  go_wp2_with (refine wpList_load_row rfl 25 _ rfl gA rfl _ (stA A) (0, 0) _ hA2 Tryd.underlying25 rfl (by kernel_rfl) ?_)
  refine Cl.m (hget _) ?_
  intro w5 hb5
  have hn5 := hn.below hb5 hn.lt
  have hl5 := hl.below hb5 hl.lt
  have hm5 := hm.below hb5 hm.lt
  have hN5 := hN.below hb5 hN.lt
  have ho5 := ho.below hb5
  have hb05 := hb02.trans (hb5.mono hb02.size)
  have hDle : dfN A B 16 ≤ 16 := dfN_le A B 16
  clear hA2 hB2 hb02 hn hl hm hN ho hb5 hget hA hB
  go_wp2_with fail
  obtain ⟨D, hD⟩ : ∃ D, dfN A B 16 = D := ⟨_, rfl⟩
  rw [hD] at hDle ⊢
  have HDD := hide hD
  clear hD
  go_loopw [14, 15, 16] (fun d u i wr => ∃ (k : Nat) (q : Bool), k ≤ 16 ∧ i = .int .i64 (k : Int) ∧ d = .int .i64 (dfN A B k : Int) ∧ u = .bool q ∧ Met ix k q ∧ Below w5.heap.size w5 wr) (fun _ _ i _ => 16 - (intOf i).toNat)
  case atStart => exact ⟨0, false, Nat.zero_le _, rfl, rfl, rfl, ⟨(fun h => by cases h), (fun h => by omega)⟩, Below.refl _ _⟩
  case round =>
    obtain ⟨k, q, hk, rfl, rfl, rfl, hq, hbq⟩ := hrel
    by_cases hlt : k < 16
    · have hlt' : (k : Int) < 16 := by omega
      have i16 : (decide ((16 : Int) ≤ (k : Int))) = false := by rw [decide_eq_false_iff_not]; omega
      have c1 : wr.cell? ⟨gN, k, none⟩ = some (.string (nmB k)) := ((hN5.below hbq hN5.lt).cell k).trans (arr_get 16 _ k hlt)
      have c2 : wr.cell? ⟨gn, k, none⟩ = some (.string (nmB k)) := ((hn5.below hbq hn5.lt).cell k).trans (arr_get 16 _ k hlt)
      have c3 : wr.cell? ⟨gl, k, none⟩ = some (.int .u16 (A k : Int)) := ((hl5.below hbq hl5.lt).cell k).trans (HC.out k hlt)
      have c4 : wr.cell? ⟨gm, k, none⟩ = some (.int .u16 (B k : Int)) := ((hm5.below hbq hm5.lt).cell k).trans (HD.out k hlt)
      have s1 : ((nmB k).toList != (nmB k).toList) = false := bne_self_eq_false _
      have hnk := hnm k hlt
      have hor := ho5.below hbq
      have hdle : dfN A B k ≤ k := dfN_le A B k
      by_cases hab : A k = B k
      · have hd := dfN_eq hab
        have z1 : ((B k : Int) != (B k : Int)) = false := bne_self_eq_false _
        rw [hab] at c3
        have HDK := hide hd
        clear hd hor
        by_cases e : k = ix
        · have hs : ((nmB k).toList == name.toList) = true := by rw [hnk, decide_eq_true e]
          have hvk : vv = A k := by rw [e]; exact (hv1 (by omega)).1
          rw [hab] at hvk
          subst hvk
          have z9 : ((B k : Int) != (B k : Int)) = false := bne_self_eq_false _
          have HV := hide (And.intro hv1 hv2)
          have HM : Hid (Met ix (k + 1) true) := ⟨(fun _ => by omega), (fun _ => rfl)⟩
          clear hnk e hq hn5 hl5 hm5 hN5 ho5 hv1 hv2 hnm hab
          go_wp2_with fail
          go_quiet (fail)
          go_wp2_with fail
          go_quiet (fail)
          go_wp2_with fail
          go_roundw
          case rel => exact ⟨k + 1, true, by omega, by go_num, by rw [HDK.out], rfl, HM.out, hbq.trans (below_drewN (Below.refl _ _) _)⟩
          case measure => simp [intOf]; omega
        · have hs : ((nmB k).toList == name.toList) = false := by rw [hnk, decide_eq_false e]
          have HV := hide (And.intro hv1 hv2)
          have HM : Hid (Met ix (k + 1) q) := ⟨(fun h => by have := hq.1 h; omega), (fun h => hq.2 (by omega))⟩
          clear hnk e hq hn5 hl5 hm5 hN5 ho5 hv1 hv2 hnm hab
          go_wp2_with fail
          go_quiet (fail)
          go_wp2_with fail
          go_quiet (fail)
          go_wp2_with fail
          go_roundw
          case rel => exact ⟨k + 1, q, by omega, by go_num, by rw [HDK.out], rfl, HM.out, hbq.trans (below_drewN (Below.refl _ _) _)⟩
          case measure => simp [intOf]; omega
      · have hd := dfN_ne hab
        obtain ⟨hg1, hg2⟩ := dfL_get A B k hab 16 hlt
        obtain ⟨go, rfl, _, hcc⟩ := hor (by omega)
        have c5 := hcc _ _ hg1
        rw [HDD.out] at hg2
        have z1 : ((A k : Int) != (B k : Int)) = true := by rw [bne_iff_ne]; omega
        obtain ⟨d, hdd⟩ : ∃ d, dfN A B k = d := ⟨_, rfl⟩
        rw [hdd] at hd c5 hg2 hdle ⊢
        have z2 : (decide ((D : Int) ≤ (d : Int))) = false := by rw [decide_eq_false_iff_not]; omega
        have z3 : (decide (D ≤ d)) = false := by rw [decide_eq_false_iff_not]; omega
        have z4 : (d : Int) < (D : Int) := by omega
        have z5 : (d : Int) ≤ 16 := by omega
        have HDK := hide hd
        clear hd hdd hg1 hcc hab
        by_cases e : k = ix
        · have hs : ((nmB k).toList == name.toList) = true := by rw [hnk, decide_eq_true e]
          have hvk : vv = A k := by rw [e]; exact (hv1 (by omega)).1
          subst hvk
          have z9 : ((A k : Int) != (A k : Int)) = false := bne_self_eq_false _
          have HV := hide (And.intro hv1 hv2)
          have HM : Hid (Met ix (k + 1) true) := ⟨(fun _ => by omega), (fun _ => rfl)⟩
          clear hnk e hq hn5 hl5 hm5 hN5 ho5 hv1 hv2 hnm
          go_wp2_with fail
          go_quiet (fail)
          go_wp2_with fail
          go_quiet (fail)
          go_wp2_with fail
          go_quiet (fail)
          go_wp2_with fail
          go_roundw
          case rel => exact ⟨k + 1, true, by omega, by go_num, by rw [HDK.out]; go_num, rfl, HM.out, hbq.trans (below_drewN (Below.refl _ _) _)⟩
          case measure => simp [intOf]; omega
        · have hs : ((nmB k).toList == name.toList) = false := by rw [hnk, decide_eq_false e]
          have HV := hide (And.intro hv1 hv2)
          have HM : Hid (Met ix (k + 1) q) := ⟨(fun h => by have := hq.1 h; omega), (fun h => hq.2 (by omega))⟩
          clear hnk e hq hn5 hl5 hm5 hN5 ho5 hv1 hv2 hnm
          go_wp2_with fail
          go_quiet (fail)
          go_wp2_with fail
          go_quiet (fail)
          go_wp2_with fail
          go_quiet (fail)
          go_wp2_with fail
          go_roundw
          case rel => exact ⟨k + 1, q, by omega, by go_num, by rw [HDK.out]; go_num, rfl, HM.out, hbq.trans (below_drewN (Below.refl _ _) _)⟩
          case measure => simp [intOf]; omega
    · obtain rfl : k = 16 := by omega
      have hd16 := HDD.out
      rw [hd16]
      clear hd16 hnm hlt hk hn5 hl5 hm5 hN5 ho5
      have zD : ((D : Int) == (D : Int)) = true := beq_self_eq_true _
      by_cases hi : ix < 16
      · obtain ⟨_, rfl⟩ := hv1 hi
        obtain rfl : q = true := hq.2 hi
        clear hv1 hv2 hq hi
        go_wp2_with fail
        go_ret
        exact ⟨rfl, hb05.trans (hbq.mono hb05.size)⟩
      · obtain ⟨rfl, rfl⟩ := hv2 (by omega)
        obtain rfl : q = false := by
          cases q
          · rfl
          · exact absurd (hq.1 rfl) hi
        clear hv1 hv2 hq hi
        go_wp2_with fail
        go_ret
        exact ⟨rfl, hb05.trans (hbq.mono hb05.size)⟩
  
section
open Go.ChangeShapes Go.WideShapes Go.ChangeAt
variable {H : Type} {enc : TypeId × Value → H} {W : World} {base : Nat}
set_option maxRecDepth 100000 in
theorem walk_StateNames {v0 v1 v2 : Value} {d0 d1 d2 : DataW H} {p0 p1 p2 : List MemPlace} (hsh : W.ShapedOpen Tryd.prog)
    (hv0 : Value.okWide Tryd.prog W .any base 25 v0) (hd0 : DataW.Trod enc Tryd.prog W 0 (fun _ => true) true 25 v0 d0 p0) (hv1 : Value.okWide Tryd.prog W .any base 25 v1) (hd1 : DataW.Trod enc Tryd.prog W 0 (fun _ => true) true 25 v1 d1 p1) (hv2 : Value.okWide Tryd.prog W .any base 9 v2) (hd2 : DataW.Trod enc Tryd.prog W 0 (fun _ => true) true 9 v2 d2 p2) :
    Calls Tryd.prog 4 #[v0, v1, v2] W fun e W' => e = .returned (.bool true) ∧ Below W.heap.size W W' := by
  obtain ⟨R, rfl, hR⟩ := open_state hv0 hd0
  obtain ⟨R2, rfl, hR2⟩ := open_state hv1 hd1
  obtain ⟨s, rfl, _⟩ := open_str Tryd.underlying9 hv2 hd2
  obtain ⟨M, hM⟩ := maxLen_cell hsh
  exact stateNames_calls R R2 s M W hR hR2 hM
end
end Go.Proofs.YtelmkpcocaogjaaDoor
