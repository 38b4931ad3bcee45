/-
  Package micro: text.
-/
import Derived.Test.YtodimiffmmkndaaDoorMr1
namespace Go.Proofs.YtodimiffmmkndaaDoor
set_option linter.unusedSimpArgs false
set_option linter.unusedVariables false
set_option maxRecDepth 10000
open Go.RowKit Go.Shelf Pl
theorem conv4 (w : World) (g : Nat) (a b d e : UInt8) (T : TypeId) (h : Blk w g T #[.int .u8 (a.toNat : Int), .int .u8 (b.toNat : Int), .int .u8 (d.toNat : Int), .int .u8 (e.toNat : Int)]) :
    (convert 67 9 (.slice (some ⟨g, 0, none⟩) 4 4)).run Tryd.prog w = .ok (.string ⟨[a, b, d, e].toArray⟩) w :=
  run_convert_bytes_back (P := Tryd.prog) w 67 9 5 ⟨g, 0, none⟩ 4 [a, b, d, e] Tryd.underlying67 Tryd.underlying5 Tryd.underlying9 (fun q hq => by
    rw [show ((⟨g, 0, none⟩ : Addr).add q) = ⟨g, q, none⟩ from by unfold Addr.add; split <;> simp_all]
    rw [h.cell q]
    match q, hq with
    | 0, _ | 1, _ | 2, _ | 3, _ => rfl)
set_option maxHeartbeats 8000000 in
theorem txO_calls (a t n : UInt8) (c : Bool) (w : World) (h : okO a t n = true) :
    Calls Tryd.prog 20 #[.agg #[.int .u8 (a.toNat : Int), .int .u8 (t.toNat : Int), .int .u8 (n.toNat : Int), .bool c]] w fun e w' => e = .returned (.string ⟨(txO a t n c).toArray⟩) ∧ Below w.heap.size w w' := by
  unfold okO at h
  simp only [Bool.and_eq_true, Bool.or_eq_true, decide_eq_true_eq] at h
  obtain ⟨⟨⟨h1, _⟩, _⟩, _⟩ := h
  have hl1 := fun W => pnt_calls t W
  have hl2 := fun W => pnt_calls n W
  have hi := fun W => ib_calls [70, 79, 68, 76, 83, 80, 85, 86] a W
  unfold txO
  generalize pnt t = p1 at *
  generalize pnt n = p2 at *
  generalize Lib.indexByte [70, 79, 68, 76, 83, 80, 85, 86] a = ia at *
  have hia : (decide (ia < 0)) = false := decide_eq_false (by omega)
  clear h1
  have hX : Blk (w.alloc (.cells #[.int .u8 (a.toNat : Int), .int .u8 (t.toNat : Int), .int .u8 (n.toNat : Int), .bool c] 39)) w.heap.size 39 #[.int .u8 (a.toNat : Int), .int .u8 (t.toNat : Int), .int .u8 (n.toNat : Int), .bool c] := Blk.new _ _ _
  have hbX : Below w.heap.size w (w.alloc (.cells #[.int .u8 (a.toNat : Int), .int .u8 (t.toNat : Int), .int .u8 (n.toNat : Int), .bool c] 39)) := Bl.alloc (Below.refl _ _) _
  have c0 := hX.cell 0
  have c1 := hX.cell 1
  have c2 := hX.cell 2
  have c3 := hX.cell 3
  simp only [List.getElem?_toArray, List.getElem?_cons_zero, List.getElem?_cons_succ] at c0 c1 c2 c3
  clear hX
  go_enter Tryd.func20, Tryd.ntmps20
  go_wp2_with fail
  generalize w.alloc (.cells #[.int .u8 (a.toNat : Int), .int .u8 (t.toNat : Int), .int .u8 (n.toNat : Int), .bool c] 39) = w1 at *
  refine wp_region_held_drew (S := fun W => W.cell? ⟨w.heap.size, 0, none⟩ = some (.int .u8 (a.toNat : Int)) ∧ W.cell? ⟨w.heap.size, 1, none⟩ = some (.int .u8 (t.toNat : Int)) ∧ W.cell? ⟨w.heap.size, 2, none⟩ = some (.int .u8 (n.toNat : Int)) ∧ W.cell? ⟨w.heap.size, 3, none⟩ = some (.bool c) ∧ Below w.heap.size w W) (by kernel_rfl) ⟨(by first | exact c0.drew | exact c0 | exact Below.drew c0), (by first | exact c1.drew | exact c1 | exact Below.drew c1), (by first | exact c2.drew | exact c2 | exact Below.drew c2), (by first | exact c3.drew | exact c3 | exact Below.drew c3), (by first | exact hbX.drew | exact hbX | exact Below.drew hbX)⟩ (fun hS0 => ?_)
  clear c0 c1 c2 c3 hbX
  change wpAnyH _ _ _ _ _ 11 #[false, false, false, false, false, false, false, false, false, false, false] _ _
  generalize w1.drew = v0 at *
  refine wpAnyH_take (i := 0) (v := ?_) rfl (by kernel_rfl) (by kernel_rfl) (by kernel_rfl) (fun _ _ _ h => h) (Or.inl ⟨by rfl, ?_⟩) hS0 ?_
  rotate_left
  · (intro w hSw; (try dsimp only at hSw); go_simp; try with_reducible rfl)
  simp only [List.getElem_toArray, List.getElem_cons_zero, List.getElem_cons_succ, Act.put, List.setIfInBounds_toArray, List.set_cons_zero, List.set_cons_succ]
  refine wpAnyH_take (i := 1) (v := ?_) rfl (by kernel_rfl) (by kernel_rfl) (by kernel_rfl) (fun _ _ _ h => h) (Or.inl ⟨by rfl, ?_⟩) hS0 ?_
  rotate_left
  · (intro w hSw; (try dsimp only at hSw); go_simp; try with_reducible rfl)
  simp only [List.getElem_toArray, List.getElem_cons_zero, List.getElem_cons_succ, Act.put, List.setIfInBounds_toArray, List.set_cons_zero, List.set_cons_succ]
  refine wpAnyH_take (i := 2) (v := ?_) rfl (by kernel_rfl) (by kernel_rfl) (by kernel_rfl) (fun _ _ _ h => h) (Or.inl ⟨by rfl, ?_⟩) hS0 ?_
  rotate_left
  · (intro w hSw; (try dsimp only at hSw); go_simp; try with_reducible rfl)
  simp only [List.getElem_toArray, List.getElem_cons_zero, List.getElem_cons_succ, Act.put, List.setIfInBounds_toArray, List.set_cons_zero, List.set_cons_succ]
  refine wpAnyH_take (i := 3) (v := ?_) rfl (by kernel_rfl) (by kernel_rfl) (by kernel_rfl) (fun _ _ _ h => h) (Or.inl ⟨by rfl, ?_⟩) hS0 ?_
  rotate_left
  · (intro w hSw; (try dsimp only at hSw); go_simp; try with_reducible rfl)
  simp only [List.getElem_toArray, List.getElem_cons_zero, List.getElem_cons_succ, Act.put, List.setIfInBounds_toArray, List.set_cons_zero, List.set_cons_succ]
  refine wpAnyH_take (i := 5) (v := ?_) rfl (by kernel_rfl) (by kernel_rfl) (by kernel_rfl) (fun _ _ _ h => h) (Or.inl ⟨by rfl, ?_⟩) hS0 ?_
  rotate_left
  · (intro w hSw; (try dsimp only at hSw); go_simp; try with_reducible rfl)
  simp only [List.getElem_toArray, List.getElem_cons_zero, List.getElem_cons_succ, Act.put, List.setIfInBounds_toArray, List.set_cons_zero, List.set_cons_succ]
  refine wpAnyH_take (i := 6) (v := ?_) rfl (by kernel_rfl) (by kernel_rfl) (by kernel_rfl) (fun _ _ _ h => h) (Or.inl ⟨by rfl, ?_⟩) hS0 ?_
  rotate_left
  · (intro w hSw; (try dsimp only at hSw); go_simp; try with_reducible rfl)
  simp only [List.getElem_toArray, List.getElem_cons_zero, List.getElem_cons_succ, Act.put, List.setIfInBounds_toArray, List.set_cons_zero, List.set_cons_succ]
  refine wpAnyH_ready (rs := [4, 9]) (by kernel_rfl) (by simp) ?_
  refine AllReadyH.cons rfl (fun K hK => ?_) ?_
  · -- quiet 4
    go_simp
    refine (hl1 _).mono ?_
    rintro e w' ⟨rfl, rfl⟩
    (try go_simp)
    refine hK.out _ _ hS0 (fun _ => ?_)
    clear hK K
    simp only [List.getElem_toArray, List.getElem_cons_zero, List.getElem_cons_succ, Act.put, List.setIfInBounds_toArray, List.set_cons_zero, List.set_cons_succ]
    refine wpAnyH_ready (rs := [7, 9]) (by kernel_rfl) (by simp) ?_
    refine AllReadyH.cons rfl (fun K hK => ?_) ?_
    · -- quiet 7
      go_simp
      refine (hl2 _).mono ?_
      rintro e w' ⟨rfl, rfl⟩
      (try go_simp)
      refine hK.out _ _ hS0 (fun _ => ?_)
      clear hK K
      simp only [List.getElem_toArray, List.getElem_cons_zero, List.getElem_cons_succ, Act.put, List.setIfInBounds_toArray, List.set_cons_zero, List.set_cons_succ]
      refine wpAnyH_take (i := 8) (v := ?_) rfl (by kernel_rfl) (by kernel_rfl) (by kernel_rfl) (fun _ _ _ h => h) (Or.inl ⟨by rfl, ?_⟩) hS0 ?_
      rotate_left
      · (intro w hSw; (try dsimp only at hSw); go_simp; try with_reducible rfl)
      simp only [List.getElem_toArray, List.getElem_cons_zero, List.getElem_cons_succ, Act.put, List.setIfInBounds_toArray, List.set_cons_zero, List.set_cons_succ]
      refine wpAnyH_ready (rs := [9]) (by kernel_rfl) (by simp) ?_
      refine AllReadyH.cons rfl (fun K hK => ?_) AllReadyH.nil
      go_simp
      have hb1 : Below v0.heap.size v0 (v0.alloc (.cells #[.int .u8 0, .int .u8 0, .int .u8 0, .int .u8 0] 66)) := Bl.alloc (Below.refl _ _) _
      refine hK.out _ _ ⟨(by first | exact hS0.1.below hb1 hS0.1.lt | exact hS0.1.trans (hb1.mono hS0.1.size) | exact hS0.1.trans (hb1.mono (by have := hS0.1.size; omega)) | exact (hb1.cell (cell_lt hS0.1)).trans hS0.1 | exact hS0.1.below hb1 (Nat.le_refl _) | exact hS0.1.low hb1 | exact hS0.1.below hb1 | exact hS0.1.trans (Only.of hb1)), (by first | exact hS0.2.1.below hb1 hS0.2.1.lt | exact hS0.2.1.trans (hb1.mono hS0.2.1.size) | exact hS0.2.1.trans (hb1.mono (by have := hS0.2.1.size; omega)) | exact (hb1.cell (cell_lt hS0.2.1)).trans hS0.2.1 | exact hS0.2.1.below hb1 (Nat.le_refl _) | exact hS0.2.1.low hb1 | exact hS0.2.1.below hb1 | exact hS0.2.1.trans (Only.of hb1)), (by first | exact hS0.2.2.1.below hb1 hS0.2.2.1.lt | exact hS0.2.2.1.trans (hb1.mono hS0.2.2.1.size) | exact hS0.2.2.1.trans (hb1.mono (by have := hS0.2.2.1.size; omega)) | exact (hb1.cell (cell_lt hS0.2.2.1)).trans hS0.2.2.1 | exact hS0.2.2.1.below hb1 (Nat.le_refl _) | exact hS0.2.2.1.low hb1 | exact hS0.2.2.1.below hb1 | exact hS0.2.2.1.trans (Only.of hb1)), (by first | exact hS0.2.2.2.1.below hb1 hS0.2.2.2.1.lt | exact hS0.2.2.2.1.trans (hb1.mono hS0.2.2.2.1.size) | exact hS0.2.2.2.1.trans (hb1.mono (by have := hS0.2.2.2.1.size; omega)) | exact (hb1.cell (cell_lt hS0.2.2.2.1)).trans hS0.2.2.2.1 | exact hS0.2.2.2.1.below hb1 (Nat.le_refl _) | exact hS0.2.2.2.1.low hb1 | exact hS0.2.2.2.1.below hb1 | exact hS0.2.2.2.1.trans (Only.of hb1)), (by first | exact hS0.2.2.2.2.below hb1 hS0.2.2.2.2.lt | exact hS0.2.2.2.2.trans (hb1.mono hS0.2.2.2.2.size) | exact hS0.2.2.2.2.trans (hb1.mono (by have := hS0.2.2.2.2.size; omega)) | exact (hb1.cell (cell_lt hS0.2.2.2.2)).trans hS0.2.2.2.2 | exact hS0.2.2.2.2.below hb1 (Nat.le_refl _) | exact hS0.2.2.2.2.low hb1 | exact hS0.2.2.2.2.below hb1 | exact hS0.2.2.2.2.trans (Only.of hb1))⟩ (fun hS1 => ?_)
      clear hK K
      have hz_1 : Blk (v0.alloc (.cells #[.int .u8 0, .int .u8 0, .int .u8 0, .int .u8 0] 66)) v0.heap.size 66 #[.int .u8 0, .int .u8 0, .int .u8 0, .int .u8 0] := Blk.new _ _ _
      have hgl : w.heap.size < v0.heap.size := cell_lt hS0.1
      have hge_ga := hS0.2.2.2.2.size
      clear hb1 hS0
      generalize v0.alloc (.cells #[.int .u8 0, .int .u8 0, .int .u8 0, .int .u8 0] 66) = v1 at *
      generalize v0.heap.size = ga at *
      simp only [List.getElem_toArray, List.getElem_cons_zero, List.getElem_cons_succ, Act.put, List.setIfInBounds_toArray, List.set_cons_zero, List.set_cons_succ]
      refine wpAnyH_ready (rs := [10]) (by kernel_rfl) (by simp) ?_
      refine AllReadyH.cons rfl (fun K hK => ?_) AllReadyH.nil
      rw [if_pos (show Region.wanted _ _ = true from by rfl)]
      refine wp_store_row 66 _ _ rfl ga #[.int .u8 (a.toNat : Int), .int .u8 (p1.toNat : Int), .int .u8 (p2.toNat : Int), .int .u8 46] rfl rfl 66 _ hz_1 (by kernel_rfl) rfl (by kernel_rfl) ?_
      refine hK.out _ _ ⟨(by first | exact below_setRow hS1.1 (by omega) _ | exact hS1.1.setRow_far (by omega) _ | exact (World.cell?_of_block (setRow_block _ _ _ _ (by first | omega | (dsimp only; omega)))).trans hS1.1 | exact hS1.1.only (only_setRow _ _ _) (fun k e => by (have e : k = _ := e); omega)), (by first | exact below_setRow hS1.2.1 (by omega) _ | exact hS1.2.1.setRow_far (by omega) _ | exact (World.cell?_of_block (setRow_block _ _ _ _ (by first | omega | (dsimp only; omega)))).trans hS1.2.1 | exact hS1.2.1.only (only_setRow _ _ _) (fun k e => by (have e : k = _ := e); omega)), (by first | exact below_setRow hS1.2.2.1 (by omega) _ | exact hS1.2.2.1.setRow_far (by omega) _ | exact (World.cell?_of_block (setRow_block _ _ _ _ (by first | omega | (dsimp only; omega)))).trans hS1.2.2.1 | exact hS1.2.2.1.only (only_setRow _ _ _) (fun k e => by (have e : k = _ := e); omega)), (by first | exact below_setRow hS1.2.2.2.1 (by omega) _ | exact hS1.2.2.2.1.setRow_far (by omega) _ | exact (World.cell?_of_block (setRow_block _ _ _ _ (by first | omega | (dsimp only; omega)))).trans hS1.2.2.2.1 | exact hS1.2.2.2.1.only (only_setRow _ _ _) (fun k e => by (have e : k = _ := e); omega)), (by first | exact below_setRow hS1.2.2.2.2 (by omega) _ | exact hS1.2.2.2.2.setRow_far (by omega) _ | exact (World.cell?_of_block (setRow_block _ _ _ _ (by first | omega | (dsimp only; omega)))).trans hS1.2.2.2.2 | exact hS1.2.2.2.2.only (only_setRow _ _ _) (fun k e => by (have e : k = _ := e); omega))⟩ (fun hS2 => ?_)
      clear hK K
      have hz_2 := hz_1.setRow #[.int .u8 (a.toNat : Int), .int .u8 (p1.toNat : Int), .int .u8 (p2.toNat : Int), .int .u8 46]
      clear hS1
      generalize v1.setRow ga #[.int .u8 (a.toNat : Int), .int .u8 (p1.toNat : Int), .int .u8 (p2.toNat : Int), .int .u8 46] = v2 at *
      simp only [List.getElem_toArray, List.getElem_cons_zero, List.getElem_cons_succ, Act.put, List.setIfInBounds_toArray, List.set_cons_zero, List.set_cons_succ]
      refine wpAnyH_done (by kernel_rfl) ?_ _
      have c0 := hS2.1
      have c1 := hS2.2.1
      have c2 := hS2.2.2.1
      have c3 := hS2.2.2.2.1
      have hbX := hS2.2.2.2.2
      clear hS2
      have hz := hz_2
      go_wp2_with fail
      refine Cl.p (hi _) ?_
      have hz3 := hz.cell 3
      have hf3 := hz.frozen 3
      have hgz : w.heap.size ≤ ga := by omega
      cases c
      case false =>
        have hcv := conv4 _ ga a p1 p2 46 66 hz
        go_wp2_with fail
        go_ret
        exact ⟨rfl, hbX⟩
      case true =>
        have hz5 := hz.set_ 3 (.int .u8 33)
        have hcv := conv4 _ ga a p1 p2 33 66 hz5
        go_wp2_with fail
        go_ret
        exact ⟨rfl, hbX.setCell (p := ⟨ga, 3, none⟩) hgz _⟩
    refine AllReadyH.cons rfl (fun K hK => ?_) ?_
    · -- alloc 9
      go_simp
      have hb1 : Below v0.heap.size v0 (v0.alloc (.cells #[.int .u8 0, .int .u8 0, .int .u8 0, .int .u8 0] 66)) := Bl.alloc (Below.refl _ _) _
      refine hK.out _ _ ⟨(by first | exact hS0.1.below hb1 hS0.1.lt | exact hS0.1.trans (hb1.mono hS0.1.size) | exact hS0.1.trans (hb1.mono (by have := hS0.1.size; omega)) | exact (hb1.cell (cell_lt hS0.1)).trans hS0.1 | exact hS0.1.below hb1 (Nat.le_refl _) | exact hS0.1.low hb1 | exact hS0.1.below hb1 | exact hS0.1.trans (Only.of hb1)), (by first | exact hS0.2.1.below hb1 hS0.2.1.lt | exact hS0.2.1.trans (hb1.mono hS0.2.1.size) | exact hS0.2.1.trans (hb1.mono (by have := hS0.2.1.size; omega)) | exact (hb1.cell (cell_lt hS0.2.1)).trans hS0.2.1 | exact hS0.2.1.below hb1 (Nat.le_refl _) | exact hS0.2.1.low hb1 | exact hS0.2.1.below hb1 | exact hS0.2.1.trans (Only.of hb1)), (by first | exact hS0.2.2.1.below hb1 hS0.2.2.1.lt | exact hS0.2.2.1.trans (hb1.mono hS0.2.2.1.size) | exact hS0.2.2.1.trans (hb1.mono (by have := hS0.2.2.1.size; omega)) | exact (hb1.cell (cell_lt hS0.2.2.1)).trans hS0.2.2.1 | exact hS0.2.2.1.below hb1 (Nat.le_refl _) | exact hS0.2.2.1.low hb1 | exact hS0.2.2.1.below hb1 | exact hS0.2.2.1.trans (Only.of hb1)), (by first | exact hS0.2.2.2.1.below hb1 hS0.2.2.2.1.lt | exact hS0.2.2.2.1.trans (hb1.mono hS0.2.2.2.1.size) | exact hS0.2.2.2.1.trans (hb1.mono (by have := hS0.2.2.2.1.size; omega)) | exact (hb1.cell (cell_lt hS0.2.2.2.1)).trans hS0.2.2.2.1 | exact hS0.2.2.2.1.below hb1 (Nat.le_refl _) | exact hS0.2.2.2.1.low hb1 | exact hS0.2.2.2.1.below hb1 | exact hS0.2.2.2.1.trans (Only.of hb1)), (by first | exact hS0.2.2.2.2.below hb1 hS0.2.2.2.2.lt | exact hS0.2.2.2.2.trans (hb1.mono hS0.2.2.2.2.size) | exact hS0.2.2.2.2.trans (hb1.mono (by have := hS0.2.2.2.2.size; omega)) | exact (hb1.cell (cell_lt hS0.2.2.2.2)).trans hS0.2.2.2.2 | exact hS0.2.2.2.2.below hb1 (Nat.le_refl _) | exact hS0.2.2.2.2.low hb1 | exact hS0.2.2.2.2.below hb1 | exact hS0.2.2.2.2.trans (Only.of hb1))⟩ (fun hS1 => ?_)
      clear hK K
      have hz_1 : Blk (v0.alloc (.cells #[.int .u8 0, .int .u8 0, .int .u8 0, .int .u8 0] 66)) v0.heap.size 66 #[.int .u8 0, .int .u8 0, .int .u8 0, .int .u8 0] := Blk.new _ _ _
      have hgl : w.heap.size < v0.heap.size := cell_lt hS0.1
      have hge_ga := hS0.2.2.2.2.size
      clear hb1 hS0
      generalize v0.alloc (.cells #[.int .u8 0, .int .u8 0, .int .u8 0, .int .u8 0] 66) = v1 at *
      generalize v0.heap.size = ga at *
      simp only [List.getElem_toArray, List.getElem_cons_zero, List.getElem_cons_succ, Act.put, List.setIfInBounds_toArray, List.set_cons_zero, List.set_cons_succ]
      refine wpAnyH_ready (rs := [7]) (by kernel_rfl) (by simp) ?_
      refine AllReadyH.cons rfl (fun K hK => ?_) AllReadyH.nil
      go_simp
      refine (hl2 _).mono ?_
      rintro e w' ⟨rfl, rfl⟩
      (try go_simp)
      refine hK.out _ _ hS1 (fun _ => ?_)
      clear hK K
      simp only [List.getElem_toArray, List.getElem_cons_zero, List.getElem_cons_succ, Act.put, List.setIfInBounds_toArray, List.set_cons_zero, List.set_cons_succ]
      refine wpAnyH_take (i := 8) (v := ?_) rfl (by kernel_rfl) (by kernel_rfl) (by kernel_rfl) (fun _ _ _ h => h) (Or.inl ⟨by rfl, ?_⟩) hS1 ?_
      rotate_left
      · (intro w hSw; (try dsimp only at hSw); go_simp; try with_reducible rfl)
      simp only [List.getElem_toArray, List.getElem_cons_zero, List.getElem_cons_succ, Act.put, List.setIfInBounds_toArray, List.set_cons_zero, List.set_cons_succ]
      refine wpAnyH_ready (rs := [10]) (by kernel_rfl) (by simp) ?_
      refine AllReadyH.cons rfl (fun K hK => ?_) AllReadyH.nil
      rw [if_pos (show Region.wanted _ _ = true from by rfl)]
      refine wp_store_row 66 _ _ rfl ga #[.int .u8 (a.toNat : Int), .int .u8 (p1.toNat : Int), .int .u8 (p2.toNat : Int), .int .u8 46] rfl rfl 66 _ hz_1 (by kernel_rfl) rfl (by kernel_rfl) ?_
      refine hK.out _ _ ⟨(by first | exact below_setRow hS1.1 (by omega) _ | exact hS1.1.setRow_far (by omega) _ | exact (World.cell?_of_block (setRow_block _ _ _ _ (by first | omega | (dsimp only; omega)))).trans hS1.1 | exact hS1.1.only (only_setRow _ _ _) (fun k e => by (have e : k = _ := e); omega)), (by first | exact below_setRow hS1.2.1 (by omega) _ | exact hS1.2.1.setRow_far (by omega) _ | exact (World.cell?_of_block (setRow_block _ _ _ _ (by first | omega | (dsimp only; omega)))).trans hS1.2.1 | exact hS1.2.1.only (only_setRow _ _ _) (fun k e => by (have e : k = _ := e); omega)), (by first | exact below_setRow hS1.2.2.1 (by omega) _ | exact hS1.2.2.1.setRow_far (by omega) _ | exact (World.cell?_of_block (setRow_block _ _ _ _ (by first | omega | (dsimp only; omega)))).trans hS1.2.2.1 | exact hS1.2.2.1.only (only_setRow _ _ _) (fun k e => by (have e : k = _ := e); omega)), (by first | exact below_setRow hS1.2.2.2.1 (by omega) _ | exact hS1.2.2.2.1.setRow_far (by omega) _ | exact (World.cell?_of_block (setRow_block _ _ _ _ (by first | omega | (dsimp only; omega)))).trans hS1.2.2.2.1 | exact hS1.2.2.2.1.only (only_setRow _ _ _) (fun k e => by (have e : k = _ := e); omega)), (by first | exact below_setRow hS1.2.2.2.2 (by omega) _ | exact hS1.2.2.2.2.setRow_far (by omega) _ | exact (World.cell?_of_block (setRow_block _ _ _ _ (by first | omega | (dsimp only; omega)))).trans hS1.2.2.2.2 | exact hS1.2.2.2.2.only (only_setRow _ _ _) (fun k e => by (have e : k = _ := e); omega))⟩ (fun hS2 => ?_)
      clear hK K
      have hz_2 := hz_1.setRow #[.int .u8 (a.toNat : Int), .int .u8 (p1.toNat : Int), .int .u8 (p2.toNat : Int), .int .u8 46]
      clear hS1
      generalize v1.setRow ga #[.int .u8 (a.toNat : Int), .int .u8 (p1.toNat : Int), .int .u8 (p2.toNat : Int), .int .u8 46] = v2 at *
      simp only [List.getElem_toArray, List.getElem_cons_zero, List.getElem_cons_succ, Act.put, List.setIfInBounds_toArray, List.set_cons_zero, List.set_cons_succ]
      refine wpAnyH_done (by kernel_rfl) ?_ _
      have c0 := hS2.1
      have c1 := hS2.2.1
      have c2 := hS2.2.2.1
      have c3 := hS2.2.2.2.1
      have hbX := hS2.2.2.2.2
      clear hS2
      have hz := hz_2
      go_wp2_with fail
      refine Cl.p (hi _) ?_
      have hz3 := hz.cell 3
      have hf3 := hz.frozen 3
      have hgz : w.heap.size ≤ ga := by omega
      cases c
      case false =>
        have hcv := conv4 _ ga a p1 p2 46 66 hz
        go_wp2_with fail
        go_ret
        exact ⟨rfl, hbX⟩
      case true =>
        have hz5 := hz.set_ 3 (.int .u8 33)
        have hcv := conv4 _ ga a p1 p2 33 66 hz5
        go_wp2_with fail
        go_ret
        exact ⟨rfl, hbX.setCell (p := ⟨ga, 3, none⟩) hgz _⟩
    exact AllReadyH.nil
  refine AllReadyH.cons rfl (fun K hK => ?_) ?_
  · -- alloc 9
    go_simp
    have hb1 : Below v0.heap.size v0 (v0.alloc (.cells #[.int .u8 0, .int .u8 0, .int .u8 0, .int .u8 0] 66)) := Bl.alloc (Below.refl _ _) _
    refine hK.out _ _ ⟨(by first | exact hS0.1.below hb1 hS0.1.lt | exact hS0.1.trans (hb1.mono hS0.1.size) | exact hS0.1.trans (hb1.mono (by have := hS0.1.size; omega)) | exact (hb1.cell (cell_lt hS0.1)).trans hS0.1 | exact hS0.1.below hb1 (Nat.le_refl _) | exact hS0.1.low hb1 | exact hS0.1.below hb1 | exact hS0.1.trans (Only.of hb1)), (by first | exact hS0.2.1.below hb1 hS0.2.1.lt | exact hS0.2.1.trans (hb1.mono hS0.2.1.size) | exact hS0.2.1.trans (hb1.mono (by have := hS0.2.1.size; omega)) | exact (hb1.cell (cell_lt hS0.2.1)).trans hS0.2.1 | exact hS0.2.1.below hb1 (Nat.le_refl _) | exact hS0.2.1.low hb1 | exact hS0.2.1.below hb1 | exact hS0.2.1.trans (Only.of hb1)), (by first | exact hS0.2.2.1.below hb1 hS0.2.2.1.lt | exact hS0.2.2.1.trans (hb1.mono hS0.2.2.1.size) | exact hS0.2.2.1.trans (hb1.mono (by have := hS0.2.2.1.size; omega)) | exact (hb1.cell (cell_lt hS0.2.2.1)).trans hS0.2.2.1 | exact hS0.2.2.1.below hb1 (Nat.le_refl _) | exact hS0.2.2.1.low hb1 | exact hS0.2.2.1.below hb1 | exact hS0.2.2.1.trans (Only.of hb1)), (by first | exact hS0.2.2.2.1.below hb1 hS0.2.2.2.1.lt | exact hS0.2.2.2.1.trans (hb1.mono hS0.2.2.2.1.size) | exact hS0.2.2.2.1.trans (hb1.mono (by have := hS0.2.2.2.1.size; omega)) | exact (hb1.cell (cell_lt hS0.2.2.2.1)).trans hS0.2.2.2.1 | exact hS0.2.2.2.1.below hb1 (Nat.le_refl _) | exact hS0.2.2.2.1.low hb1 | exact hS0.2.2.2.1.below hb1 | exact hS0.2.2.2.1.trans (Only.of hb1)), (by first | exact hS0.2.2.2.2.below hb1 hS0.2.2.2.2.lt | exact hS0.2.2.2.2.trans (hb1.mono hS0.2.2.2.2.size) | exact hS0.2.2.2.2.trans (hb1.mono (by have := hS0.2.2.2.2.size; omega)) | exact (hb1.cell (cell_lt hS0.2.2.2.2)).trans hS0.2.2.2.2 | exact hS0.2.2.2.2.below hb1 (Nat.le_refl _) | exact hS0.2.2.2.2.low hb1 | exact hS0.2.2.2.2.below hb1 | exact hS0.2.2.2.2.trans (Only.of hb1))⟩ (fun hS1 => ?_)
    clear hK K
    have hz_1 : Blk (v0.alloc (.cells #[.int .u8 0, .int .u8 0, .int .u8 0, .int .u8 0] 66)) v0.heap.size 66 #[.int .u8 0, .int .u8 0, .int .u8 0, .int .u8 0] := Blk.new _ _ _
    have hgl : w.heap.size < v0.heap.size := cell_lt hS0.1
    have hge_ga := hS0.2.2.2.2.size
    clear hb1 hS0
    generalize v0.alloc (.cells #[.int .u8 0, .int .u8 0, .int .u8 0, .int .u8 0] 66) = v1 at *
    generalize v0.heap.size = ga at *
    simp only [List.getElem_toArray, List.getElem_cons_zero, List.getElem_cons_succ, Act.put, List.setIfInBounds_toArray, List.set_cons_zero, List.set_cons_succ]
    refine wpAnyH_ready (rs := [4]) (by kernel_rfl) (by simp) ?_
    refine AllReadyH.cons rfl (fun K hK => ?_) AllReadyH.nil
    go_simp
    refine (hl1 _).mono ?_
    rintro e w' ⟨rfl, rfl⟩
    (try go_simp)
    refine hK.out _ _ hS1 (fun _ => ?_)
    clear hK K
    simp only [List.getElem_toArray, List.getElem_cons_zero, List.getElem_cons_succ, Act.put, List.setIfInBounds_toArray, List.set_cons_zero, List.set_cons_succ]
    refine wpAnyH_ready (rs := [7]) (by kernel_rfl) (by simp) ?_
    refine AllReadyH.cons rfl (fun K hK => ?_) AllReadyH.nil
    go_simp
    refine (hl2 _).mono ?_
    rintro e w' ⟨rfl, rfl⟩
    (try go_simp)
    refine hK.out _ _ hS1 (fun _ => ?_)
    clear hK K
    simp only [List.getElem_toArray, List.getElem_cons_zero, List.getElem_cons_succ, Act.put, List.setIfInBounds_toArray, List.set_cons_zero, List.set_cons_succ]
    refine wpAnyH_take (i := 8) (v := ?_) rfl (by kernel_rfl) (by kernel_rfl) (by kernel_rfl) (fun _ _ _ h => h) (Or.inl ⟨by rfl, ?_⟩) hS1 ?_
    rotate_left
    · (intro w hSw; (try dsimp only at hSw); go_simp; try with_reducible rfl)
    simp only [List.getElem_toArray, List.getElem_cons_zero, List.getElem_cons_succ, Act.put, List.setIfInBounds_toArray, List.set_cons_zero, List.set_cons_succ]
    refine wpAnyH_ready (rs := [10]) (by kernel_rfl) (by simp) ?_
    refine AllReadyH.cons rfl (fun K hK => ?_) AllReadyH.nil
    rw [if_pos (show Region.wanted _ _ = true from by rfl)]
    refine wp_store_row 66 _ _ rfl ga #[.int .u8 (a.toNat : Int), .int .u8 (p1.toNat : Int), .int .u8 (p2.toNat : Int), .int .u8 46] rfl rfl 66 _ hz_1 (by kernel_rfl) rfl (by kernel_rfl) ?_
    refine hK.out _ _ ⟨(by first | exact below_setRow hS1.1 (by omega) _ | exact hS1.1.setRow_far (by omega) _ | exact (World.cell?_of_block (setRow_block _ _ _ _ (by first | omega | (dsimp only; omega)))).trans hS1.1 | exact hS1.1.only (only_setRow _ _ _) (fun k e => by (have e : k = _ := e); omega)), (by first | exact below_setRow hS1.2.1 (by omega) _ | exact hS1.2.1.setRow_far (by omega) _ | exact (World.cell?_of_block (setRow_block _ _ _ _ (by first | omega | (dsimp only; omega)))).trans hS1.2.1 | exact hS1.2.1.only (only_setRow _ _ _) (fun k e => by (have e : k = _ := e); omega)), (by first | exact below_setRow hS1.2.2.1 (by omega) _ | exact hS1.2.2.1.setRow_far (by omega) _ | exact (World.cell?_of_block (setRow_block _ _ _ _ (by first | omega | (dsimp only; omega)))).trans hS1.2.2.1 | exact hS1.2.2.1.only (only_setRow _ _ _) (fun k e => by (have e : k = _ := e); omega)), (by first | exact below_setRow hS1.2.2.2.1 (by omega) _ | exact hS1.2.2.2.1.setRow_far (by omega) _ | exact (World.cell?_of_block (setRow_block _ _ _ _ (by first | omega | (dsimp only; omega)))).trans hS1.2.2.2.1 | exact hS1.2.2.2.1.only (only_setRow _ _ _) (fun k e => by (have e : k = _ := e); omega)), (by first | exact below_setRow hS1.2.2.2.2 (by omega) _ | exact hS1.2.2.2.2.setRow_far (by omega) _ | exact (World.cell?_of_block (setRow_block _ _ _ _ (by first | omega | (dsimp only; omega)))).trans hS1.2.2.2.2 | exact hS1.2.2.2.2.only (only_setRow _ _ _) (fun k e => by (have e : k = _ := e); omega))⟩ (fun hS2 => ?_)
    clear hK K
    have hz_2 := hz_1.setRow #[.int .u8 (a.toNat : Int), .int .u8 (p1.toNat : Int), .int .u8 (p2.toNat : Int), .int .u8 46]
    clear hS1
    generalize v1.setRow ga #[.int .u8 (a.toNat : Int), .int .u8 (p1.toNat : Int), .int .u8 (p2.toNat : Int), .int .u8 46] = v2 at *
    simp only [List.getElem_toArray, List.getElem_cons_zero, List.getElem_cons_succ, Act.put, List.setIfInBounds_toArray, List.set_cons_zero, List.set_cons_succ]
    refine wpAnyH_done (by kernel_rfl) ?_ _
    have c0 := hS2.1
    have c1 := hS2.2.1
    have c2 := hS2.2.2.1
    have c3 := hS2.2.2.2.1
    have hbX := hS2.2.2.2.2
    clear hS2
    have hz := hz_2
    go_wp2_with fail
    refine Cl.p (hi _) ?_
    have hz3 := hz.cell 3
    have hf3 := hz.frozen 3
    have hgz : w.heap.size ≤ ga := by omega
    cases c
    case false =>
      have hcv := conv4 _ ga a p1 p2 46 66 hz
      go_wp2_with fail
      go_ret
      exact ⟨rfl, hbX⟩
    case true =>
      have hz5 := hz.set_ 3 (.int .u8 33)
      have hcv := conv4 _ ga a p1 p2 33 66 hz5
      go_wp2_with fail
      go_ret
      exact ⟨rfl, hbX.setCell (p := ⟨ga, 3, none⟩) hgz _⟩
  exact AllReadyH.nil
end Go.Proofs.YtodimiffmmkndaaDoor
