/-
  gannetlaw25: StateSets.
-/
import Derived.Test.YtelmkpcocaogjaaDoorSta21
import Derived.Test.YtelmkpcocaogjaaDoorSta10
import Derived.Test.YtelmkpcocaogjaaDoorRgn
import Derived.Test.YtelmkpcocaogjaaDoorOpst
import Derived.Test.YtelmkpcocaogjaaDoorOpenA
namespace Go.Proofs.YtelmkpcocaogjaaDoor
set_option linter.unusedSimpArgs false
set_option linter.unusedVariables false
open Go.RowKit Pl
/-- What Set gives: of a name (its place, 16: none) and a value. -/
def SetsTo (R : Nat → Nat) (ix v : Nat) (Q : Nat → Nat) (k : Nat) : Prop :=
  (ix = 16 ∧ Q = (fun _ => 0) ∧ k = 10) ∨ (ix < 16 ∧ most ix < v ∧ Q = (fun _ => 0) ∧ k = 1) ∨ (ix < 16 ∧ v ≤ most ix ∧ Q = updN R ix v ∧ k = 0)
theorem ba_ext {a b : ByteArray} (h : a.toList = b.toList) : a = b := by
  rw [ByteArray.toList_eq, ByteArray.toList_eq] at h
  exact ByteArray.ext (Array.ext' h)
theorem nm_at (s : ByteArray) : ∃ ix, ix ≤ 16 ∧ (∀ j, j < 16 → ((nmB j).toList == s.toList) = decide (j = ix)) ∧ (ix < 16 → s = nmB ix) ∧ (ix = 16 → ∀ i, i < 16 → nmB i ≠ s) := by
  by_cases h : ∃ i, i < 16 ∧ nmB i = s
  · obtain ⟨i, hi, rfl⟩ := h
    refine ⟨i, by omega, fun j hj => ?_, fun _ => rfl, fun h => by omega⟩
    by_cases e : j = i
    · subst e
      rw [beq_self_eq_true]
      simp
    · rw [decide_eq_false e, beq_eq_false_iff_ne]
      exact fun h => e (nmB_inj hj hi (ba_ext h))
  · refine ⟨16, by omega, fun j hj => ?_, fun h => by omega, fun _ i hi e => h ⟨i, hi, e⟩⟩
    rw [decide_eq_false (by omega), beq_eq_false_iff_ne]
    exact fun e => h ⟨j, hj, ba_ext e⟩
theorem set_any (R : Nat → Nat) (s : ByteArray) (ix v : Nat) (hR : ROk R) (hv : v < 65536) (hix : ix ≤ 16) (h1 : ix < 16 → s = nmB ix) (h2 : ix = 16 → ∀ i, i < 16 → nmB i ≠ s) :
    ∃ (Q : Nat → Nat) (k : Nat), SetsTo R ix v Q k ∧ ROk Q ∧ k < 100 ∧ ∀ W, Calls Tryd.prog 17 #[.agg (stA R), .string s, .int .u16 (v : Int)] W fun e w' => e = .returned (.tuple #[.agg (stA Q), .int .i64 (k : Int)]) ∧ Below W.heap.size W w' := by
  by_cases hi : ix < 16
  · have e := h1 hi
    subst e
    by_cases hm : v ≤ most ix
    · exact ⟨updN R ix v, 0, .inr (.inr ⟨hi, hm, rfl, rfl⟩), updN_ok hR hm, by omega, fun W => stSet_ok R ix v W hR hi hm⟩
    · exact ⟨fun _ => 0, 1, .inr (.inl ⟨hi, by omega, rfl, rfl⟩), zok, by omega, fun W => stSet_big R ix v W hi (by omega) hv⟩
  · have e : ix = 16 := by omega
    exact ⟨fun _ => 0, 10, .inl ⟨e, rfl, rfl⟩, zok, by omega, fun W => stSet_no R s v W (h2 e)⟩
theorem zst_cells {w : World} {g : Nat} (h : Blk w g 25 (stA fun _ => 0)) : (w.cell? ⟨g, 0, none⟩ = some (.int .u8 0) ∧ w.cell? ⟨g, 1, none⟩ = some (.int .u8 0) ∧ w.cell? ⟨g, 2, none⟩ = some (.int .u8 0) ∧ w.cell? ⟨g, 3, none⟩ = some (.int .u8 0)) ∧ (w.cell? ⟨g, 4, none⟩ = some (.int .u8 0) ∧ w.cell? ⟨g, 5, none⟩ = some (.int .u16 0) ∧ w.cell? ⟨g, 6, none⟩ = some (.int .u8 0) ∧ w.cell? ⟨g, 7, none⟩ = some (.int .u8 0)) ∧ (w.cell? ⟨g, 8, none⟩ = some (.int .u8 0) ∧ w.cell? ⟨g, 9, none⟩ = some (.int .u8 0) ∧ w.cell? ⟨g, 10, none⟩ = some (.int .u8 0) ∧ w.cell? ⟨g, 11, none⟩ = some (.int .u8 0)) ∧ (w.cell? ⟨g, 12, none⟩ = some (.int .u8 0) ∧ w.cell? ⟨g, 13, none⟩ = some (.int .u8 0) ∧ w.cell? ⟨g, 14, none⟩ = some (.int .u8 0) ∧ w.cell? ⟨g, 15, none⟩ = some (.bool false)) :=
  ⟨⟨h.cell 0, h.cell 1, h.cell 2, h.cell 3⟩, ⟨h.cell 4, h.cell 5, h.cell 6, h.cell 7⟩, ⟨h.cell 8, h.cell 9, h.cell 10, h.cell 11⟩, h.cell 12, h.cell 13, h.cell 14, h.cell 15⟩
set_option maxRecDepth 100000 in
set_option maxHeartbeats 8000000 in
theorem stateSets_calls (R : Nat → Nat) (name : ByteArray) (v : Nat) (M : Int) (w : World) (hR : ROk R) (hv : v < 65536)
    (hM : w.cell? ⟨0, 0, none⟩ = some (.int .i64 M)) :
    Calls Tryd.prog 5 #[.agg (stA R), .string name, .int .u16 (v : Int)] w fun e w' => e = .returned (.bool true) ∧ Below w.heap.size w w' := by
  obtain ⟨ix, hix, hnm, h1, h2⟩ := nm_at name
  obtain ⟨Q, kk, hQ, hQok, hkk, hset⟩ := set_any R name ix v hR hv hix h1 h2
  clear h1 h2
  have hself2 : ∀ W, (binOp .eql 25 (.agg #[.int .u8 0, .int .u8 0, .int .u8 0, .int .u8 0, .int .u8 0, .int .u16 0, .int .u8 0, .int .u8 0, .int .u8 0, .int .u8 0, .int .u8 0, .int .u8 0, .int .u8 0, .int .u8 0, .int .u8 0, .bool false]) (.agg #[.int .u8 0, .int .u8 0, .int .u8 0, .int .u8 0, .int .u8 0, .int .u16 0, .int .u8 0, .int .u8 0, .int .u8 0, .int .u8 0, .int .u8 0, .int .u8 0, .int .u8 0, .int .u8 0, .int .u8 0, .bool false])).run Tryd.prog W = .ok (.bool true) W := fun W => run_eql_state (fun _ => 0) W
  have hs1 : Blk (w.alloc (.cells (stA R) 25)) w.heap.size 25 (stA R) := Blk.new _ _ _
  have hb01 : Below w.heap.size w (w.alloc (.cells (stA R) 25)) := Bl.alloc (Below.refl _ _) _
  have hM1 := (hb01.cell (p := ⟨0, 0, none⟩) (cell_lt hM)).trans hM
  clear hM
  go_enter Tryd.func5, Tryd.ntmps5
  go_wp2_with fail
  obtain ⟨gs, hgs⟩ : ∃ x, w.heap.size = x := ⟨_, rfl⟩
  rw [hgs] at hs1 ⊢
  have HG := hide hgs
  clear hgs
  generalize w.alloc (.cells (stA R) 25) = w1 at *
  refine Cl.m (live25_calls M _ hM1) ?_
  intro w2 hb2
  have hs2 := hs1.below hb2 hs1.lt
  have hb02 := hb01.trans (hb2.mono hb01.size)
  clear hs1 hM1 hb01 hb2
  go_wp2_with (refine wpList_load_row rfl 25 _ rfl gs rfl _ (stA R) (0, 0) _ hs2 Tryd.underlying25 rfl (by kernel_rfl) ?_)
  refine Cl.m (hset _) ?_
  intro w3 hb3
  have hs3 := hs2.below hb3 hs2.lt
  have hb03 := hb02.trans (hb3.mono hb02.size)
  clear hs2 hb02 hb3 hset
  have hz : Blk (w3.alloc (.cells zst 25)) w3.heap.size 25 zst := Blk.new _ _ _
  have hx4 : Blk (w3.alloc (.cells (stA Q) 25)) w3.heap.size 25 (stA Q) := Blk.new _ _ _
  have hs4 : Blk (w3.alloc (.cells (stA Q) 25)) gs 25 (stA R) := hs3.alloc _
  have hb04 := Bl.alloc hb03 (.cells (stA Q) 25)
  go_wp2_with (refine wpList_store_row rfl 25 _ _ rfl w3.heap.size _ rfl rfl 25 _ hz (by kernel_rfl) rfl (by kernel_rfl) ?_; rw [setRow_new])
  clear hz hs3 hb03
  generalize w3.alloc (.cells (stA Q) 25) = w4 at *
  generalize w3.heap.size = gx at *
  refine wp_region_held_drew (S := fun W => Blk W gs 25 (stA R) ∧ Blk W gx 25 (stA Q) ∧ Below w.heap.size w W) (by kernel_rfl) ⟨(by first | exact hs4.drew | exact hs4 | exact Below.drew hs4), (by first | exact hx4.drew | exact hx4 | exact Below.drew hx4), (by first | exact hb04.drew | exact hb04 | exact Below.drew hb04)⟩ (fun hS0 => ?_)
  clear hs4 hx4 hb04
  change wpAnyH _ _ _ _ _ 5 #[false, false, false, false, false] _ _
  generalize w4.drew = v0 at *
  refine wpAnyH_take (i := 1) (v := .agg (stA R)) rfl (by kernel_rfl) (by kernel_rfl) (by kernel_rfl) (fun _ _ _ h => h) (YieldsIf.row_w (by rfl) 25 _ rfl gs rfl _ _ _ (fun _ h => h.1) Tryd.underlying25 rfl (by kernel_rfl)) hS0 ?_
  simp only [List.getElem_toArray, List.getElem_cons_zero, List.getElem_cons_succ, Act.put, List.setIfInBounds_toArray, List.set_cons_zero, List.set_cons_succ]
  refine wpAnyH_ready (rs := [0]) (by kernel_rfl) (by simp) ?_
  refine AllReadyH.cons rfl (fun K hK => ?_) AllReadyH.nil
  go_simp
  refine (rNames_calls _).mono ?_
  rintro e v1 ⟨gn, rfl, hBn, hb1⟩
  (try go_simp)
  refine hK.out _ _ ⟨(by first | exact hS0.1.below hb1 hS0.1.lt | exact hS0.1.trans (hb1.mono hS0.1.size) | exact (hb1.cell (cell_lt hS0.1)).trans hS0.1 | exact hS0.1.below hb1 (Nat.le_refl _) | exact hS0.1.below hb1), (by first | exact hS0.2.1.below hb1 hS0.2.1.lt | exact hS0.2.1.trans (hb1.mono hS0.2.1.size) | exact (hb1.cell (cell_lt hS0.2.1)).trans hS0.2.1 | exact hS0.2.1.below hb1 (Nat.le_refl _) | exact hS0.2.1.below hb1), (by first | exact hS0.2.2.below hb1 hS0.2.2.lt | exact hS0.2.2.trans (hb1.mono hS0.2.2.size) | exact (hb1.cell (cell_lt hS0.2.2)).trans hS0.2.2 | exact hS0.2.2.below hb1 (Nat.le_refl _) | exact hS0.2.2.below hb1)⟩ (fun hS1 => ?_)
  clear hK K
  have hT : Blk v1 gs 25 (stA R) ∧ Blk v1 gx 25 (stA Q) ∧ Below w.heap.size w v1 ∧ Blk v1 gn 9 nmA := ⟨hS1.1, hS1.2.1, hS1.2.2, hBn⟩
  refine wpAnyH_mono (S' := fun W => Blk W gs 25 (stA R) ∧ Blk W gx 25 (stA Q) ∧ Below w.heap.size w W ∧ Blk W gn 9 nmA) (fun _ h => ⟨h.1, h.2.1, h.2.2.1⟩) ?_
  clear hS1
  have hS1 := hT
  clear hT
  clear hb1 hS0
  simp only [List.getElem_toArray, List.getElem_cons_zero, List.getElem_cons_succ, Act.put, List.setIfInBounds_toArray, List.set_cons_zero, List.set_cons_succ]
  refine wpAnyH_ready (rs := [2]) (by kernel_rfl) (by simp) ?_
  refine AllReadyH.cons rfl (fun K hK => ?_) AllReadyH.nil
  go_simp
  refine (rAll_calls R _ hR).mono ?_
  rintro e v2 ⟨va, rfl, hown, hb2⟩
  obtain ⟨gl, cl, cur, rfl, _, hBl, _, hcs⟩ := own1_row hown (by decide)
  (try go_simp)
  refine hK.out _ _ ⟨(by first | exact hS1.1.below hb2 hS1.1.lt | exact hS1.1.trans (hb2.mono hS1.1.size) | exact (hb2.cell (cell_lt hS1.1)).trans hS1.1 | exact hS1.1.below hb2 (Nat.le_refl _) | exact hS1.1.below hb2), (by first | exact hS1.2.1.below hb2 hS1.2.1.lt | exact hS1.2.1.trans (hb2.mono hS1.2.1.size) | exact (hb2.cell (cell_lt hS1.2.1)).trans hS1.2.1 | exact hS1.2.1.below hb2 (Nat.le_refl _) | exact hS1.2.1.below hb2), (by first | exact hS1.2.2.1.below hb2 hS1.2.2.1.lt | exact hS1.2.2.1.trans (hb2.mono hS1.2.2.1.size) | exact (hb2.cell (cell_lt hS1.2.2.1)).trans hS1.2.2.1 | exact hS1.2.2.1.below hb2 (Nat.le_refl _) | exact hS1.2.2.1.below hb2), (by first | exact hS1.2.2.2.below hb2 hS1.2.2.2.lt | exact hS1.2.2.2.trans (hb2.mono hS1.2.2.2.size) | exact (hb2.cell (cell_lt hS1.2.2.2)).trans hS1.2.2.2 | exact hS1.2.2.2.below hb2 (Nat.le_refl _) | exact hS1.2.2.2.below hb2)⟩ (fun hS2 => ?_)
  clear hK K
  have hT : Blk v2 gs 25 (stA R) ∧ Blk v2 gx 25 (stA Q) ∧ Below w.heap.size w v2 ∧ Blk v2 gn 9 nmA ∧ Blk v2 gl 22 cur := ⟨hS2.1, hS2.2.1, hS2.2.2.1, hS2.2.2.2, hBl⟩
  refine wpAnyH_mono (S' := fun W => Blk W gs 25 (stA R) ∧ Blk W gx 25 (stA Q) ∧ Below w.heap.size w W ∧ Blk W gn 9 nmA ∧ Blk W gl 22 cur) (fun _ h => ⟨h.1, h.2.1, h.2.2.1, h.2.2.2.1⟩) ?_
  clear hS2
  have hS2 := hT
  clear hT
  clear hb2 hS1
  simp only [List.getElem_toArray, List.getElem_cons_zero, List.getElem_cons_succ, Act.put, List.setIfInBounds_toArray, List.set_cons_zero, List.set_cons_succ]
  refine wpAnyH_take (i := 3) (v := ?_) rfl (by kernel_rfl) (by kernel_rfl) (by kernel_rfl) (fun _ _ _ h => h) (Or.inl ⟨by rfl, ?_⟩) hS2 ?_
  rotate_left
  · (intro w hSw; (try dsimp only at hSw); go_simp; try with_reducible rfl)
  simp only [List.getElem_toArray, List.getElem_cons_zero, List.getElem_cons_succ, Act.put, List.setIfInBounds_toArray, List.set_cons_zero, List.set_cons_succ]
  refine wpAnyH_take (i := 4) (v := ?_) rfl (by kernel_rfl) (by kernel_rfl) (by kernel_rfl) (fun _ _ _ h => h) (Or.inl ⟨by rfl, ?_⟩) hS2 ?_
  rotate_left
  · (intro w hSw; (try dsimp only at hSw); go_simp; try with_reducible rfl)
  simp only [List.getElem_toArray, List.getElem_cons_zero, List.getElem_cons_succ, Act.put, List.setIfInBounds_toArray, List.set_cons_zero, List.set_cons_succ]
  refine wpAnyH_done (by kernel_rfl) ?_ _
  have hs4 := hS2.1
  have hx4 := hS2.2.1
  have hb04 := hS2.2.2.1
  have hn := hS2.2.2.2.1
  have hl := hS2.2.2.2.2
  clear hS2
  clear hBn hBl hown
  generalize v2 = w5 at *
  go_wp2_with fail
  go_loop [11, 12] (fun a i => ∃ (k : Nat) (z : Int), k ≤ 16 ∧ i = .int .i64 (k : Int) ∧ a = .int .i64 z ∧ (ix < k → z = (ix : Int)) ∧ (k ≤ ix → z = -1)) (fun _ i => 16 - (intOf i).toNat)
  case atStart => exact ⟨0, -1, Nat.zero_le _, rfl, rfl, fun h => by omega, fun _ => rfl⟩
  case round =>
    obtain ⟨k, z, hk, rfl, rfl, hz1, hz2⟩ := hrel
    by_cases hlt : k < 16
    · have hlt' : (k : Int) < 16 := by omega
      have hc : w5.cell? ⟨gn, k, none⟩ = some (.string (nmB k)) := (hn.cell k).trans (arr_get 16 _ k hlt)
      have hq := hnm k hlt
      by_cases e : k = ix
      · have hq' : ((nmB k).toList == name.toList) = true := by rw [hq, decide_eq_true e]
        have HZ : Hid ((ix < k + 1 → (k : Int) = (ix : Int)) ∧ (k + 1 ≤ ix → (k : Int) = -1)) := ⟨fun _ => by omega, fun h => by omega⟩
        clear hq e hz1 hz2 hs4 hx4 hn hl hb04 hnm hcs
        go_wp2_with fail
        go_round
        case rel => exact ⟨k + 1, (k : Int), by omega, by go_num, rfl, HZ.out.1, HZ.out.2⟩
        case measure => simp [intOf]; omega
      · have hq' : ((nmB k).toList == name.toList) = false := by rw [hq, decide_eq_false e]
        have HZ : Hid ((ix < k + 1 → z = (ix : Int)) ∧ (k + 1 ≤ ix → z = -1)) := ⟨fun _ => hz1 (by omega), fun h => hz2 (by omega)⟩
        clear hq e hz1 hz2 hs4 hx4 hn hl hb04 hnm hcs
        go_wp2_with fail
        go_round
        case rel => exact ⟨k + 1, z, by omega, by go_num, rfl, HZ.out.1, HZ.out.2⟩
        case measure => simp [intOf]; omega
    · obtain rfl : k = 16 := by omega
      clear hnm hlt hk hs4 hn
      rcases hQ with ⟨rfl, rfl, rfl⟩ | ⟨hi, hm, rfl, rfl⟩ | ⟨hi, hm, rfl, rfl⟩
      · obtain rfl : z = -1 := hz2 (by omega)
        obtain ⟨⟨y0, y1, y2, y3⟩, ⟨y4, y5, y6, y7⟩, ⟨y8, y9, y10, y11⟩, y12, y13, y14, y15⟩ := zst_cells hx4
        clear hz1 hz2 hx4 hl hcs
        go_wp2_with fail
        go_ret
        exact ⟨rfl, hb04⟩
      · obtain rfl : z = (ix : Int) := hz1 (by omega)
        obtain ⟨⟨y0, y1, y2, y3⟩, ⟨y4, y5, y6, y7⟩, ⟨y8, y9, y10, y11⟩, y12, y13, y14, y15⟩ := zst_cells hx4
        clear hz1 hz2 hx4 hl hcs
        have n0 : (decide ((ix : Int) < 0)) = false := by rw [decide_eq_false_iff_not]; omega
        have hne : ix ≠ 5 := fun e => by subst e; unfold most at hm; simp at hm; omega
        have n1 : ((ix : Int) != 5) = true := by rw [bne_iff_ne]; omega
        by_cases hv2 : 255 < v
        · have n2 : (255 : Int) < (v : Int) := by omega
          clear hne hm
          go_wp2_with fail
          go_ret
          exact ⟨rfl, hb04⟩
        · have e15 : ix = 15 := by
            unfold most at hm
            rw [if_neg hne] at hm
            split at hm
            · assumption
            · omega
          subst e15
          have hv1 : 1 < v := hm
          have n2 : (decide ((255 : Int) < (v : Int))) = false := by rw [decide_eq_false_iff_not]; omega
          have n3 : (1 : Int) < (v : Int) := by omega
          clear hne hm n0 n1 hv1 hv2
          go_wp2_with fail
          go_ret
          exact ⟨rfl, hb04⟩
      · obtain rfl : z = (ix : Int) := hz1 (by omega)
        clear hz1 hz2
        have n0 : (decide ((ix : Int) < 0)) = false := by rw [decide_eq_false_iff_not]; omega
        have hall := rAll_calls (updN R ix v) w5 hQok
        have hcase : ix = 5 ∨ (ix = 15 ∧ v ≤ 1) ∨ (ix ≠ 5 ∧ ix ≠ 15 ∧ v ≤ 255) := by
          unfold most at hm
          by_cases h5 : ix = 5
          · exact .inl h5
          · rw [if_neg h5] at hm
            by_cases h15 : ix = 15
            · rw [if_pos h15] at hm; exact .inr (.inl ⟨h15, hm⟩)
            · rw [if_neg h15] at hm; exact .inr (.inr ⟨h5, h15, hm⟩)
        have hcs' : ∀ j, j < 16 → cur[j]? = some (.int .u16 (R j : Int)) := fun j hj => hcs j _ (wdL_get R 16 j hj)
        clear hcs
        have HC := hide hcs'
        clear hcs' hm
        obtain ⟨t, ht⟩ : ∃ t : Nat → Nat, t = updN R ix v := ⟨_, rfl⟩
        have HT := hide ht
        rw [← ht] at hall hx4 hQok
        clear ht
        rcases hcase with rfl | ⟨rfl, hv1⟩ | ⟨h5, h15, hv1⟩
        rotate_left
        · have n2 : (decide ((255 : Int) < (v : Int))) = false := by rw [decide_eq_false_iff_not]; omega
          have n3 : (decide ((1 : Int) < (v : Int))) = false := by rw [decide_eq_false_iff_not]; omega
          go_wp2_with (refine wpList_load_row rfl 25 _ rfl gx rfl _ (stA t) (0, 0) _ hx4 Tryd.underlying25 rfl (by kernel_rfl) ?_)
          clear n2 n3
          refine hall.mono ?_
          rintro e w6 ⟨vb, rfl, hown, hb6⟩
          obtain ⟨gm, cm, cur2, rfl, _, hm6, _, hcs2⟩ := own1_row hown (by decide)
          have hl6 := hl.below hb6 hl.lt
          have hb06 := hb04.trans (hb6.mono hb04.size)
          have HM : Hid (∀ j, j < 16 → cur2[j]? = some (.int .u16 (t j : Int))) := fun j hj => hcs2 j _ (wdL_get t 16 j hj)
          clear hown hcs2 hx4 hl hb04 hb6 hQok
          go_wp2_with fail
          go_loop [14, 15] (fun i _ => ∃ k : Nat, k ≤ 16 ∧ i = .int .i64 (k : Int)) (fun i _ => 16 - (intOf i).toNat)
          case atStart => exact ⟨0, Nat.zero_le _, rfl⟩
          case round =>
            obtain ⟨k, hk, rfl⟩ := hrel
            by_cases hlt : k < 16
            · have hlt' : (k : Int) < 16 := by omega
              have c1 : w6.cell? ⟨gl, k, none⟩ = some (.int .u16 (R k : Int)) := (hl6.cell k).trans (HC.out k hlt)
              have c2 : w6.cell? ⟨gm, k, none⟩ = some (.int .u16 (t k : Int)) := (hm6.cell k).trans (HM.out k hlt)
              by_cases e : k = 15
              · have htk : t k = v := by
                  rw [HT.out]
                  unfold updN
                  exact if_pos e
                rw [htk] at c2
                have n1 : ((k : Int) == (15 : Int)) = true := by rw [beq_iff_eq]; omega
                have n2 : ((v : Int) != (v : Int)) = false := bne_self_eq_false _
                clear e htk hl6 hm6
                go_wp2_with fail
                go_round
                case rel => exact ⟨k + 1, by omega, by go_num⟩
                case measure => simp [intOf]; omega
              · have htk : t k = R k := by
                  rw [HT.out]
                  unfold updN
                  exact if_neg e
                rw [htk] at c2
                obtain ⟨rk, hrk⟩ : ∃ x, R k = x := ⟨_, rfl⟩
                rw [hrk] at c1 c2
                have n1 : ((k : Int) == (15 : Int)) = false := by rw [beq_eq_false_iff_ne]; omega
                have n2 : ((rk : Int) != (rk : Int)) = false := bne_self_eq_false _
                clear e htk hrk hl6 hm6
                go_wp2_with fail
                go_round
                case rel => exact ⟨k + 1, by omega, by go_num⟩
                case measure => simp [intOf]; omega
            · obtain rfl : k = 16 := by omega
              clear hl6 hm6
              go_wp2_with fail
              go_ret
              exact ⟨rfl, hb06⟩
        · have n1 : ((ix : Int) != 5) = true := by rw [bne_iff_ne]; omega
          have n2 : (decide ((255 : Int) < (v : Int))) = false := by rw [decide_eq_false_iff_not]; omega
          have n3 : ((ix : Int) == 15) = false := by rw [beq_eq_false_iff_ne]; omega
          go_wp2_with (refine wpList_load_row rfl 25 _ rfl gx rfl _ (stA t) (0, 0) _ hx4 Tryd.underlying25 rfl (by kernel_rfl) ?_)
          clear n1 n2 n3 h5 h15
          refine hall.mono ?_
          rintro e w6 ⟨vb, rfl, hown, hb6⟩
          obtain ⟨gm, cm, cur2, rfl, _, hm6, _, hcs2⟩ := own1_row hown (by decide)
          have hl6 := hl.below hb6 hl.lt
          have hb06 := hb04.trans (hb6.mono hb04.size)
          have HM : Hid (∀ j, j < 16 → cur2[j]? = some (.int .u16 (t j : Int))) := fun j hj => hcs2 j _ (wdL_get t 16 j hj)
          clear hown hcs2 hx4 hl hb04 hb6 hQok
          go_wp2_with fail
          go_loop [14, 15] (fun i _ => ∃ k : Nat, k ≤ 16 ∧ i = .int .i64 (k : Int)) (fun i _ => 16 - (intOf i).toNat)
          case atStart => exact ⟨0, Nat.zero_le _, rfl⟩
          case round =>
            obtain ⟨k, hk, rfl⟩ := hrel
            by_cases hlt : k < 16
            · have hlt' : (k : Int) < 16 := by omega
              have c1 : w6.cell? ⟨gl, k, none⟩ = some (.int .u16 (R k : Int)) := (hl6.cell k).trans (HC.out k hlt)
              have c2 : w6.cell? ⟨gm, k, none⟩ = some (.int .u16 (t k : Int)) := (hm6.cell k).trans (HM.out k hlt)
              by_cases e : k = ix
              · have htk : t k = v := by
                  rw [HT.out]
                  unfold updN
                  exact if_pos e
                rw [htk] at c2
                have n1 : ((k : Int) == (ix : Int)) = true := by rw [beq_iff_eq]; omega
                have n2 : ((v : Int) != (v : Int)) = false := bne_self_eq_false _
                clear e htk hl6 hm6
                go_wp2_with fail
                go_round
                case rel => exact ⟨k + 1, by omega, by go_num⟩
                case measure => simp [intOf]; omega
              · have htk : t k = R k := by
                  rw [HT.out]
                  unfold updN
                  exact if_neg e
                rw [htk] at c2
                obtain ⟨rk, hrk⟩ : ∃ x, R k = x := ⟨_, rfl⟩
                rw [hrk] at c1 c2
                have n1 : ((k : Int) == (ix : Int)) = false := by rw [beq_eq_false_iff_ne]; omega
                have n2 : ((rk : Int) != (rk : Int)) = false := bne_self_eq_false _
                clear e htk hrk hl6 hm6
                go_wp2_with fail
                go_round
                case rel => exact ⟨k + 1, by omega, by go_num⟩
                case measure => simp [intOf]; omega
            · obtain rfl : k = 16 := by omega
              clear hl6 hm6
              go_wp2_with fail
              go_ret
              exact ⟨rfl, hb06⟩
        · clear n0
          go_wp2_with (refine wpList_load_row rfl 25 _ rfl gx rfl _ (stA t) (0, 0) _ hx4 Tryd.underlying25 rfl (by kernel_rfl) ?_)
          refine hall.mono ?_
          rintro e w6 ⟨vb, rfl, hown, hb6⟩
          obtain ⟨gm, cm, cur2, rfl, _, hm6, _, hcs2⟩ := own1_row hown (by decide)
          have hl6 := hl.below hb6 hl.lt
          have hb06 := hb04.trans (hb6.mono hb04.size)
          have HM : Hid (∀ j, j < 16 → cur2[j]? = some (.int .u16 (t j : Int))) := fun j hj => hcs2 j _ (wdL_get t 16 j hj)
          clear hown hcs2 hx4 hl hb04 hb6 hQok
          go_wp2_with fail
          go_loop [14, 15] (fun i _ => ∃ k : Nat, k ≤ 16 ∧ i = .int .i64 (k : Int)) (fun i _ => 16 - (intOf i).toNat)
          case atStart => exact ⟨0, Nat.zero_le _, rfl⟩
          case round =>
            obtain ⟨k, hk, rfl⟩ := hrel
            by_cases hlt : k < 16
            · have hlt' : (k : Int) < 16 := by omega
              have c1 : w6.cell? ⟨gl, k, none⟩ = some (.int .u16 (R k : Int)) := (hl6.cell k).trans (HC.out k hlt)
              have c2 : w6.cell? ⟨gm, k, none⟩ = some (.int .u16 (t k : Int)) := (hm6.cell k).trans (HM.out k hlt)
              by_cases e : k = 5
              · have htk : t k = v := by
                  rw [HT.out]
                  unfold updN
                  exact if_pos e
                rw [htk] at c2
                have n1 : ((k : Int) == (5 : Int)) = true := by rw [beq_iff_eq]; omega
                have n2 : ((v : Int) != (v : Int)) = false := bne_self_eq_false _
                clear e htk hl6 hm6
                go_wp2_with fail
                go_round
                case rel => exact ⟨k + 1, by omega, by go_num⟩
                case measure => simp [intOf]; omega
              · have htk : t k = R k := by
                  rw [HT.out]
                  unfold updN
                  exact if_neg e
                rw [htk] at c2
                obtain ⟨rk, hrk⟩ : ∃ x, R k = x := ⟨_, rfl⟩
                rw [hrk] at c1 c2
                have n1 : ((k : Int) == (5 : Int)) = false := by rw [beq_eq_false_iff_ne]; omega
                have n2 : ((rk : Int) != (rk : Int)) = false := bne_self_eq_false _
                clear e htk hrk hl6 hm6
                go_wp2_with fail
                go_round
                case rel => exact ⟨k + 1, by omega, by go_num⟩
                case measure => simp [intOf]; omega
            · obtain rfl : k = 16 := by omega
              clear hl6 hm6
              go_wp2_with fail
              go_ret
              exact ⟨rfl, hb06⟩
section
open Go.ChangeShapes Go.WideShapes Go.ChangeAt
variable {H : Type} {enc : TypeId × Value → H} {W : World} {base : Nat}
set_option maxRecDepth 100000 in
theorem walk_StateSets {v0 v1 v2 : Value} {d0 d1 d2 : DataW H} {p0 p1 p2 : List MemPlace} (hsh : W.ShapedOpen Tryd.prog)
    (hv0 : Value.okWide Tryd.prog W .any base 25 v0) (hd0 : DataW.Trod enc Tryd.prog W 0 (fun _ => true) true 25 v0 d0 p0) (hv1 : Value.okWide Tryd.prog W .any base 9 v1) (hd1 : DataW.Trod enc Tryd.prog W 0 (fun _ => true) true 9 v1 d1 p1) (hv2 : Value.okWide Tryd.prog W .any base 22 v2) (hd2 : DataW.Trod enc Tryd.prog W 0 (fun _ => true) true 22 v2 d2 p2) :
    Calls Tryd.prog 5 #[v0, v1, v2] W fun e W' => e = .returned (.bool true) ∧ Below W.heap.size W W' := by
  obtain ⟨R, rfl, hR⟩ := open_state hv0 hd0
  obtain ⟨s, rfl, _⟩ := open_str Tryd.underlying9 hv1 hd1
  obtain ⟨x, rfl, hx⟩ := open_u16 Tryd.underlying22 hv2 hd2
  obtain ⟨M, hM⟩ := maxLen_cell hsh
  exact stateSets_calls R s x M W hR hx hM
end
end Go.Proofs.YtelmkpcocaogjaaDoor
