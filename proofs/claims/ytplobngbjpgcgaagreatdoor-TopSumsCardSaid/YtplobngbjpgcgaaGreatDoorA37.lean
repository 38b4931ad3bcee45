/-
  The texts SumsT of the proof of TopSums, as one file (they are merged by a program).
-/
import Derived.Test.YtplobngbjpgcgaaGreatDoorA35
import Derived.Test.YtplobngbjpgcgaaGreatDoorA6
import Derived.Test.YtplobngbjpgcgaaGreatDoorA36
section
/-
  gannettop: TopSums, decimal = true.
-/
namespace Go.Proofs.YtplobngbjpgcgaaGreatDoor
set_option linter.unusedSimpArgs false
set_option linter.unusedVariables false
set_option maxRecDepth 10000
open Go.RowKit Pl
def oPT (ga i : Nat) : Option Addr := if i = 0 then some ⟨ga, 0, none⟩ else some ⟨ga + 1, 0, none⟩
theorem row_numsT {W : World} {g : Nat} {R : Array Value} {X : Nat → Nat} (h : Blk W g 22 R) (hR : ∀ i, i < 12 → R[i]? = some (.int .u8 (X i : Int))) : NumsB W .u8 (some ⟨g, 0, none⟩) 12 (fun i => (X i : Int)) W.heap.size := fun i hi => ⟨g, 0, rfl, h.lt, by
  rw [Nat.zero_add]
  exact (Blk.cell h i).trans (hR i hi)⟩
theorem pieT {W : World} {ga gp : Nat} {RA RB : Array Value} {A B : Nat → Nat} (hRA : ∀ i, i < 12 → RA[i]? = some (.int .u8 (A i : Int))) (hRB : ∀ i, i < 12 → RB[i]? = some (.int .u8 (B i : Int)))
    (hA : Blk W ga 22 RA) (hB : Blk W (ga + 1) 22 RB) (hp : Blk W gp 34 #[.int .i64 16, .slice (some ⟨ga, 0, none⟩) 12 12, .int .i64 32, .slice (some ⟨ga + 1, 0, none⟩) 12 12]) :
    PieB W (some ⟨gp, 0, none⟩) 2 atP (oPT ga) (fun _ => 12) (fun _ => 12) (byP A B) W.heap.size := fun i hi => by
  rcases (show i = 0 ∨ i = 1 by omega) with rfl | rfl
  · exact ⟨gp, 0, rfl, hp.lt, Blk.cell hp 0, Blk.cell hp 1, row_numsT hA hRA⟩
  · exact ⟨gp, 0, rfl, hp.lt, Blk.cell hp 2, Blk.cell hp 3, row_numsT hB hRB⟩
set_option maxRecDepth 100000 in
set_option maxHeartbeats 16000000 in
theorem topSumsT (A B : Nat → Nat) (RA RB : Array Value) (x : Nat) (Mx : Int) (w : World) (hA : ∀ i, A i < 256) (hB : ∀ i, B i < 256) (hRA : ∀ i, i < 12 → RA[i]? = some (.int .u8 (A i : Int))) (hRB : ∀ i, i < 12 → RB[i]? = some (.int .u8 (B i : Int))) (hx : x < 256) (hM : w.cell? ⟨0, 0, none⟩ = some (.int .i64 Mx)) :
    Calls Tryz.prog 3 #[.agg RA, .agg RB, .int .u8 (x : Int), .bool true] w fun e w' => e = .returned (.bool true) ∧ Below w.heap.size w w' := by
  obtain ⟨i0, hi, hz0, hz1, hz2⟩ := info_parts infoU8d
  have htb : tb 1 0 = true := by decide
  have hbit := fun W => octBit_calls 1 0 W (by omega)
  rw [htb] at hbit
  clear htb
  have hga : Blk ((w.alloc (.cells RA 22)).alloc (.cells RB 22)) w.heap.size 22 RA := Blk.alloc (Blk.new _ _ _) _
  have hgb : Blk ((w.alloc (.cells RA 22)).alloc (.cells RB 22)) (w.heap.size + 1) 22 RB := Blk.newAt (by simp)
  have hb0 : Below w.heap.size w ((w.alloc (.cells RA 22)).alloc (.cells RB 22)) := Bl.alloc (Bl.alloc (Below.refl _ _) _) _
  obtain ⟨k, hk⟩ : ∃ k : Nat, x % 12 + 1 = k := ⟨_, rfl⟩
  have hk1 : 1 ≤ k ∧ k ≤ 12 := by omega
  have ek : (x : Int) % 12 + 1 = (k : Int) := by omega
  have x0 : (0 : Int) ≤ (x : Int) % 12 := by omega
  have x1 : (x : Int) % 12 ≤ 11 := by omega
  clear hk
  go_enter Tryz.func3, Tryz.ntmps3
  go_wp2_with fail
  refine Cl.p (hbit _) ?_
  clear hbit
  generalize (w.alloc (.cells RA 22)).alloc (.cells RB 22) = w1 at *
  obtain ⟨ga, hgA⟩ : ∃ y, w.heap.size = y := ⟨_, rfl⟩
  rw [hgA] at hga hgb hb0 ⊢
  have hw1 := hgb.lt
  have HG := hide hgA
  have hown0 : (w1.alloc (.cells #[.int .u8 24, .int .u8 248] 5)).ownsRow (ga + 2) 5 1 (.slice (some ⟨w1.heap.size, 0, none⟩) 2 2) 2 (cdL true (2 + 6 * 0)) := World.ownsRow_lit w1 #[.int .u8 24, .int .u8 248] 2 (by omega) (by decide) rfl
  have hbc : Below w1.heap.size w1 (w1.alloc (.cells #[.int .u8 24, .int .u8 248] 5)) := Bl.alloc (Below.refl _ _) _
  have hga2 := Blk.below hga hbc hga.lt
  have hgb2 := Blk.below hgb hbc hgb.lt
  have hb2 := hb0.trans (hbc.mono (by omega))
  have hsz2 := hb2.size
  have hs2b : ga + 2 ≤ (w1.alloc (.cells #[.int .u8 24, .int .u8 248] 5)).heap.size := by have := hbc.size; omega
  clear hbc hga hgb hb0
  clear hgA
  go_wp2_with fail
  generalize w1.alloc (.cells #[.int .u8 24, .int .u8 248] 5) = w2 at *
  clear ek x0 x1 hx
  have hkk : (k : Int) ≤ 12 := by omega
  go_loopw [10, 12] (fun v i wr => ∃ j : Nat, j ≤ k ∧ i = .int .i64 (j : Int) ∧ wr.ownsRow (ga + 2) 5 1 v (2 + 6 * j) (cdL true (2 + 6 * j)) ∧ Blk wr ga 22 RA ∧ Blk wr (ga + 1) 22 RB ∧ Below ga w wr ∧ ga + 2 ≤ wr.heap.size) (fun _ i _ => k - (intOf i).toNat)
  case atStart => exact ⟨0, by omega, rfl, hown0, hga2, hgb2, hb2, hs2b⟩
  case round =>
    obtain ⟨j, hj, rfl, hor, hAr, hBr, hbr, hsr⟩ := hrel
    clear hown0 hga2 hgb2 hb2 hs2b hsz2
    by_cases hjk : j < k
    · have hjk' : (j : Int) < (k : Int) := by omega
      have hba : Below wr.heap.size wr (wr.alloc (.cells #[.int .u8 165, .int .u8 (16 + (j : Int)), .int .u8 101, .int .u8 (32 + (j : Int)), .int .u8 133, .int .u8 (48 + (j : Int))] 5)) := Bl.alloc (Below.refl _ _) _
      have hblk := heap_alloc_new wr (.cells #[.int .u8 165, .int .u8 (16 + (j : Int)), .int .u8 101, .int .u8 (32 + (j : Int)), .int .u8 133, .int .u8 (48 + (j : Int))] 5)
      have ho2 := own_low hor hba
      have hA2 := Blk.below hAr hba hAr.lt
      have hB2 := Blk.below hBr hba hBr.lt
      have hb2 := hbr.trans (hba.mono (by omega))
      have hs2 : ga + 2 ≤ (wr.alloc (.cells #[.int .u8 165, .int .u8 (16 + (j : Int)), .int .u8 101, .int .u8 (32 + (j : Int)), .int .u8 133, .int .u8 (48 + (j : Int))] 5)).heap.size := by have := hba.size; omega
      obtain ⟨gc, cc, rfl, hgc, hgcl⟩ := ho2.form (by omega)
      clear hor hAr hBr hbr hsr hba
      have hj12 : j ≤ 11 := by omega
      go_wp2_with (at_builtin; refine wpList_append_own _ rfl _ _ 24 rfl (ga + 2) 5 i0 (.int .u8 0) 1 1 Tryz.underlying24 hi hz0 hz1 hz2 rfl (by decide) _ (2 + 6 * j) (cdL true (2 + 6 * j)) rfl ho2 ⟨wr.heap.size, 0, none⟩ 6 6 [.int .u8 165, .int .u8 (16 + (j : Int)), .int .u8 101, .int .u8 (32 + (j : Int)), .int .u8 133, .int .u8 (48 + (j : Int))] rfl rfl (World.news_of_block (cs := #[.int .u8 165, .int .u8 (16 + (j : Int)), .int .u8 101, .int .u8 (32 + (j : Int)), .int .u8 133, .int .u8 (48 + (j : Int))]) (t := 5) (fr := (0, 0)) hblk) (by simp [Value.oneCell']) (by unfold maxLen; omega) (by omega) (by omega) ?_)
      intro v1 w6 hown1 hgrow1 _
      have hO := grown_only ho2 hgrow1 hs2
      have hq : ∀ q, Value.ownBlock (.slice (some ⟨gc, 0, none⟩) (2 + 6 * j) cc) = some q → ga + 2 ≤ q := fun q e => by cases e; exact hgc
      have hA6 := Blk.only hA2 hO (fun e => by have := hq _ e; omega)
      have hB6 := Blk.only hB2 hO (fun e => by have := hq _ e; omega)
      have hb6 := hb2.trans (hO.below (by omega) (fun q e => by have := hq q e; omega))
      have hs6 := Nat.le_trans hs2 hO.size
      rw [← cdL_succ, show 2 + 6 * j + 6 = 2 + 6 * (j + 1) by omega] at hown1
      clear hA2 hB2 hb2 hs2 hO hgrow1 ho2 hblk hgc hgcl hq
      go_wp2_with fail
      go_roundw
      case rel => exact ⟨j + 1, by omega, by go_num, hown1, hA6, hB6, hb6, hs6⟩
      case measure => simp [intOf]; omega
    · obtain rfl : j = k := by omega
      obtain ⟨gc, cc, rfl, hgc, hgcl⟩ := hor.form (by omega)
      have hC : NumsB wr .u8 (some ⟨gc, 0, none⟩) (2 + 6 * j) (fun i => (cdB true i : Int)) wr.heap.size := fun i hi2 => ⟨gc, 0, rfl, hgcl, by
        have h1 := hor.cellAt i (by omega)
        rw [cdL_get true _ i hi2] at h1
        rw [Nat.zero_add]
        exact h1⟩
      clear hor hgc hgcl
      have hbn : Below wr.heap.size wr wr := Below.refl _ _
      have hbw : Below w.heap.size w wr := by rw [HG.out]; exact hbr
      have hF := mem0_fill A B true j
      have hfit : ∀ i, i < 2 → Fits 8192 (atP i) 12 := fun i hi => by
        rcases (show i = 0 ∨ i = 1 by omega) with rfl | rfl <;> exact ⟨by decide, by decide⟩
      have hgaw : ga ≤ wr.heap.size := by omega
      go_wp2_with fail
      refine wp_region_held_drew (S := fun W => Below w.heap.size w W ∧ Below wr.heap.size wr W) (by kernel_rfl) ⟨(by first | exact hbw.drew | exact hbw | exact Below.drew hbw), (by first | exact hbn.drew | exact hbn | exact Below.drew hbn)⟩ (fun hS0 => ?_)
      have hAr_0 : Blk wr.drew ga 22 RA := by first | exact hAr.drew | exact hAr
      have hBr_0 : Blk wr.drew (ga + 1) 22 RB := by first | exact hBr.drew | exact hBr
      have hC_0 : NumsB wr.drew .u8 (some ⟨gc, 0, none⟩) (2 + 6 * j) (fun i => (cdB true i : Int)) wr.heap.size := by first | exact hC.drew | exact hC
      clear hbw hbn hAr hBr hC
      change wpAnyH _ _ _ _ _ 13 #[false, false, false, false, false, false, false, false, false, false, false, false, false] _ _
      generalize wr.drew = v0 at *
      refine wpAnyH_take (i := 0) (v := ?_) rfl (by kernel_rfl) (by kernel_rfl) (by kernel_rfl) (fun _ _ _ h => h) (Or.inl ⟨by rfl, ?_⟩) hS0 ?_
      rotate_left
      · (intro w hSw; (try dsimp only at hSw); go_simp; try with_reducible rfl)
      simp only [List.getElem_toArray, List.getElem_cons_zero, List.getElem_cons_succ, Act.put, List.setIfInBounds_toArray, List.set_cons_zero, List.set_cons_succ]
      refine wpAnyH_take (i := 1) (v := ?_) rfl (by kernel_rfl) (by kernel_rfl) (by kernel_rfl) (fun _ _ _ h => h) (Or.inl ⟨by rfl, ?_⟩) hS0 ?_
      rotate_left
      · (intro w hSw; (try dsimp only at hSw); go_simp; try with_reducible rfl)
      simp only [List.getElem_toArray, List.getElem_cons_zero, List.getElem_cons_succ, Act.put, List.setIfInBounds_toArray, List.set_cons_zero, List.set_cons_succ]
      refine wpAnyH_take (i := 2) (v := ?_) rfl (by kernel_rfl) (by kernel_rfl) (by kernel_rfl) (fun _ _ _ h => h) (Or.inl ⟨by rfl, ?_⟩) hS0 ?_
      rotate_left
      · (intro w hSw; (try dsimp only at hSw); go_simp; try with_reducible rfl)
      simp only [List.getElem_toArray, List.getElem_cons_zero, List.getElem_cons_succ, Act.put, List.setIfInBounds_toArray, List.set_cons_zero, List.set_cons_succ]
      refine wpAnyH_take (i := 3) (v := ?_) rfl (by kernel_rfl) (by kernel_rfl) (by kernel_rfl) (fun _ _ _ h => h) (Or.inl ⟨by rfl, ?_⟩) hS0 ?_
      rotate_left
      · (intro w hSw; (try dsimp only at hSw); go_simp; try with_reducible rfl)
      simp only [List.getElem_toArray, List.getElem_cons_zero, List.getElem_cons_succ, Act.put, List.setIfInBounds_toArray, List.set_cons_zero, List.set_cons_succ]
      refine wpAnyH_take (i := 4) (v := ?_) rfl (by kernel_rfl) (by kernel_rfl) (by kernel_rfl) (fun _ _ _ h => h) (Or.inl ⟨by rfl, ?_⟩) hS0 ?_
      rotate_left
      · (intro w hSw; (try dsimp only at hSw); go_simp; try with_reducible rfl)
      simp only [List.getElem_toArray, List.getElem_cons_zero, List.getElem_cons_succ, Act.put, List.setIfInBounds_toArray, List.set_cons_zero, List.set_cons_succ]
      refine wpAnyH_take (i := 5) (v := ?_) rfl (by kernel_rfl) (by kernel_rfl) (by kernel_rfl) (fun _ _ _ h => h) (Or.inl ⟨by rfl, ?_⟩) hS0 ?_
      rotate_left
      · (intro w hSw; (try dsimp only at hSw); go_simp; try with_reducible rfl)
      simp only [List.getElem_toArray, List.getElem_cons_zero, List.getElem_cons_succ, Act.put, List.setIfInBounds_toArray, List.set_cons_zero, List.set_cons_succ]
      refine wpAnyH_ready (rs := [6]) (by kernel_rfl) (by simp) ?_
      refine AllReadyH.cons rfl (fun K hK => ?_) AllReadyH.nil
      go_simp
      have hb1 : Below v0.heap.size v0 (v0.alloc (.cells #[.int .i64 16, .slice (some ⟨ga, 0, none⟩) 12 12, .int .i64 32, .slice (some ⟨ga + 1, 0, none⟩) 12 12] 34)) := Bl.alloc (Below.refl _ _) _
      refine hK.out _ _ ⟨(by first | exact hS0.1.trans (hb1.mono hS0.1.size) | exact hS0.1.trans (hb1.mono (by have := hS0.1.size; omega))), (by first | exact hS0.2.trans (hb1.mono hS0.2.size) | exact hS0.2.trans (hb1.mono (by have := hS0.2.size; omega)))⟩ (fun hS1 => ?_)
      clear hK K
      have hp_1 : Blk (v0.alloc (.cells #[.int .i64 16, .slice (some ⟨ga, 0, none⟩) 12 12, .int .i64 32, .slice (some ⟨ga + 1, 0, none⟩) 12 12] 34)) v0.heap.size 34 #[.int .i64 16, .slice (some ⟨ga, 0, none⟩) 12 12, .int .i64 32, .slice (some ⟨ga + 1, 0, none⟩) 12 12] := Blk.new _ _ _
      have hAr_1 : Blk (v0.alloc (.cells #[.int .i64 16, .slice (some ⟨ga, 0, none⟩) 12 12, .int .i64 32, .slice (some ⟨ga + 1, 0, none⟩) 12 12] 34)) ga 22 RA := (hAr_0.below hb1 hAr_0.lt)
      have hBr_1 : Blk (v0.alloc (.cells #[.int .i64 16, .slice (some ⟨ga, 0, none⟩) 12 12, .int .i64 32, .slice (some ⟨ga + 1, 0, none⟩) 12 12] 34)) (ga + 1) 22 RB := (hBr_0.below hb1 hBr_0.lt)
      have hC_1 : NumsB (v0.alloc (.cells #[.int .i64 16, .slice (some ⟨ga, 0, none⟩) 12 12, .int .i64 32, .slice (some ⟨ga + 1, 0, none⟩) 12 12] 34)) .u8 (some ⟨gc, 0, none⟩) (2 + 6 * j) (fun i => (cdB true i : Int)) wr.heap.size := (by first | exact hC_0.below hb1 hC_0.lt | exact hC_0.trans (hb1.mono hC_0.size) | exact hC_0.trans (hb1.mono (by have := hC_0.size; omega)) | exact (hb1.cell (cell_lt hC_0)).trans hC_0 | exact hC_0.below hb1 (Nat.le_refl _) | exact hC_0.low hb1 | exact hC_0.below hb1 | exact hC_0.trans (Only.of hb1))
      have hne_hAr_hp := Nat.ne_of_lt hAr_0.lt
      have hne_hBr_hp := Nat.ne_of_lt hBr_0.lt
      clear hb1 hS0
      generalize v0.alloc (.cells #[.int .i64 16, .slice (some ⟨ga, 0, none⟩) 12 12, .int .i64 32, .slice (some ⟨ga + 1, 0, none⟩) 12 12] 34) = v1 at *
      generalize v0.heap.size = gp at *
      simp only [List.getElem_toArray, List.getElem_cons_zero, List.getElem_cons_succ, Act.put, List.setIfInBounds_toArray, List.set_cons_zero, List.set_cons_succ]
      refine wpAnyH_ready (rs := [7]) (by kernel_rfl) (by simp) ?_
      refine AllReadyH.cons rfl (fun K hK => ?_) AllReadyH.nil
      go_simp
      with_reducible refine (core_calls (some ⟨gp, 0, none⟩) (some ⟨gc, 0, none⟩) 2 (2 + 6 * j) cc atP (oPT ga) (fun _ => 12) (fun _ => 12) (byP A B) _ (mem0 A B true j) _ hfit (by omega) (pieT hRA hRB hAr_1 hBr_1 hp_1) (NumsB.mono hC_1 (Below.size hS1.2)) hF).mono ?_
      rintro e v2 ⟨D, Bu, base, c, rfl, hS, hDl, hbN⟩
      have hAN := Blk.below hAr_1 hbN (Blk.lt hAr_1)
      have hBN := Blk.below hBr_1 hbN (Blk.lt hBr_1)
      have hgD : ga + 1 < D.l := by have := Blk.lt hBr_1; omega
      (try go_simp)
      refine hK.out _ _ ⟨Below.trans hS1.1 (hbN.mono (Below.size hS1.1)), Below.trans hS1.2 (hbN.mono (Below.size hS1.2))⟩ (fun hS2 => ?_)
      clear hK K hS1
      simp only [List.getElem_toArray, List.getElem_cons_zero, List.getElem_cons_succ, Act.put, List.setIfInBounds_toArray, List.set_cons_zero, List.set_cons_succ]
      refine wpAnyH_take (i := 8) (v := ?_) rfl (by kernel_rfl) (by kernel_rfl) (by kernel_rfl) (fun _ _ _ h => h) (Or.inl ⟨by rfl, ?_⟩) hS2 ?_
      rotate_left
      · (intro w hSw; (try dsimp only at hSw); go_simp; try with_reducible rfl)
      simp only [List.getElem_toArray, List.getElem_cons_zero, List.getElem_cons_succ, Act.put, List.setIfInBounds_toArray, List.set_cons_zero, List.set_cons_succ]
      refine wpAnyH_take (i := 9) (v := ?_) rfl (by kernel_rfl) (by kernel_rfl) (by kernel_rfl) (fun _ _ _ h => h) (Or.inl ⟨by rfl, ?_⟩) hS2 ?_
      rotate_left
      · (intro w hSw; (try dsimp only at hSw); go_simp; try with_reducible rfl)
      simp only [List.getElem_toArray, List.getElem_cons_zero, List.getElem_cons_succ, Act.put, List.setIfInBounds_toArray, List.set_cons_zero, List.set_cons_succ]
      refine wpAnyH_take (i := 10) (v := ?_) rfl (by kernel_rfl) (by kernel_rfl) (by kernel_rfl) (fun _ _ _ h => h) (Or.inl ⟨by rfl, ?_⟩) hS2 ?_
      rotate_left
      · (intro w hSw; (try dsimp only at hSw); go_simp; try with_reducible rfl)
      simp only [List.getElem_toArray, List.getElem_cons_zero, List.getElem_cons_succ, Act.put, List.setIfInBounds_toArray, List.set_cons_zero, List.set_cons_succ]
      refine wpAnyH_take (i := 11) (v := ?_) rfl (by kernel_rfl) (by kernel_rfl) (by kernel_rfl) (fun _ _ _ h => h) (Or.inl ⟨by rfl, ?_⟩) hS2 ?_
      rotate_left
      · (intro w hSw; (try dsimp only at hSw); go_simp; try with_reducible rfl)
      simp only [List.getElem_toArray, List.getElem_cons_zero, List.getElem_cons_succ, Act.put, List.setIfInBounds_toArray, List.set_cons_zero, List.set_cons_succ]
      refine wpAnyH_take (i := 12) (v := ?_) rfl (by kernel_rfl) (by kernel_rfl) (by kernel_rfl) (fun _ _ _ h => h) (Or.inl ⟨by rfl, ?_⟩) hS2 ?_
      rotate_left
      · (intro w hSw; (try dsimp only at hSw); go_simp; try with_reducible rfl)
      simp only [List.getElem_toArray, List.getElem_cons_zero, List.getElem_cons_succ, Act.put, List.setIfInBounds_toArray, List.set_cons_zero, List.set_cons_succ]
      refine wpAnyH_done (by kernel_rfl) ?_ _
      have hbw := hS2.1
      have hbn := hS2.2
      clear hS2
      have hL : v2.cell? ⟨0, 0, none⟩ = some (.int .i64 Mx) := (hbw.cell (p := ⟨0, 0, none⟩) (cell_lt hM)).trans hM
      have hLD : 0 < D.l := by omega
      have hLd := mem0_laid (A := A) (B := B) true hk1.2 hA hB
      have hok := run_ok hLd hk1.2
      obtain ⟨af, _, hrun, _⟩ := run_bytes hLd hk1.2 j (Nat.le_refl j)
      have hMf : ∀ m, m < j → memJ (mem0 A B true j) (lgR false A B (p0B true)) j (48 + m) = lgR false A B 8 m := fun m hm => by
        unfold memJ
        rw [if_pos (by omega), show 48 + m - 48 = m by omega]
        rfl
      have hPf : lgP false A B (p0B true) j < 256 := lgP_lt false A B (by decide) j
      have hPe : lgP false A B (p0B true) j = lgP false A B 8 j := rfl
      have hlong : ∀ W, Blk W ga 22 RA → Blk W (ga + 1) 22 RB → Calls Tryz.prog 7 #[.slice (some ⟨ga, 0, none⟩) j 12, .slice (some ⟨ga + 1, 0, none⟩) j 12, .int .u8 8, .bool false] W
          fun e w' => ∃ o c, e = .returned (.tuple #[.slice o j c, .int .u8 (lgP false A B 8 j : Int), .int .i64 0]) ∧ NumsAt w' .u8 o j (fun i => (lgR false A B 8 i : Int)) ∧ Below W.heap.size W w' := fun W h1 h2 =>
        adLong_calls (some ⟨ga, 0, none⟩) (some ⟨ga + 1, 0, none⟩) j 12 12 8 false A B W (by omega) (by omega) (fun i hi => row_numsT h1 hRA i (by omega)) (fun i hi => row_numsT h2 hRB i (by omega)) (fun i _ => hA i) (fun i _ => hB i)
      generalize memJ (mem0 A B true j) (lgR false A B (p0B true)) j = Mf at *
      rw [hPe] at hrun hPf
      generalize lgP false A B 8 j = P at *
      have hS0 : Sys v2 D Bu base c (run ⟨0, 0, 1000, mem0 A B true j⟩ 0).a (run ⟨0, 0, 1000, mem0 A B true j⟩ 0).p (run ⟨0, 0, 1000, mem0 A B true j⟩ 0).pc 0 24576 (run ⟨0, 0, 1000, mem0 A B true j⟩ 0).M := hS
      generalize (⟨0, 0, 1000, mem0 A B true j⟩ : St) = s0 at *
      clear hS hPe hLd hF hfit hbn hgaw hsr
      generalize hv2 : v2 = v2 at *
      clear hv2
      have hK0 : KeepC D base c v2 v2 := KeepC.refl v2
      have e3 : (3 : Int) * (j : Int) ≤ 36 := by omega
      have e4 : (0 : Int) ≤ (3 : Int) * (j : Int) := by omega
      go_wp2_with fail
      go_loopw [15] (fun i wr => ∃ m : Nat, m ≤ 2 + 3 * j ∧ i = .int .i64 (m : Int) ∧ (∃ n nr, n ≤ 5 * m ∧ nr ≤ 24576 + m ∧ Sys wr D Bu base c (run s0 m).a (run s0 m).p (run s0 m).pc n nr (run s0 m).M) ∧ KeepC D base c v2 wr) (fun i _ => 2 + 3 * j - (intOf i).toNat)
      case atStart => exact ⟨0, by omega, rfl, ⟨0, 24576, by omega, by omega, hS0⟩, hK0⟩
      case round =>
        obtain ⟨m, hm, rfl, ⟨n, nr, hn, hnr, hSr⟩, hKr⟩ := hrel
        clear hS0 hK0
        by_cases hmj : m < 2 + 3 * j
        · have hmj' : (m : Int) < 2 + 3 * (j : Int) := by omega
          have hst := coStep_calls D Bu base c n nr Mx (run s0 m) wr (hok m hmj) (by omega) (by omega) ((hKr.b.cell (p := ⟨0, 0, none⟩) hLD).trans hL) hLD hSr
          go_wp2_with fail
          refine hst.mono ?_
          clear hst
          rintro e w3 ⟨⟨v, rfl⟩, ⟨n', nr', hn', hnr', hS'⟩, hK'⟩
          have hK3 := hKr.trans hK'
          clear hSr hKr hK'
          go_wp2_with fail
          go_roundw
          case rel => exact ⟨m + 1, by omega, by go_num, ⟨n', nr', by omega, by omega, hS'⟩, hK3⟩
          case measure => simp [intOf]; omega
        · obtain rfl : m = 2 + 3 * j := by omega
          rw [hrun] at hSr
          have hSr : Sys wr D Bu base c af P (1002 + 6 * j) n nr Mf := hSr
          have hAr := Blk.below hAN hKr.b (by omega)
          have hBr := Blk.below hBN hKr.b (by omega)
          have hbw2 := hbw.trans (hKr.b.mono (by rw [HG.out]; omega))
          clear hrun hok hKr hbw hAN hBN hL
          have hjj : ((j : Int) != (j : Int)) = false := bne_self_eq_false _
          go_wp2_with fail
          refine wp_region_held_drew (S := fun W => Blk W ga 22 RA ∧ Blk W (ga + 1) 22 RB ∧ Below w.heap.size w W) (by kernel_rfl) ⟨(by first | exact hAr.drew | exact hAr | exact Below.drew hAr), (by first | exact hBr.drew | exact hBr | exact Below.drew hBr), (by first | exact hbw2.drew | exact hbw2 | exact Below.drew hbw2)⟩ (fun hS0 => ?_)
          have hSr_0 : Sys wr.drew D Bu base c af P (1002 + 6 * j) n nr Mf := by first | exact hSr.drew | exact hSr
          clear hAr hBr hbw2 hSr
          change wpAnyH _ _ _ _ _ 13 #[false, false, false, false, false, false, false, false, false, false, false, false, false] _ _
          generalize wr.drew = v0 at *
          refine wpAnyH_take (i := 0) (v := ?_) rfl (by kernel_rfl) (by kernel_rfl) (by kernel_rfl) (fun _ _ _ h => h) (Or.inl ⟨by rfl, ?_⟩) hS0 ?_
          rotate_left
          · (intro w hSw; (try dsimp only at hSw); go_simp; try with_reducible rfl)
          simp only [List.getElem_toArray, List.getElem_cons_zero, List.getElem_cons_succ, Act.put, List.setIfInBounds_toArray, List.set_cons_zero, List.set_cons_succ]
          refine wpAnyH_take (i := 1) (v := ?_) rfl (by kernel_rfl) (by kernel_rfl) (by kernel_rfl) (fun _ _ _ h => h) (Or.inl ⟨by rfl, ?_⟩) hS0 ?_
          rotate_left
          · (intro w hSw; (try dsimp only at hSw); go_simp; try with_reducible rfl)
          simp only [List.getElem_toArray, List.getElem_cons_zero, List.getElem_cons_succ, Act.put, List.setIfInBounds_toArray, List.set_cons_zero, List.set_cons_succ]
          refine wpAnyH_take (i := 2) (v := ?_) rfl (by kernel_rfl) (by kernel_rfl) (by kernel_rfl) (fun _ _ _ h => h) (Or.inl ⟨by rfl, ?_⟩) hS0 ?_
          rotate_left
          · (intro w hSw; (try dsimp only at hSw); go_simp; try with_reducible rfl)
          simp only [List.getElem_toArray, List.getElem_cons_zero, List.getElem_cons_succ, Act.put, List.setIfInBounds_toArray, List.set_cons_zero, List.set_cons_succ]
          refine wpAnyH_take (i := 3) (v := ?_) rfl (by kernel_rfl) (by kernel_rfl) (by kernel_rfl) (fun _ _ _ h => h) (Or.inl ⟨by rfl, ?_⟩) hS0 ?_
          rotate_left
          · (intro w hSw; (try dsimp only at hSw); go_simp; try with_reducible rfl)
          simp only [List.getElem_toArray, List.getElem_cons_zero, List.getElem_cons_succ, Act.put, List.setIfInBounds_toArray, List.set_cons_zero, List.set_cons_succ]
          refine wpAnyH_take (i := 4) (v := ?_) rfl (by kernel_rfl) (by kernel_rfl) (by kernel_rfl) (fun _ _ _ h => h) (Or.inl ⟨by rfl, ?_⟩) hS0 ?_
          rotate_left
          · (intro w hSw; (try dsimp only at hSw); go_simp; try with_reducible rfl)
          simp only [List.getElem_toArray, List.getElem_cons_zero, List.getElem_cons_succ, Act.put, List.setIfInBounds_toArray, List.set_cons_zero, List.set_cons_succ]
          refine wpAnyH_ready (rs := [5]) (by kernel_rfl) (by simp) ?_
          refine AllReadyH.cons rfl (fun K hK => ?_) AllReadyH.nil
          go_simp
          with_reducible refine (hlong _ hS0.1 hS0.2.1).mono ?_
          rintro e v1 ⟨o, oc, rfl, hN, hb1⟩
          (try go_simp)
          refine hK.out _ _ ⟨(hS0.1.below hb1 hS0.1.lt), (hS0.2.1.below hb1 hS0.2.1.lt), (by first | exact hS0.2.2.trans (hb1.mono hS0.2.2.size) | exact hS0.2.2.trans (hb1.mono (by have := hS0.2.2.size; omega)))⟩ (fun hS1 => ?_)
          clear hK K
          have hSr_1 : Sys v1 D Bu base c af P (1002 + 6 * j) n nr Mf := (by first | exact hSr_0.below hb1 hSr_0.lt | exact hSr_0.trans (hb1.mono hSr_0.size) | exact hSr_0.trans (hb1.mono (by have := hSr_0.size; omega)) | exact (hb1.cell (cell_lt hSr_0)).trans hSr_0 | exact hSr_0.below hb1 (Nat.le_refl _) | exact hSr_0.low hb1 | exact hSr_0.below hb1 | exact hSr_0.trans (Only.of hb1))
          have hT : Blk v1 ga 22 RA ∧ Blk v1 (ga + 1) 22 RB ∧ Below w.heap.size w v1 ∧ NumsAt v1 .u8 o j (fun i => (lgR false A B 8 i : Int)) := ⟨hS1.1, hS1.2.1, hS1.2.2, hN⟩
          refine wpAnyH_mono (S' := fun W => Blk W ga 22 RA ∧ Blk W (ga + 1) 22 RB ∧ Below w.heap.size w W ∧ NumsAt W .u8 o j (fun i => (lgR false A B 8 i : Int))) (fun _ h => ⟨h.1, h.2.1, h.2.2.1⟩) ?_
          clear hS1
          have hS1 := hT
          clear hT
          clear hb1 hS0
          simp only [List.getElem_toArray, List.getElem_cons_zero, List.getElem_cons_succ, Act.put, List.setIfInBounds_toArray, List.set_cons_zero, List.set_cons_succ]
          refine wpAnyH_take (i := 6) (v := ?_) rfl (by kernel_rfl) (by kernel_rfl) (by kernel_rfl) (fun _ _ _ h => h) (Or.inl ⟨by rfl, ?_⟩) hS1 ?_
          rotate_left
          · (intro w hSw; (try dsimp only at hSw); go_simp; try with_reducible rfl)
          simp only [List.getElem_toArray, List.getElem_cons_zero, List.getElem_cons_succ, Act.put, List.setIfInBounds_toArray, List.set_cons_zero, List.set_cons_succ]
          refine wpAnyH_take (i := 7) (v := ?_) rfl (by kernel_rfl) (by kernel_rfl) (by kernel_rfl) (fun _ _ _ h => h) (Or.inl ⟨by rfl, ?_⟩) hS1 ?_
          rotate_left
          · (intro w hSw; (try dsimp only at hSw); go_simp; try with_reducible rfl)
          simp only [List.getElem_toArray, List.getElem_cons_zero, List.getElem_cons_succ, Act.put, List.setIfInBounds_toArray, List.set_cons_zero, List.set_cons_succ]
          refine wpAnyH_take (i := 8) (v := ?_) rfl (by kernel_rfl) (by kernel_rfl) (by kernel_rfl) (fun _ _ _ h => h) (Or.inl ⟨by rfl, ?_⟩) hS1 ?_
          rotate_left
          · (intro w hSw; (try dsimp only at hSw); go_simp; try with_reducible rfl)
          simp only [List.getElem_toArray, List.getElem_cons_zero, List.getElem_cons_succ, Act.put, List.setIfInBounds_toArray, List.set_cons_zero, List.set_cons_succ]
          refine wpAnyH_take (i := 9) (v := ?_) rfl (by kernel_rfl) (by kernel_rfl) (by kernel_rfl) (fun _ _ _ h => h) (Or.inl ⟨by rfl, ?_⟩) hS1 ?_
          rotate_left
          · (intro w hSw; (try dsimp only at hSw); go_simp; try with_reducible rfl)
          simp only [List.getElem_toArray, List.getElem_cons_zero, List.getElem_cons_succ, Act.put, List.setIfInBounds_toArray, List.set_cons_zero, List.set_cons_succ]
          refine wpAnyH_take (i := 10) (v := ?_) rfl (by kernel_rfl) (by kernel_rfl) (by kernel_rfl) (fun _ _ _ h => h) (Or.inl ⟨by rfl, ?_⟩) hS1 ?_
          rotate_left
          · (intro w hSw; (try dsimp only at hSw); go_simp; try with_reducible rfl)
          simp only [List.getElem_toArray, List.getElem_cons_zero, List.getElem_cons_succ, Act.put, List.setIfInBounds_toArray, List.set_cons_zero, List.set_cons_succ]
          refine wpAnyH_take (i := 11) (v := ?_) rfl (by kernel_rfl) (by kernel_rfl) (by kernel_rfl) (fun _ _ _ h => h) (Or.inl ⟨by rfl, ?_⟩) hS1 ?_
          rotate_left
          · (intro w hSw; (try dsimp only at hSw); go_simp; try with_reducible rfl)
          simp only [List.getElem_toArray, List.getElem_cons_zero, List.getElem_cons_succ, Act.put, List.setIfInBounds_toArray, List.set_cons_zero, List.set_cons_succ]
          refine wpAnyH_take (i := 12) (v := ?_) rfl (by kernel_rfl) (by kernel_rfl) (by kernel_rfl) (fun _ _ _ h => h) (Or.inl ⟨by rfl, ?_⟩) hS1 ?_
          rotate_left
          · (intro w hSw; (try dsimp only at hSw); go_simp; try with_reducible rfl)
          simp only [List.getElem_toArray, List.getElem_cons_zero, List.getElem_cons_succ, Act.put, List.setIfInBounds_toArray, List.set_cons_zero, List.set_cons_succ]
          refine wpAnyH_done (by kernel_rfl) ?_ _
          have hAr := hS1.1
          have hBr := hS1.2.1
          have hbw2 := hS1.2.2.1
          have hN := hS1.2.2.2
          clear hS1
          have hSr := hSr_1
          clear hlong hAr hBr
          generalize hv4 : v1 = v4 at *
          clear hv4
          have hpk : ∀ m, m < j → ∀ W, Sys W D Bu base c af P (1002 + 6 * j) n nr Mf → Calls Tryz.prog 8 #[.pointer (some ⟨Bu.b, 0, none⟩), .int .u32 (2031664 + (m : Int))] W fun e w' => e = .returned (.int .u8 (lgR false A B 8 m : Int)) ∧ Below W.heap.size W w' := fun m hm W h => by
            obtain ⟨⟨np, V, hb, _, _⟩, _, _⟩ := h
            have q := bsPeek_ram D Bu base nr n 0 (2031664 + m) _ _ _ _ _ V W (by omega) (by rw [show 2031664 + m = adr 248 (48 + m) by unfold adr; omega]; exact whr_wk _) hb
            rw [show ((2031664 + m : Nat) : Int) = 2031664 + (m : Int) by omega] at q
            refine q.mono fun e w' hq => ⟨hq.1.trans ?_, hq.2⟩
            show Ending.returned (.int .u8 ((Mf ((2031664 + m) % 8192) : Nat) : Int)) = _
            rw [show (2031664 + m) % 8192 = 48 + m by omega, hMf m hm]
          clear hMf
          have hb40 : Below v4.heap.size v4 v4 := Below.refl _ _
          go_wp2_with fail
          go_loopw [19] (fun i wr => ∃ m : Nat, m ≤ j ∧ i = .int .i64 (m : Int) ∧ Below v4.heap.size v4 wr) (fun i _ => j - (intOf i).toNat)
          case atStart => exact ⟨0, by omega, rfl, hb40⟩
          case round =>
            obtain ⟨m, hm, rfl, hbr4⟩ := hrel
            clear hb40
            have hSr4 := hSr.low hbr4
            have hbw4 := hbw2.trans (hbr4.mono hbw2.size)
            by_cases hmj : m < j
            · have hmj' : (m : Int) < (j : Int) := by omega
              have hpm := hpk m hmj
              obtain ⟨b4, o4, rfl, hlt4, hc4⟩ := hN m hmj
              have hc5 := (hbr4.cell (p := ⟨b4, o4 + m, none⟩) hlt4).trans hc4
              clear hN hc4 hpk
              dsimp only at hc5
              generalize lgR false A B 8 m = R at *
              have zR : ((R : Int) != (R : Int)) = false := bne_self_eq_false _
              have ew : IntKind.i64.wrap (2031664 + (m : Int)) = 2031664 + (m : Int) := by rw [IntKind.wrap_i64]; omega
              have eu : IntKind.u32.wrap (2031664 + (m : Int)) = 2031664 + (m : Int) := by rw [IntKind.wrap_u32]; omega
              go_wp2_with fail
              refine wp_region_held_drew (S := fun W => W.cell? ⟨b4, o4 + m, none⟩ = some (.int .u8 (R : Int)) ∧ Below v4.heap.size v4 W) (by kernel_rfl) ⟨(by first | exact hc5.drew | exact hc5 | exact Below.drew hc5), (by first | exact hbr4.drew | exact hbr4 | exact Below.drew hbr4)⟩ (fun hS0 => ?_)
              have hSr4_0 : Sys wr.drew D Bu base c af P (1002 + 6 * j) n nr Mf := by first | exact hSr4.drew | exact hSr4
              clear hc5 hbr4 hSr4
              change wpAnyH _ _ _ _ _ 10 #[false, false, false, false, false, false, false, false, false, false] _ _
              generalize wr.drew = v0 at *
              refine wpAnyH_take (i := 0) (v := ?_) rfl (by kernel_rfl) (by kernel_rfl) (by kernel_rfl) (fun _ _ _ h => h) (Or.inl ⟨by rfl, ?_⟩) hS0 ?_
              rotate_left
              · (intro w hSw; (try dsimp only at hSw); go_simp; try with_reducible rfl)
              simp only [List.getElem_toArray, List.getElem_cons_zero, List.getElem_cons_succ, Act.put, List.setIfInBounds_toArray, List.set_cons_zero, List.set_cons_succ]
              refine wpAnyH_take (i := 1) (v := ?_) rfl (by kernel_rfl) (by kernel_rfl) (by kernel_rfl) (fun _ _ _ h => h) (Or.inl ⟨by rfl, ?_⟩) hS0 ?_
              rotate_left
              · (intro w hSw; (try dsimp only at hSw); go_simp; try with_reducible rfl)
              simp only [List.getElem_toArray, List.getElem_cons_zero, List.getElem_cons_succ, Act.put, List.setIfInBounds_toArray, List.set_cons_zero, List.set_cons_succ]
              refine wpAnyH_take (i := 2) (v := ?_) rfl (by kernel_rfl) (by kernel_rfl) (by kernel_rfl) (fun _ _ _ h => h) (Or.inl ⟨by rfl, ?_⟩) hS0 ?_
              rotate_left
              · (intro w hSw; (try dsimp only at hSw); go_simp; try with_reducible rfl)
              simp only [List.getElem_toArray, List.getElem_cons_zero, List.getElem_cons_succ, Act.put, List.setIfInBounds_toArray, List.set_cons_zero, List.set_cons_succ]
              refine wpAnyH_take (i := 3) (v := ?_) rfl (by kernel_rfl) (by kernel_rfl) (by kernel_rfl) (fun _ _ _ h => h) (Or.inl ⟨by rfl, ?_⟩) hS0 ?_
              rotate_left
              · (intro w hSw; (try dsimp only at hSw); go_simp; try with_reducible rfl)
              simp only [List.getElem_toArray, List.getElem_cons_zero, List.getElem_cons_succ, Act.put, List.setIfInBounds_toArray, List.set_cons_zero, List.set_cons_succ]
              refine wpAnyH_take (i := 5) (v := ?_) rfl (by kernel_rfl) (by kernel_rfl) (by kernel_rfl) (fun _ _ _ h => h) (Or.inl ⟨by rfl, ?_⟩) hS0 ?_
              rotate_left
              · (intro w hSw; (try dsimp only at hSw); go_simp; try with_reducible rfl)
              simp only [List.getElem_toArray, List.getElem_cons_zero, List.getElem_cons_succ, Act.put, List.setIfInBounds_toArray, List.set_cons_zero, List.set_cons_succ]
              refine wpAnyH_take (i := 6) (v := ?_) rfl (by kernel_rfl) (by kernel_rfl) (by kernel_rfl) (fun _ _ _ h => h) (Or.inl ⟨by rfl, ?_⟩) hS0 ?_
              rotate_left
              · (intro w hSw; (try dsimp only at hSw); go_simp; try with_reducible rfl)
              simp only [List.getElem_toArray, List.getElem_cons_zero, List.getElem_cons_succ, Act.put, List.setIfInBounds_toArray, List.set_cons_zero, List.set_cons_succ]
              refine wpAnyH_take (i := 7) (v := ?_) rfl (by kernel_rfl) (by kernel_rfl) (by kernel_rfl) (fun _ _ _ h => h) (Or.inl ⟨by rfl, ?_⟩) hS0 ?_
              rotate_left
              · (intro w hSw; (try dsimp only at hSw); go_simp; try with_reducible rfl)
              simp only [List.getElem_toArray, List.getElem_cons_zero, List.getElem_cons_succ, Act.put, List.setIfInBounds_toArray, List.set_cons_zero, List.set_cons_succ]
              refine wpAnyH_take (i := 8) (v := ?_) rfl (by kernel_rfl) (by kernel_rfl) (by kernel_rfl) (fun _ _ _ h => h) (Or.inl ⟨by rfl, ?_⟩) hS0 ?_
              rotate_left
              · (intro w hSw; (try dsimp only at hSw); go_simp; try with_reducible rfl)
              simp only [List.getElem_toArray, List.getElem_cons_zero, List.getElem_cons_succ, Act.put, List.setIfInBounds_toArray, List.set_cons_zero, List.set_cons_succ]
              refine wpAnyH_ready (rs := [4]) (by kernel_rfl) (by simp) ?_
              refine AllReadyH.cons rfl (fun K hK => ?_) AllReadyH.nil
              go_simp
              with_reducible refine (hpm _ hSr4_0).mono ?_
              rintro e v1 ⟨rfl, hb1⟩
              (try go_simp)
              refine hK.out _ _ ⟨((hb1.cell (cell_lt hS0.1)).trans hS0.1), (by first | exact hS0.2.trans (hb1.mono hS0.2.size) | exact hS0.2.trans (hb1.mono (by have := hS0.2.size; omega)))⟩ (fun hS1 => ?_)
              clear hK K
              have hSr4_1 : Sys v1 D Bu base c af P (1002 + 6 * j) n nr Mf := (by first | exact hSr4_0.below hb1 hSr4_0.lt | exact hSr4_0.trans (hb1.mono hSr4_0.size) | exact hSr4_0.trans (hb1.mono (by have := hSr4_0.size; omega)) | exact (hb1.cell (cell_lt hSr4_0)).trans hSr4_0 | exact hSr4_0.below hb1 (Nat.le_refl _) | exact hSr4_0.low hb1 | exact hSr4_0.below hb1 | exact hSr4_0.trans (Only.of hb1))
              clear hb1 hS0
              simp only [List.getElem_toArray, List.getElem_cons_zero, List.getElem_cons_succ, Act.put, List.setIfInBounds_toArray, List.set_cons_zero, List.set_cons_succ]
              refine wpAnyH_take (i := 9) (v := ?_) rfl (by kernel_rfl) (by kernel_rfl) (by kernel_rfl) (fun _ _ _ h => h) (Or.inl ⟨by rfl, ?_⟩) hS1 ?_
              rotate_left
              · (intro w hSw; (try dsimp only at hSw); go_simp; try with_reducible rfl)
              simp only [List.getElem_toArray, List.getElem_cons_zero, List.getElem_cons_succ, Act.put, List.setIfInBounds_toArray, List.set_cons_zero, List.set_cons_succ]
              refine wpAnyH_done (by kernel_rfl) ?_ _
              have hc5 := hS1.1
              have hbr4 := hS1.2
              clear hS1
              have hSr4 := hSr4_1
              clear ew eu hc5
              go_wp2_with fail
              go_roundw
              case rel => exact ⟨m + 1, by omega, by go_num, hbr4⟩
              case measure => simp [intOf]; omega
            · obtain rfl : m = j := by omega
              clear hpk hN hSr hbr4 hjj e3 e4 hj hjk hm hmj
              obtain ⟨pc, hpc⟩ : ∃ pc, 1002 + 6 * m = pc := ⟨_, rfl⟩
              rw [hpc] at hSr4
              have hpc1 : (pc : Int) = 1000 + (2 + 6 * (m : Int)) := by omega
              have ze : ((pc : Int) == 1000 + (2 + 6 * (m : Int))) = true := by rw [beq_iff_eq]; exact hpc1
              have hpcl : (pc : Int) ≤ 1100 := by omega
              clear hpc hpc1
              have hst : ∀ W, Sys W D Bu base c af P pc n nr Mf → Calls Tryz.prog 10 #[.pointer (some ⟨c, 0, none⟩)] W fun e w' => e = .returned (.agg #[.int .u8 (af : Int), .int .u8 0, .int .u8 0, .int .u8 0, .int .u8 (P : Int), .int .u16 (pc : Int), .int .u8 248, .int .u8 248, .int .u8 248, .int .u8 248, .int .u8 248, .int .u8 248, .int .u8 248, .int .u8 248, .int .u8 0, .bool false]) ∧ Below W.heap.size W w' := fun W h => coState_calls D Bu base c af P pc n nr Mf W h
              have hf4 : ∀ W : World, (Instr.field 32 (.agg #[.int .u8 (af : Int), .int .u8 0, .int .u8 0, .int .u8 0, .int .u8 (P : Int), .int .u16 (pc : Int), .int .u8 248, .int .u8 248, .int .u8 248, .int .u8 248, .int .u8 248, .int .u8 248, .int .u8 248, .int .u8 248, .int .u8 0, .bool false]) 4).run Tryz.prog W = .ok (.int .u8 (P : Int)) W := fun _ => by kernel_rfl
              have hf5 : ∀ W : World, (Instr.field 32 (.agg #[.int .u8 (af : Int), .int .u8 0, .int .u8 0, .int .u8 0, .int .u8 (P : Int), .int .u16 (pc : Int), .int .u8 248, .int .u8 248, .int .u8 248, .int .u8 248, .int .u8 248, .int .u8 248, .int .u8 248, .int .u8 248, .int .u8 0, .bool false]) 5).run Tryz.prog W = .ok (.int .u16 (pc : Int)) W := fun _ => by kernel_rfl
              have his := fun W => flIs_calls P 1 W hPf (by omega)
              generalize fis P 1 = bb at *
              have zb : (bb == bb) = true := beq_self_eq_true _
              go_wp2_with fail
              refine Cl.m (hst _ hSr4) ?_
              intro w5 hb5
              have hS5 := hSr4.low hb5
              have hb05 := hbw4.trans (hb5.mono hbw4.size)
              go_wp2_with fail
              refine Cl.p (his _) ?_
              go_wp2_with fail
              refine Cl.p (his _) ?_
              go_wp2_with fail
              refine Cl.m (hst _ hS5) ?_
              intro w6 hb6
              have hb06 := hb05.trans (hb6.mono hb05.size)
              go_wp2_with fail
              go_ret
              exact ⟨rfl, hb06⟩
end Go.Proofs.YtplobngbjpgcgaaGreatDoor
end
