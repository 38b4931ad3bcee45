/-
  gannetlaw25: StateBytes.
-/
import Derived.Test.YtelmkpcocaogjaaDoorSta21
import Derived.Test.YtelmkpcocaogjaaDoorRowl
import Derived.Test.YtelmkpcocaogjaaDoorRsame
import Derived.Test.YtelmkpcocaogjaaDoorSta11
import Derived.Test.YtelmkpcocaogjaaDoorOpst
import Derived.Test.YtelmkpcocaogjaaDoorOpenA
namespace Go.Proofs.YtelmkpcocaogjaaDoor
set_option linter.unusedSimpArgs false
set_option linter.unusedVariables false
open Go.RowKit Pl

/-- What both readers give for bytes. -/
theorem ofBoth (o : Option Addr) (n c : Nat) (B : Nat → Nat) (hB : ∀ j, j < n → B j < 256) : ∃ (Q : Nat → Nat) (k : Nat), k < 100 ∧
    (∀ W, NumsAt W .u8 o n (fun i => (B i : Int)) → Calls Tryd.prog 18 #[.slice o n c] W fun e w' => e = .returned (.tuple #[.agg (stA Q), .int .i64 (k : Int)]) ∧ Below W.heap.size W w') ∧
    (∀ W, NumsAt W .u8 o n (fun i => (B i : Int)) → Calls Tryd.prog 19 #[.slice o n c] W fun e w' => e = .returned (.tuple #[.agg (stA Q), .int .i64 (k : Int)]) ∧ Below W.heap.size W w') := by
  rcases Nat.lt_trichotomy n 17 with h | h | h
  · exact ⟨fun _ => 0, 4, by omega, fun W _ => stOfB_short o n c W h, fun W _ => rOfB_short o n c W h⟩
  · subst h
    by_cases h2 : B 16 < 2
    · refine ⟨unb B, 0, by omega, fun W hL => ?_, fun W hL => ?_⟩
      · have := stOfB_calls o c B W hL hB
        unfold ofR at this
        rw [if_pos h2] at this
        exact this
      · have := rOfB_calls o c B W hL hB
        unfold ofR at this
        rw [if_pos h2] at this
        exact this
    · refine ⟨fun _ => 0, 3, by omega, fun W hL => ?_, fun W hL => ?_⟩
      · have := stOfB_calls o c B W hL hB
        unfold ofR at this
        rw [if_neg h2] at this
        exact this
      · have := rOfB_calls o c B W hL hB
        unfold ofR at this
        rw [if_neg h2] at this
        exact this
  · exact ⟨fun _ => 0, 2, by omega, fun W _ => stOfB_long o n c W h, fun W _ => rOfB_long o n c W h⟩
/-- Registers as bytes, read back. -/
theorem ofBack (R : Nat → Nat) (hR : ROk R) (o : Option Addr) (c : Nat) (W : World) (hL : NumsAt W .u8 o 17 (fun i => (bts R i : Int))) :
    Calls Tryd.prog 18 #[.slice o 17 c] W fun e w' => e = .returned (.tuple #[.agg (stA R), .int .i64 0]) ∧ Below W.heap.size W w' := by
  have h := stOfB_calls o c (bts R) W hL (fun j hj => bts_lt hR j hj)
  unfold ofR at h
  rw [if_pos (show bts R 16 < 2 from hR.2.2), stA_congr (R' := R) (fun i _ => unb_bts R i)] at h
  exact h
theorem bytesA (R : Nat → Nat) (w : World) (hR : ROk R) : Calls Tryd.prog 20 #[.agg (stA R)] w fun e w' => ∃ g c, e = .returned (.slice (some ⟨g, 0, none⟩) 17 c) ∧ NumsAt w' .u8 (some ⟨g, 0, none⟩) 17 (fun i => (bts R i : Int)) ∧ Below w.heap.size w w' := by
  refine (stBytes_calls R w hR).mono ?_
  rintro e w' ⟨v, rfl, hown, hb⟩
  obtain ⟨g, c, rfl, _, hlt, _, hc⟩ := own1_form hown (by decide)
  exact ⟨g, c, rfl, fun i hi => ⟨g, 0, rfl, hlt, by rw [Nat.zero_add]; exact hc i _ (btL_get _ 17 i hi)⟩, hb⟩
theorem bytesB (R : Nat → Nat) (w : World) (hR : ROk R) : Calls Tryd.prog 22 #[.agg (stA R)] w fun e w' => ∃ g c, e = .returned (.slice (some ⟨g, 0, none⟩) 17 c) ∧ NumsAt w' .u8 (some ⟨g, 0, none⟩) 17 (fun i => (bts R i : Int)) ∧ Below w.heap.size w w' := by
  refine (rBytes_calls R w hR).mono ?_
  rintro e w' ⟨v, rfl, hown, hb⟩
  obtain ⟨g, c, rfl, _, hlt, _, hc⟩ := own1_form hown (by decide)
  exact ⟨g, c, rfl, fun i hi => ⟨g, 0, rfl, hlt, by rw [Nat.zero_add]; exact hc i _ (btL_get _ 17 i hi)⟩, hb⟩
set_option maxRecDepth 100000 in
set_option maxHeartbeats 4000000 in
theorem stateBytes_calls (R : Nat → Nat) (o : Option Addr) (n c : Nat) (B : Nat → Nat) (M : Int) (w : World) (hR : ROk R) (hB : ∀ j, j < n → B j < 256)
    (hL : NumsAt w .u8 o n fun i => (B i : Int)) (hM : w.cell? ⟨0, 0, none⟩ = some (.int .i64 M)) :
    Calls Tryd.prog 6 #[.agg (stA R), .slice o n c] w fun e w' => e = .returned (.bool true) ∧ Below w.heap.size w w' := by
  obtain ⟨Q, k, hk, hOf1, hOf2⟩ := ofBoth o n c B hB
  have hself := run_eql_state R
  have hselfQ := run_eql_state Q
  have hkk : ((k : Int) == (k : Int)) = true := beq_self_eq_true _
  have hs1 : Blk (w.alloc (.cells (stA R) 25)) w.heap.size 25 (stA R) := Blk.new _ _ _
  have hb01 : Below w.heap.size w (w.alloc (.cells (stA R) 25)) := Bl.alloc (Below.refl _ _) _
  have hL1 := hL.below hb01 (Nat.le_refl _)
  have hM1 := (hb01.cell (p := ⟨0, 0, none⟩) (cell_lt hM)).trans hM
  clear hM
  go_enter Tryd.func6, Tryd.ntmps6
  go_wp2_with fail
  obtain ⟨gs, hgs⟩ : ∃ x, w.heap.size = x := ⟨_, rfl⟩
  rw [hgs] at hs1 ⊢
  generalize w.alloc (.cells (stA R) 25) = w1 at *
  refine Cl.m (live25_calls M _ hM1) ?_
  intro w2 hb2
  have hs2 := hs1.below hb2 hs1.lt
  have hL2 := hL1.below hb2 (Nat.le_refl _)
  have hb02 := hb01.trans (hb2.mono hb01.size)
  clear hs1 hL1 hM1 hb01 hb2
  go_wp2_with fail
  refine Cl.m (hOf1 _ hL2) ?_
  intro w3 hb3
  have hs3 := hs2.below hb3 hs2.lt
  have hL3 := hL2.below hb3 (Nat.le_refl _)
  have hb03 := hb02.trans (hb3.mono hb02.size)
  clear hs2 hL2 hb02 hb3 hOf1
  have hz : Blk (w3.alloc (.cells zst 25)) w3.heap.size 25 zst := Blk.new _ _ _
  have hx4 : Blk (w3.alloc (.cells (stA Q) 25)) w3.heap.size 25 (stA Q) := Blk.new _ _ _
  have hs4 : Blk (w3.alloc (.cells (stA Q) 25)) gs 25 (stA R) := hs3.alloc _
  have hL4 := hL3.below (Below.alloc (Below.refl _ _) (Nat.le_refl _) (.cells (stA Q) 25)) (Nat.le_refl _)
  have hb04 := Bl.alloc hb03 (.cells (stA Q) 25)
  go_wp2_with (refine wpList_store_row rfl 25 _ _ rfl w3.heap.size _ rfl rfl 25 _ hz (by kernel_rfl) rfl (by kernel_rfl) ?_; rw [setRow_new])
  clear hz hs3 hL3 hb03
  generalize w3.alloc (.cells (stA Q) 25) = w4 at *
  generalize w3.heap.size = gx at *
  refine Cl.m (hOf2 _ hL4) ?_
  intro w5 hb5
  have hs5 := hs4.below hb5 hs4.lt
  have hx5 := hx4.below hb5 hx4.lt
  have hb05 := hb04.trans (hb5.mono hb04.size)
  clear hs4 hx4 hL4 hb04 hb5 hOf2
  have hz : Blk (w5.alloc (.cells zst 25)) w5.heap.size 25 zst := Blk.new _ _ _
  have hw6 : Blk (w5.alloc (.cells (stA Q) 25)) w5.heap.size 25 (stA Q) := Blk.new _ _ _
  have hs6 : Blk (w5.alloc (.cells (stA Q) 25)) gs 25 (stA R) := hs5.alloc _
  have hx6 : Blk (w5.alloc (.cells (stA Q) 25)) gx 25 (stA Q) := hx5.alloc _
  have hb06 := Bl.alloc hb05 (.cells (stA Q) 25)
  go_wp2_with (first
    | (refine wpList_store_row rfl 25 _ _ rfl w5.heap.size _ rfl rfl 25 _ hz (by kernel_rfl) rfl (by kernel_rfl) ?_; rw [setRow_new])
    | (refine wpList_load_row rfl 25 _ rfl gs rfl _ (stA R) (0, 0) _ hs6 Tryd.underlying25 rfl (by kernel_rfl) ?_))
  clear hz hs5 hx5 hb05
  generalize w5.alloc (.cells (stA Q) 25) = w6 at *
  generalize w5.heap.size = gw at *
  refine (bytesA R _ hR).mono ?_
  rintro e w7 ⟨gb, cb, rfl, hN7, hb7⟩
  have hs7 := hs6.below hb7 hs6.lt
  have hx7 := hx6.below hb7 hx6.lt
  have hw7 := hw6.below hb7 hw6.lt
  have hb07 := hb06.trans (hb7.mono hb06.size)
  clear hs6 hx6 hw6 hb06 hb7
  go_wp2_with fail
  refine Cl.m (ofBack R hR _ _ _ hN7) ?_
  intro w8 hb8
  have hs8 := hs7.below hb8 hs7.lt
  have hx8 := hx7.below hb8 hx7.lt
  have hw8 := hw7.below hb8 hw7.lt
  have hb08 := hb07.trans (hb8.mono hb07.size)
  clear hs7 hx7 hw7 hb07 hb8 hN7
  have hz : Blk (w8.alloc (.cells zst 25)) w8.heap.size 25 zst := Blk.new _ _ _
  have hy9 : Blk (w8.alloc (.cells (stA R) 25)) w8.heap.size 25 (stA R) := Blk.new _ _ _
  have hs9 : Blk (w8.alloc (.cells (stA R) 25)) gs 25 (stA R) := hs8.alloc _
  have hx9 : Blk (w8.alloc (.cells (stA R) 25)) gx 25 (stA Q) := hx8.alloc _
  have hw9 : Blk (w8.alloc (.cells (stA R) 25)) gw 25 (stA Q) := hw8.alloc _
  have hb09 := Bl.alloc hb08 (.cells (stA R) 25)
  go_wp2_with (refine wpList_store_row rfl 25 _ _ rfl w8.heap.size _ rfl rfl 25 _ hz (by kernel_rfl) rfl (by kernel_rfl) ?_; rw [setRow_new])
  clear hz hs8 hx8 hw8 hb08
  generalize w8.alloc (.cells (stA R) 25) = w9 at *
  generalize w8.heap.size = gy at *
  refine wp_region_held_drew (S := fun W => Blk W gs 25 (stA R) ∧ Blk W gx 25 (stA Q) ∧ Blk W gw 25 (stA Q) ∧ Blk W gy 25 (stA R) ∧ Below w.heap.size w W) (by kernel_rfl) ⟨hs9, hx9, hw9, hy9, hb09.drew⟩ (fun hS0 => ?_)
  clear hs9 hx9 hw9 hy9 hb09
  change wpAnyH _ _ _ _ _ 25 #[false, false, false, false, false, false, false, false, false, false, false, false, false, false, false, false, false, false, false, false, false, false, false, false, false] _ _
  generalize w9.drew = v0 at *
  refine wpAnyH_take (i := 0) (v := .agg (stA R)) rfl (by kernel_rfl) (by kernel_rfl) (by kernel_rfl) (fun _ _ _ h => h) (YieldsIf.row_w (by rfl) 25 _ rfl gs rfl _ _ _ (fun _ h => h.1) Tryd.underlying25 rfl (by kernel_rfl)) (by assumption) ?_
  simp only [List.getElem_toArray, List.getElem_cons_zero, List.getElem_cons_succ, Act.put, List.setIfInBounds_toArray, List.set_cons_zero, List.set_cons_succ]
  refine wpAnyH_take (i := 2) (v := .agg (stA R)) rfl (by kernel_rfl) (by kernel_rfl) (by kernel_rfl) (fun _ _ _ h => h) (YieldsIf.row_w (by rfl) 25 _ rfl gs rfl _ _ _ (fun _ h => h.1) Tryd.underlying25 rfl (by kernel_rfl)) (by assumption) ?_
  simp only [List.getElem_toArray, List.getElem_cons_zero, List.getElem_cons_succ, Act.put, List.setIfInBounds_toArray, List.set_cons_zero, List.set_cons_succ]
  refine wpAnyH_ready (rs := [1]) (by kernel_rfl) (by simp) ?_
  refine AllReadyH.cons rfl (fun K hK => ?_) AllReadyH.nil
  go_simp
  refine (bytesA R _ hR).mono ?_
  rintro e v1 ⟨g1, c1, rfl, hN1, hb1⟩
  (try go_simp)
  refine hK.out _ _ ⟨hS0.1.below hb1 hS0.1.lt, hS0.2.1.below hb1 hS0.2.1.lt, hS0.2.2.1.below hb1 hS0.2.2.1.lt, hS0.2.2.2.1.below hb1 hS0.2.2.2.1.lt, hS0.2.2.2.2.trans (hb1.mono hS0.2.2.2.2.size)⟩ (fun hS1 => ?_)
  clear hK K hS0 hb1
  simp only [List.getElem_toArray, List.getElem_cons_zero, List.getElem_cons_succ, Act.put, List.setIfInBounds_toArray, List.set_cons_zero, List.set_cons_succ]
  refine wpAnyH_ready (rs := [3]) (by kernel_rfl) (by simp) ?_
  refine AllReadyH.cons rfl (fun K hK => ?_) AllReadyH.nil
  go_simp
  refine (bytesB R _ hR).mono ?_
  rintro e v2 ⟨g2, c2, rfl, hN2, hb2⟩
  (try go_simp)
  refine hK.out _ _ ⟨hS1.1.below hb2 hS1.1.lt, hS1.2.1.below hb2 hS1.2.1.lt, hS1.2.2.1.below hb2 hS1.2.2.1.lt, hS1.2.2.2.1.below hb2 hS1.2.2.2.1.lt, hS1.2.2.2.2.trans (hb2.mono hS1.2.2.2.2.size)⟩ (fun hS2 => ?_)
  have hN12 := hN1.below hb2 (Nat.le_refl _)
  clear hK K hS1 hb2 hN1
  simp only [List.getElem_toArray, List.getElem_cons_zero, List.getElem_cons_succ, Act.put, List.setIfInBounds_toArray, List.set_cons_zero, List.set_cons_succ]
  refine wpAnyH_ready (rs := [4]) (by kernel_rfl) (by simp) ?_
  refine AllReadyH.cons rfl (fun K hK => ?_) AllReadyH.nil
  go_simp
  refine (refSame_calls _ _ 17 17 _ _ _ _ _ hN12 hN2 (by decide) (by decide) rfl (fun _ _ => rfl)).mono ?_
  rintro e v3 ⟨rfl, hb3⟩
  (try go_simp)
  refine hK.out _ _ ⟨hS2.1.below hb3 hS2.1.lt, hS2.2.1.below hb3 hS2.2.1.lt, hS2.2.2.1.below hb3 hS2.2.2.1.lt, hS2.2.2.2.1.below hb3 hS2.2.2.2.1.lt, hS2.2.2.2.2.trans (hb3.mono hS2.2.2.2.2.size)⟩ (fun hS3 => ?_)
  clear hK K hS2 hb3 hN12 hN2
  simp only [List.getElem_toArray, List.getElem_cons_zero, List.getElem_cons_succ, Act.put, List.setIfInBounds_toArray, List.set_cons_zero, List.set_cons_succ]
  refine wpAnyH_take (i := 5) (v := ?_) rfl (by kernel_rfl) (by kernel_rfl) (by kernel_rfl) (fun _ _ _ h => h) (Or.inl ⟨by rfl, ?_⟩) (by assumption) ?_
  rotate_left
  · (intro w hSw; (try dsimp only at hSw); go_simp; try with_reducible rfl)
  simp only [List.getElem_toArray, List.getElem_cons_zero, List.getElem_cons_succ, Act.put, List.setIfInBounds_toArray, List.set_cons_zero, List.set_cons_succ]
  refine wpAnyH_take (i := 6) (v := .agg (stA Q)) rfl (by kernel_rfl) (by kernel_rfl) (by kernel_rfl) (fun _ _ _ h => h) (YieldsIf.row_w (by rfl) 25 _ rfl gx rfl _ _ _ (fun _ h => h.2.1) Tryd.underlying25 rfl (by kernel_rfl)) (by assumption) ?_
  simp only [List.getElem_toArray, List.getElem_cons_zero, List.getElem_cons_succ, Act.put, List.setIfInBounds_toArray, List.set_cons_zero, List.set_cons_succ]
  refine wpAnyH_take (i := 7) (v := .agg (stA Q)) rfl (by kernel_rfl) (by kernel_rfl) (by kernel_rfl) (fun _ _ _ h => h) (YieldsIf.row_w (by rfl) 25 _ rfl gw rfl _ _ _ (fun _ h => h.2.2.1) Tryd.underlying25 rfl (by kernel_rfl)) (by assumption) ?_
  simp only [List.getElem_toArray, List.getElem_cons_zero, List.getElem_cons_succ, Act.put, List.setIfInBounds_toArray, List.set_cons_zero, List.set_cons_succ]
  refine wpAnyH_take (i := 8) (v := ?_) rfl (by kernel_rfl) (by kernel_rfl) (by kernel_rfl) (fun _ _ _ h => h) (Or.inl ⟨by rfl, ?_⟩) (by assumption) ?_
  rotate_left
  · (intro w hSw; (try dsimp only at hSw); go_simp; try with_reducible rfl)
  simp only [List.getElem_toArray, List.getElem_cons_zero, List.getElem_cons_succ, Act.put, List.setIfInBounds_toArray, List.set_cons_zero, List.set_cons_succ]
  refine wpAnyH_take (i := 9) (v := ?_) rfl (by kernel_rfl) (by kernel_rfl) (by kernel_rfl) (fun _ _ _ h => h) (Or.inl ⟨by rfl, ?_⟩) (by assumption) ?_
  rotate_left
  · (intro w hSw; (try dsimp only at hSw); go_simp; try with_reducible rfl)
  simp only [List.getElem_toArray, List.getElem_cons_zero, List.getElem_cons_succ, Act.put, List.setIfInBounds_toArray, List.set_cons_zero, List.set_cons_succ]
  refine wpAnyH_take (i := 10) (v := ?_) rfl (by kernel_rfl) (by kernel_rfl) (by kernel_rfl) (fun _ _ _ h => h) (Or.inl ⟨by rfl, ?_⟩) (by assumption) ?_
  rotate_left
  · (intro w hSw; (try dsimp only at hSw); go_simp; try with_reducible rfl)
  simp only [List.getElem_toArray, List.getElem_cons_zero, List.getElem_cons_succ, Act.put, List.setIfInBounds_toArray, List.set_cons_zero, List.set_cons_succ]
  refine wpAnyH_take (i := 11) (v := ?_) rfl (by kernel_rfl) (by kernel_rfl) (by kernel_rfl) (fun _ _ _ h => h) (Or.inl ⟨by rfl, ?_⟩) (by assumption) ?_
  rotate_left
  · (intro w hSw; (try dsimp only at hSw); go_simp; try with_reducible rfl)
  simp only [List.getElem_toArray, List.getElem_cons_zero, List.getElem_cons_succ, Act.put, List.setIfInBounds_toArray, List.set_cons_zero, List.set_cons_succ]
  refine wpAnyH_take (i := 12) (v := ?_) rfl (by kernel_rfl) (by kernel_rfl) (by kernel_rfl) (fun _ _ _ h => h) (Or.inl ⟨by rfl, ?_⟩) (by assumption) ?_
  rotate_left
  · (intro w hSw; (try dsimp only at hSw); go_simp; try with_reducible rfl)
  simp only [List.getElem_toArray, List.getElem_cons_zero, List.getElem_cons_succ, Act.put, List.setIfInBounds_toArray, List.set_cons_zero, List.set_cons_succ]
  refine wpAnyH_take (i := 13) (v := ?_) rfl (by kernel_rfl) (by kernel_rfl) (by kernel_rfl) (fun _ _ _ h => h) (Or.inl ⟨by rfl, ?_⟩) (by assumption) ?_
  rotate_left
  · (intro w hSw; (try dsimp only at hSw); go_simp; try with_reducible rfl)
  simp only [List.getElem_toArray, List.getElem_cons_zero, List.getElem_cons_succ, Act.put, List.setIfInBounds_toArray, List.set_cons_zero, List.set_cons_succ]
  refine wpAnyH_take (i := 14) (v := ?_) rfl (by kernel_rfl) (by kernel_rfl) (by kernel_rfl) (fun _ _ _ h => h) (Or.inl ⟨by rfl, ?_⟩) (by assumption) ?_
  rotate_left
  · (intro w hSw; (try dsimp only at hSw); go_simp; try with_reducible rfl)
  simp only [List.getElem_toArray, List.getElem_cons_zero, List.getElem_cons_succ, Act.put, List.setIfInBounds_toArray, List.set_cons_zero, List.set_cons_succ]
  refine wpAnyH_take (i := 15) (v := ?_) rfl (by kernel_rfl) (by kernel_rfl) (by kernel_rfl) (fun _ _ _ h => h) (Or.inl ⟨by rfl, ?_⟩) (by assumption) ?_
  rotate_left
  · (intro w hSw; (try dsimp only at hSw); go_simp; try with_reducible rfl)
  simp only [List.getElem_toArray, List.getElem_cons_zero, List.getElem_cons_succ, Act.put, List.setIfInBounds_toArray, List.set_cons_zero, List.set_cons_succ]
  refine wpAnyH_take (i := 16) (v := .agg (stA R)) rfl (by kernel_rfl) (by kernel_rfl) (by kernel_rfl) (fun _ _ _ h => h) (YieldsIf.row_w (by rfl) 25 _ rfl gy rfl _ _ _ (fun _ h => h.2.2.2.1) Tryd.underlying25 rfl (by kernel_rfl)) (by assumption) ?_
  simp only [List.getElem_toArray, List.getElem_cons_zero, List.getElem_cons_succ, Act.put, List.setIfInBounds_toArray, List.set_cons_zero, List.set_cons_succ]
  refine wpAnyH_take (i := 17) (v := .agg (stA R)) rfl (by kernel_rfl) (by kernel_rfl) (by kernel_rfl) (fun _ _ _ h => h) (YieldsIf.row_w (by rfl) 25 _ rfl gs rfl _ _ _ (fun _ h => h.1) Tryd.underlying25 rfl (by kernel_rfl)) (by assumption) ?_
  simp only [List.getElem_toArray, List.getElem_cons_zero, List.getElem_cons_succ, Act.put, List.setIfInBounds_toArray, List.set_cons_zero, List.set_cons_succ]
  refine wpAnyH_take (i := 18) (v := ?_) rfl (by kernel_rfl) (by kernel_rfl) (by kernel_rfl) (fun _ _ _ h => h) (Or.inl ⟨by rfl, ?_⟩) (by assumption) ?_
  rotate_left
  · (intro w hSw; (try dsimp only at hSw); go_simp; try with_reducible rfl)
  simp only [List.getElem_toArray, List.getElem_cons_zero, List.getElem_cons_succ, Act.put, List.setIfInBounds_toArray, List.set_cons_zero, List.set_cons_succ]
  refine wpAnyH_take (i := 19) (v := ?_) rfl (by kernel_rfl) (by kernel_rfl) (by kernel_rfl) (fun _ _ _ h => h) (Or.inl ⟨by rfl, ?_⟩) (by assumption) ?_
  rotate_left
  · (intro w hSw; (try dsimp only at hSw); go_simp; try with_reducible rfl)
  simp only [List.getElem_toArray, List.getElem_cons_zero, List.getElem_cons_succ, Act.put, List.setIfInBounds_toArray, List.set_cons_zero, List.set_cons_succ]
  refine wpAnyH_take (i := 20) (v := ?_) rfl (by kernel_rfl) (by kernel_rfl) (by kernel_rfl) (fun _ _ _ h => h) (Or.inl ⟨by rfl, ?_⟩) (by assumption) ?_
  rotate_left
  · (intro w hSw; (try dsimp only at hSw); go_simp; try with_reducible rfl)
  simp only [List.getElem_toArray, List.getElem_cons_zero, List.getElem_cons_succ, Act.put, List.setIfInBounds_toArray, List.set_cons_zero, List.set_cons_succ]
  refine wpAnyH_take (i := 21) (v := ?_) rfl (by kernel_rfl) (by kernel_rfl) (by kernel_rfl) (fun _ _ _ h => h) (Or.inl ⟨by rfl, ?_⟩) (by assumption) ?_
  rotate_left
  · (intro w hSw; (try dsimp only at hSw); go_simp; try with_reducible rfl)
  simp only [List.getElem_toArray, List.getElem_cons_zero, List.getElem_cons_succ, Act.put, List.setIfInBounds_toArray, List.set_cons_zero, List.set_cons_succ]
  refine wpAnyH_take (i := 22) (v := ?_) rfl (by kernel_rfl) (by kernel_rfl) (by kernel_rfl) (fun _ _ _ h => h) (Or.inl ⟨by rfl, ?_⟩) (by assumption) ?_
  rotate_left
  · (intro w hSw; (try dsimp only at hSw); go_simp; try with_reducible rfl)
  simp only [List.getElem_toArray, List.getElem_cons_zero, List.getElem_cons_succ, Act.put, List.setIfInBounds_toArray, List.set_cons_zero, List.set_cons_succ]
  refine wpAnyH_take (i := 23) (v := ?_) rfl (by kernel_rfl) (by kernel_rfl) (by kernel_rfl) (fun _ _ _ h => h) (Or.inl ⟨by rfl, ?_⟩) (by assumption) ?_
  rotate_left
  · (intro w hSw; (try dsimp only at hSw); go_simp; try with_reducible rfl)
  simp only [List.getElem_toArray, List.getElem_cons_zero, List.getElem_cons_succ, Act.put, List.setIfInBounds_toArray, List.set_cons_zero, List.set_cons_succ]
  refine wpAnyH_take (i := 24) (v := ?_) rfl (by kernel_rfl) (by kernel_rfl) (by kernel_rfl) (fun _ _ _ h => h) (Or.inl ⟨by rfl, ?_⟩) (by assumption) ?_
  rotate_left
  · (intro w hSw; (try dsimp only at hSw); go_simp; try with_reducible rfl)
  simp only [List.getElem_toArray, List.getElem_cons_zero, List.getElem_cons_succ, Act.put, List.setIfInBounds_toArray, List.set_cons_zero, List.set_cons_succ]
  refine wpAnyH_done (by kernel_rfl) ?_ _
  go_wp2_with fail
  go_ret
  exact ⟨rfl, hS3.2.2.2.2⟩
section
open Go.ChangeShapes Go.WideShapes Go.ChangeAt
variable {H : Type} {enc : TypeId × Value → H} {W : World} {base : Nat}
set_option maxRecDepth 100000 in
theorem walk_StateBytes {v0 v1 : Value} {d0 d1 : DataW H} {p0 p1 : List MemPlace} (hsh : W.ShapedOpen Tryd.prog)
    (hv0 : Value.okWide Tryd.prog W .any base 25 v0) (hd0 : DataW.Trod enc Tryd.prog W 0 (fun _ => true) true 25 v0 d0 p0) (hv1 : Value.okWide Tryd.prog W .any base 42 v1) (hd1 : DataW.Trod enc Tryd.prog W 0 (fun _ => true) true 42 v1 d1 p1) :
    Calls Tryd.prog 6 #[v0, v1] W fun e W' => e = .returned (.bool true) ∧ Below W.heap.size W W' := by
  obtain ⟨R, rfl, hR⟩ := open_state hv0 hd0
  obtain ⟨o, n, c, B, rfl, hL, _, hB⟩ := open_bytes Tryd.underlying42 Tryd.underlying5 (by kernel_rfl) hv1 hd1
  obtain ⟨M, hM⟩ := maxLen_cell hsh
  exact stateBytes_calls R o n c B M W hR hB hL hM
end
end Go.Proofs.YtelmkpcocaogjaaDoor
