/-
  gannetlaw04: CartOver.
-/
import Derived.Test.YtafabjmeeccifaaL04c
namespace Go.Proofs.Ytafabjmeeccifaa
open Go.RowKit Pl

theorem own_empty {w : World} {base g : Nat} (h : Blk w g 46 #[]) (hb : base ≤ g) : w.ownsRow base 46 2 (.slice (some ⟨g, 0, none⟩) 0 0) 0 [] := ⟨rfl, .inr ⟨g, 0, #[], rfl, hb, h, Nat.le_refl _, by decide, rfl, rfl⟩⟩
set_option maxRecDepth 100000 in
set_option maxHeartbeats 8000000 in
theorem cartOver_calls (a : Option Addr) (n c : Nat) (At : Nat → Int) (O : Nat → Option Addr) (Ln Cp : Nat → Nat) (By : Nat → Nat → Int) (t : Int) (o : Option Addr) (m cp : Nat) (L : Nat → Int) (w : World) (hn : n ≤ maxLen)
    (hP : PieB w a n At O Ln Cp By w.heap.size) (hL : NumsAt w .u8 o m L) (hm : m ≤ maxLen) :
    Calls Try.prog 6 #[.slice a n c, .agg #[.int .i64 t, .slice o m cp]] w fun e w' => e = .returned (.bool true) ∧ Below w.heap.size w w' := by
  have hX0 : Blk (w.alloc (.cells #[.int .i64 t, .slice o m cp] 46)) w.heap.size 46 #[.int .i64 t, .slice o m cp] := Blk.new _ _ _
  have hbA : Below w.heap.size w (w.alloc (.cells #[.int .i64 t, .slice o m cp] 46)) := Bl.alloc (Below.refl _ _) _
  by_cases hS : Small n Ln
  · by_cases hm2 : 20000 < m
    · have i1 : (20000 : Int) < (m : Int) := by omega
      go_enter Try.func6, Try.ntmps6
      (go_wp2_with fail; refine Cl.m (live04_calls _) ?_; intro w1 hb1)
      have hX1 := hX0.below hb1 hX0.lt
      have hb01 : Below w.heap.size w w1 := hbA.trans (hb1.mono hbA.size)
      have x1 : w1.cell? ⟨w.heap.size, 1, none⟩ = some (.slice o m cp) := hX1.cell 1
      go_wp2_with fail
      refine Cl.p (lwSmall_yes a n c At O Ln Cp By _ _ (hP.below hb01 (Nat.le_refl _)) hS) ?_
      (go_wp2_with fail; go_ret; exact ⟨rfl, by (repeat (first | exact Below.refl _ _ | assumption | refine Below.drew ?_ | refine Bl.alloc ?_ _ | refine below_drewN ?_ _ | refine Bl.chain ?_ (by assumption) (Nat.le_refl _)))⟩)
    · have i1 : (decide ((20000 : Int) < (m : Int))) = false := by rw [decide_eq_false_iff_not]; omega
      obtain ⟨i9, hi', hy0, hy1, hy2⟩ := info_parts infoPie
      have hn20 : n ≤ 20 := hS.1
      obtain ⟨B1, hB1⟩ : ∃ x, badI At Ln n = x := ⟨_, rfl⟩
      obtain ⟨B2, hB2⟩ : ∃ x, badI (xf At n t) (xf Ln n m) (n + 1) = x := ⟨_, rfl⟩
      have hsnoc := pcL_snoc At O Ln Cp n t o m cp
      go_enter Try.func6, Try.ntmps6
      (go_wp2_with fail; refine Cl.m (live04_calls _) ?_; intro w1 hb1)
      have hX1 := hX0.below hb1 hX0.lt
      have hb01 : Below w.heap.size w w1 := hbA.trans (hb1.mono hbA.size)
      have x1 : w1.cell? ⟨w.heap.size, 1, none⟩ = some (.slice o m cp) := hX1.cell 1
      clear hX0 hbA hb1
      go_wp2_with fail
      refine Cl.p (lwSmall_yes a n c At O Ln Cp By _ _ (hP.below hb01 (Nat.le_refl _)) hS) ?_
      go_wp2_with fail
      refine (mk_res a n c At O Ln Cp By w1 hn ((hP.below hb01 (Nat.le_refl _)).mono hb01.size)).mono ?_
      rintro e w2 ⟨oa, rfl, hN2, hob2, hb2⟩
      clear hob2
      rw [hB1] at hN2 ⊢
      have hX2 := hX1.below hb2 hX1.lt
      have hb02 := hb01.trans (hb2.mono hb01.size)
      have hz3 : Blk (w2.alloc (.cells #[.int .i64 0, .int .i64 0] 28)) w2.heap.size 28 #[.int .i64 0, .int .i64 0] := Blk.new _ _ _
      have hF3 : Blk (w2.alloc (.cells (fltA (rF B1)) 28)) w2.heap.size 28 (fltA (rF B1)) := Blk.new _ _ _
      have hb23 : Below w2.heap.size w2 (w2.alloc (.cells (fltA (rF B1)) 28)) := (Below.refl _ _).alloc (Nat.le_refl _) _
      have hX3 := hX2.below hb23 hX2.lt
      have hN3 := hN2.below hb23 (Nat.le_refl _)
      have hb03 := hb02.trans (hb23.mono hb02.size)
      clear x1 hX1 hX2 hb01 hb2 hb23 hN2
      go_upto_region 6 with (refine wpList_store_row rfl 28 _ _ rfl w2.heap.size _ rfl rfl 28 _ hz3 (by kernel_rfl) rfl (by kernel_rfl) ?_; rw [setRow_new])
      generalize hw3 : w2.alloc (.cells (fltA (rF B1)) 28) = w3 at *
      clear hz3 hb02
      obtain ⟨gF, hgF⟩ : ∃ x, w2.heap.size = x := ⟨_, rfl⟩
      rw [hgF] at hF3 ⊢
      clear hw3 hgF w2 w1
      have hP3 := (hP.below hb03 (Nat.le_refl _)).mono hb03.size
      have hL3 := hL.below hb03 (Nat.le_refl _)
      simp only [Act.put]
      go_cut [7, 8] (fun s7 s8 wx => ∃ gG ob, s7 = .slice ob (rN B2) (rN B2) ∧ s8 = .pointer (some ⟨gG, 0, none⟩) ∧ Blk wx gG 28 (fltA (rF B2)) ∧ NumsAt wx .u8 ob (rN B2) (layF (mkF At Ln By n) t.toNat m L) ∧ Below w3.heap.size w3 wx)
      case first =>
        have hn63 : 0 + n ≤ maxLen := by omega
        have hn64 : n + 1 ≤ maxLen := by unfold maxLen; omega
        have hnby : (0 + n) * 32 ≤ 140737488355328 := by omega
        have hnby2 : (n + 1) * 32 ≤ 140737488355328 := by omega
        have hn10 : n + 1 ≤ maxLen := hn64
        have hno3 := pc_none hP3
        have hX3l := hX3.lt
        have hfl : Value.agg (fltA (rF B2)) = .agg #[.int .i64 ((rF B2).1 : Int), .int .i64 ((rF B2).2 : Int)] := rfl
        have HFL := hide hfl
        have HSN := hide hsnoc
        have HB1 := hide hB1
        have HB2 := hide hB2
        clear hfl hsnoc hB1 hB2 hP hL hb03 hN3 hF3
        go_region_held3 (fun w' => w'.cell? ⟨w.heap.size, 0, none⟩ = some (.int .i64 t) ∧ w'.cell? ⟨w.heap.size, 1, none⟩ = some (.slice o m cp))
          (first
            | (refine ⟨Blk.cell (g := w.heap.size) (t := 46) (cs := #[.int .i64 t, .slice o m cp]) ?_ 0, Blk.cell (g := w.heap.size) (t := 46) (cs := #[.int .i64 t, .slice o m cp]) ?_ 1⟩ <;> ((repeat (first | with_reducible assumption | ((with_reducible refine Blk.newAt ?_); simp; done) | with_reducible refine Blk.drew ?_ | with_reducible refine Blk.alloc ?_ _ | ((with_reducible refine Blk.far ?_ ?_ _); rotate_left; (focus (dsimp only; omega))))); done)))
          (first
            | (refine step_append_any (by rfl) (.tmp 28) (.tmp 29) 22 (by rfl) w3.heap.size 46 i9 _ 2 32 Try.underlying22 hi' hy0 hy1 hy2 rfl (by decide) _ 0 [] (by rfl) (own_empty (by ((repeat (first | with_reducible assumption | ((with_reducible refine Blk.newAt ?_); simp; done) | with_reducible refine Blk.drew ?_ | with_reducible refine Blk.alloc ?_ _)); done)) (by omega)) a n c (pcL At O Ln Cp n) (by rfl) (pcL_length At O Ln Cp n) hno3 (pc_news (hP3.below (by ((repeat (first | with_reducible assumption | with_reducible exact Below.refl _ _ | with_reducible refine Below.drew ?_ | with_reducible refine Bl.alloc ?_ _)); done)) (Nat.le_refl _))) (pcL_one At O Ln Cp n) hn63 hnby (Below.size (B := w3.heap.size) (w := w3) (by ((repeat (first | with_reducible assumption | with_reducible exact Below.refl _ _ | with_reducible refine Below.drew ?_ | with_reducible refine Bl.alloc ?_ _)); done))) ?_
               intro v4 w4 hown4 hgrow4
               have hb4 : Below w3.heap.size w3 w4 := Below.grown (by ((repeat (first | with_reducible assumption | with_reducible exact Below.refl _ _ | with_reducible refine Below.drew ?_ | with_reducible refine Bl.alloc ?_ _)); done)) hgrow4 (Below.size (B := w3.heap.size) (w := w3) (by ((repeat (first | with_reducible assumption | with_reducible exact Below.refl _ _ | with_reducible refine Below.drew ?_ | with_reducible refine Bl.alloc ?_ _)); done))) (fun k hk => by cases hk; dsimp only; omega)
               have hX4 := hX3.below hb4 hX3.lt
               have hs4 := hb4.size
               rw [Nat.zero_add, List.nil_append] at hown4
               (try (refine (fun (hzA0 : Blk w4 (w3.heap.size) 28 #[.int .i64 0, .int .i64 0]) => ?_) (Blk.grown ?_ hgrow4 ?_); rotate_left; (focus ((repeat (first | with_reducible assumption | ((with_reducible refine Blk.newAt ?_); simp; done) | with_reducible refine Blk.drew ?_ | with_reducible refine Blk.alloc ?_ _)); done)); (focus (simp only [Value.ownBlock]; intro h; injection h; omega))))
               (try (refine (fun (hsA0 : Blk w4 (w3.heap.size) 46 #[.int .i64 t, .slice o m cp]) => ?_) (Blk.grown ?_ hgrow4 ?_); rotate_left; (focus ((repeat (first | with_reducible assumption | ((with_reducible refine Blk.newAt ?_); simp; done) | with_reducible refine Blk.drew ?_ | with_reducible refine Blk.alloc ?_ _)); done)); (focus (simp only [Value.ownBlock]; intro h; injection h; omega))))
               (try (refine (fun (hzA1 : Blk w4 (w3.heap.size + 1) 28 #[.int .i64 0, .int .i64 0]) => ?_) (Blk.grown ?_ hgrow4 ?_); rotate_left; (focus ((repeat (first | with_reducible assumption | ((with_reducible refine Blk.newAt ?_); simp; done) | with_reducible refine Blk.drew ?_ | with_reducible refine Blk.alloc ?_ _)); done)); (focus (simp only [Value.ownBlock]; intro h; injection h; omega))))
               (try (refine (fun (hsA1 : Blk w4 (w3.heap.size + 1) 46 #[.int .i64 t, .slice o m cp]) => ?_) (Blk.grown ?_ hgrow4 ?_); rotate_left; (focus ((repeat (first | with_reducible assumption | ((with_reducible refine Blk.newAt ?_); simp; done) | with_reducible refine Blk.drew ?_ | with_reducible refine Blk.alloc ?_ _)); done)); (focus (simp only [Value.ownBlock]; intro h; injection h; omega))))
               (try (refine (fun (hzA2 : Blk w4 (w3.heap.size + 2) 28 #[.int .i64 0, .int .i64 0]) => ?_) (Blk.grown ?_ hgrow4 ?_); rotate_left; (focus ((repeat (first | with_reducible assumption | ((with_reducible refine Blk.newAt ?_); simp; done) | with_reducible refine Blk.drew ?_ | with_reducible refine Blk.alloc ?_ _)); done)); (focus (simp only [Value.ownBlock]; intro h; injection h; omega))))
               (try (refine (fun (hsA2 : Blk w4 (w3.heap.size + 2) 46 #[.int .i64 t, .slice o m cp]) => ?_) (Blk.grown ?_ hgrow4 ?_); rotate_left; (focus ((repeat (first | with_reducible assumption | ((with_reducible refine Blk.newAt ?_); simp; done) | with_reducible refine Blk.drew ?_ | with_reducible refine Blk.alloc ?_ _)); done)); (focus (simp only [Value.ownBlock]; intro h; injection h; omega)))))
            | (refine step_append_any (by rfl) (.tmp 30) (.tmp 32) 22 (by rfl) w3.heap.size 46 i9 _ 2 32 Try.underlying22 hi' hy0 hy1 hy2 rfl (by decide) _ n (pcL At O Ln Cp n) (by rfl) (by first | exact hown4 | exact hown4.alloc _ | exact (hown4.alloc _).alloc _) _ 1 1 [.int .i64 t, .slice o m cp] (by rfl) (by rfl) (fun h => by cases h) (fun ad had => by cases had; exact World.news_of_block (cs := #[.int .i64 t, .slice o m cp]) (t := 46) (fr := (0, 0)) (show Blk _ _ 46 #[.int .i64 t, .slice o m cp] from by ((repeat (first | with_reducible assumption | ((with_reducible refine Blk.newAt ?_); simp; done) | with_reducible refine Blk.drew ?_ | with_reducible refine Blk.alloc ?_ _)); done))) (by simp [Value.oneCell']) hn64 hnby2 (Below.size (B := w3.heap.size) (w := w3) (by ((repeat (first | with_reducible assumption | with_reducible exact Below.refl _ _ | with_reducible refine Below.drew ?_ | with_reducible refine Bl.alloc ?_ _)); done))) ?_
               intro v5 w5 hown5 hgrow5
               have hb5 : Below w3.heap.size w3 w5 := Below.grown (by ((repeat (first | with_reducible assumption | with_reducible exact Below.refl _ _ | with_reducible refine Below.drew ?_ | with_reducible refine Bl.alloc ?_ _)); done)) hgrow5 (Below.size (B := w3.heap.size) (w := w3) (by ((repeat (first | with_reducible assumption | with_reducible exact Below.refl _ _ | with_reducible refine Below.drew ?_ | with_reducible refine Bl.alloc ?_ _)); done))) (fun k hk => (own_blk hown4 hk).1)
               have hs5 := hb5.size
               have hX5 := hX3.below hb5 hX3.lt
               (try (refine (fun (hzB0 : Blk w5 (w3.heap.size) 28 #[.int .i64 0, .int .i64 0]) => ?_) (Blk.grown ?_ hgrow5 (own_blk_ne hown4 (t := 28) (cs := #[.int .i64 0, .int .i64 0]) ?_ (by decide))); rotate_left; (focus ((repeat (first | with_reducible assumption | ((with_reducible refine Blk.newAt ?_); simp; done) | with_reducible refine Blk.drew ?_ | with_reducible refine Blk.alloc ?_ _)); done)); (focus ((repeat (first | with_reducible assumption | ((with_reducible refine Blk.newAt ?_); simp; done) | with_reducible refine Blk.drew ?_ | with_reducible refine Blk.alloc ?_ _)); done))))
               (try (refine (fun (hzB1 : Blk w5 (w3.heap.size + 1) 28 #[.int .i64 0, .int .i64 0]) => ?_) (Blk.grown ?_ hgrow5 (own_blk_ne hown4 (t := 28) (cs := #[.int .i64 0, .int .i64 0]) ?_ (by decide))); rotate_left; (focus ((repeat (first | with_reducible assumption | ((with_reducible refine Blk.newAt ?_); simp; done) | with_reducible refine Blk.drew ?_ | with_reducible refine Blk.alloc ?_ _)); done)); (focus ((repeat (first | with_reducible assumption | ((with_reducible refine Blk.newAt ?_); simp; done) | with_reducible refine Blk.drew ?_ | with_reducible refine Blk.alloc ?_ _)); done))))
               (try (refine (fun (hzB2 : Blk w5 (w3.heap.size + 2) 28 #[.int .i64 0, .int .i64 0]) => ?_) (Blk.grown ?_ hgrow5 (own_blk_ne hown4 (t := 28) (cs := #[.int .i64 0, .int .i64 0]) ?_ (by decide))); rotate_left; (focus ((repeat (first | with_reducible assumption | ((with_reducible refine Blk.newAt ?_); simp; done) | with_reducible refine Blk.drew ?_ | with_reducible refine Blk.alloc ?_ _)); done)); (focus ((repeat (first | with_reducible assumption | ((with_reducible refine Blk.newAt ?_); simp; done) | with_reducible refine Blk.drew ?_ | with_reducible refine Blk.alloc ?_ _)); done))))
               (try (refine (fun (hzB3 : Blk w5 (w4.heap.size) 28 #[.int .i64 0, .int .i64 0]) => ?_) (Blk.grown ?_ hgrow5 ?_); rotate_left; (focus ((repeat (first | with_reducible assumption | ((with_reducible refine Blk.newAt ?_); simp; done) | with_reducible refine Blk.drew ?_ | with_reducible refine Blk.alloc ?_ _)); done)); (focus (intro h; have hlt5 := own_lt hown4 h.symm; omega))))
               (try (refine (fun (hzB4 : Blk w5 (w4.heap.size + 1) 28 #[.int .i64 0, .int .i64 0]) => ?_) (Blk.grown ?_ hgrow5 ?_); rotate_left; (focus ((repeat (first | with_reducible assumption | ((with_reducible refine Blk.newAt ?_); simp; done) | with_reducible refine Blk.drew ?_ | with_reducible refine Blk.alloc ?_ _)); done)); (focus (intro h; have hlt5 := own_lt hown4 h.symm; omega))))
               rw [← HSN.out] at hown5
               obtain ⟨a5, c5, hv5, hP5⟩ := pc_pieces (B := 0) hown5 ((hP3.below hb5 (Nat.le_refl _)).mono hs5) (hL3.below hb5 (Nat.le_refl _))
               subst hv5
               have hP5W : ∀ W, Below w5.heap.size w5 W → PieB W a5 (n + 1) (xf At n t) (xf O n o) (xf Ln n m) (xf Cp n cp) (xf By n L) W.heap.size := fun W h => (hP5.below h (Nat.le_refl _)).mono h.size
               clear hP5 hown5)
            | (go_simp; go_at_call 9; refine (mk_res a5 (n + 1) c5 (xf At n t) (xf O n o) (xf Ln n m) (xf Cp n cp) (xf By n L) _ hn64 (hP5W _ (by ((repeat (first | with_reducible assumption | with_reducible exact Below.refl _ _ | with_reducible refine Below.drew ?_ | with_reducible refine Bl.alloc ?_ _)); done)))).mono ?_
               rintro e w6 ⟨ob, rfl, hN6, hob6, hb6⟩
               rw [mkF_x, HB2.out] at hN6
               rw [HB2.out, HFL.out]
               have hb36 : Below w3.heap.size w3 w6 := Bl.chain (show Below w3.heap.size w3 _ from by ((repeat (first | with_reducible assumption | with_reducible exact Below.refl _ _ | with_reducible refine Below.drew ?_ | with_reducible refine Bl.alloc ?_ _)); done)) hb6 (Nat.le_refl _)
               have hs6 := hb36.size
               have hX6 := hX3.below hb36 hX3.lt
               (try (refine (fun (hzL : ∀ b, ob = some b → b.block ≠ w3.heap.size) (hzC : Blk w6 (w3.heap.size) 28 #[.int .i64 0, .int .i64 0]) => ?_) (fun b h => Nat.ne_of_gt (Nat.lt_of_lt_of_le (Blk.lt (t := 28) (cs := #[.int .i64 0, .int .i64 0]) ?_) (hob6 b h))) (Blk.below ?_ hb6 (Blk.lt (t := 28) (cs := #[.int .i64 0, .int .i64 0]) ?_)); rotate_left; (focus ((repeat (first | with_reducible assumption | ((with_reducible refine Blk.newAt ?_); simp; done) | with_reducible refine Blk.drew ?_ | with_reducible refine Blk.alloc ?_ _)); done)); (focus ((repeat (first | with_reducible assumption | ((with_reducible refine Blk.newAt ?_); simp; done) | with_reducible refine Blk.drew ?_ | with_reducible refine Blk.alloc ?_ _)); done)); (focus ((repeat (first | with_reducible assumption | ((with_reducible refine Blk.newAt ?_); simp; done) | with_reducible refine Blk.drew ?_ | with_reducible refine Blk.alloc ?_ _)); done)); have x0 : w6.cell? ⟨w3.heap.size, 0, none⟩ = some (.int .i64 0) := hzC.cell 0; have x1 : w6.cell? ⟨w3.heap.size, 1, none⟩ = some (.int .i64 0) := hzC.cell 1; have y0 : w6.frozen? ⟨w3.heap.size, 0, none⟩ = false := hzC.frozen 0; have y1 : w6.frozen? ⟨w3.heap.size, 1, none⟩ = false := hzC.frozen 1))
               (try (refine (fun (hzL : ∀ b, ob = some b → b.block ≠ w3.heap.size + 1) (hzC : Blk w6 (w3.heap.size + 1) 28 #[.int .i64 0, .int .i64 0]) => ?_) (fun b h => Nat.ne_of_gt (Nat.lt_of_lt_of_le (Blk.lt (t := 28) (cs := #[.int .i64 0, .int .i64 0]) ?_) (hob6 b h))) (Blk.below ?_ hb6 (Blk.lt (t := 28) (cs := #[.int .i64 0, .int .i64 0]) ?_)); rotate_left; (focus ((repeat (first | with_reducible assumption | ((with_reducible refine Blk.newAt ?_); simp; done) | with_reducible refine Blk.drew ?_ | with_reducible refine Blk.alloc ?_ _)); done)); (focus ((repeat (first | with_reducible assumption | ((with_reducible refine Blk.newAt ?_); simp; done) | with_reducible refine Blk.drew ?_ | with_reducible refine Blk.alloc ?_ _)); done)); (focus ((repeat (first | with_reducible assumption | ((with_reducible refine Blk.newAt ?_); simp; done) | with_reducible refine Blk.drew ?_ | with_reducible refine Blk.alloc ?_ _)); done)); have x0 : w6.cell? ⟨w3.heap.size + 1, 0, none⟩ = some (.int .i64 0) := hzC.cell 0; have x1 : w6.cell? ⟨w3.heap.size + 1, 1, none⟩ = some (.int .i64 0) := hzC.cell 1; have y0 : w6.frozen? ⟨w3.heap.size + 1, 0, none⟩ = false := hzC.frozen 0; have y1 : w6.frozen? ⟨w3.heap.size + 1, 1, none⟩ = false := hzC.frozen 1))
               (try (refine (fun (hzL : ∀ b, ob = some b → b.block ≠ w3.heap.size + 2) (hzC : Blk w6 (w3.heap.size + 2) 28 #[.int .i64 0, .int .i64 0]) => ?_) (fun b h => Nat.ne_of_gt (Nat.lt_of_lt_of_le (Blk.lt (t := 28) (cs := #[.int .i64 0, .int .i64 0]) ?_) (hob6 b h))) (Blk.below ?_ hb6 (Blk.lt (t := 28) (cs := #[.int .i64 0, .int .i64 0]) ?_)); rotate_left; (focus ((repeat (first | with_reducible assumption | ((with_reducible refine Blk.newAt ?_); simp; done) | with_reducible refine Blk.drew ?_ | with_reducible refine Blk.alloc ?_ _)); done)); (focus ((repeat (first | with_reducible assumption | ((with_reducible refine Blk.newAt ?_); simp; done) | with_reducible refine Blk.drew ?_ | with_reducible refine Blk.alloc ?_ _)); done)); (focus ((repeat (first | with_reducible assumption | ((with_reducible refine Blk.newAt ?_); simp; done) | with_reducible refine Blk.drew ?_ | with_reducible refine Blk.alloc ?_ _)); done)); have x0 : w6.cell? ⟨w3.heap.size + 2, 0, none⟩ = some (.int .i64 0) := hzC.cell 0; have x1 : w6.cell? ⟨w3.heap.size + 2, 1, none⟩ = some (.int .i64 0) := hzC.cell 1; have y0 : w6.frozen? ⟨w3.heap.size + 2, 0, none⟩ = false := hzC.frozen 0; have y1 : w6.frozen? ⟨w3.heap.size + 2, 1, none⟩ = false := hzC.frozen 1))
               (try (refine (fun (hzL : ∀ b, ob = some b → b.block ≠ w4.heap.size) (hzC : Blk w6 (w4.heap.size) 28 #[.int .i64 0, .int .i64 0]) => ?_) (fun b h => Nat.ne_of_gt (Nat.lt_of_lt_of_le (Blk.lt (t := 28) (cs := #[.int .i64 0, .int .i64 0]) ?_) (hob6 b h))) (Blk.below ?_ hb6 (Blk.lt (t := 28) (cs := #[.int .i64 0, .int .i64 0]) ?_)); rotate_left; (focus ((repeat (first | with_reducible assumption | ((with_reducible refine Blk.newAt ?_); simp; done) | with_reducible refine Blk.drew ?_ | with_reducible refine Blk.alloc ?_ _)); done)); (focus ((repeat (first | with_reducible assumption | ((with_reducible refine Blk.newAt ?_); simp; done) | with_reducible refine Blk.drew ?_ | with_reducible refine Blk.alloc ?_ _)); done)); (focus ((repeat (first | with_reducible assumption | ((with_reducible refine Blk.newAt ?_); simp; done) | with_reducible refine Blk.drew ?_ | with_reducible refine Blk.alloc ?_ _)); done)); have x0 : w6.cell? ⟨w4.heap.size, 0, none⟩ = some (.int .i64 0) := hzC.cell 0; have x1 : w6.cell? ⟨w4.heap.size, 1, none⟩ = some (.int .i64 0) := hzC.cell 1; have y0 : w6.frozen? ⟨w4.heap.size, 0, none⟩ = false := hzC.frozen 0; have y1 : w6.frozen? ⟨w4.heap.size, 1, none⟩ = false := hzC.frozen 1))
               (try (refine (fun (hzL : ∀ b, ob = some b → b.block ≠ w4.heap.size + 1) (hzC : Blk w6 (w4.heap.size + 1) 28 #[.int .i64 0, .int .i64 0]) => ?_) (fun b h => Nat.ne_of_gt (Nat.lt_of_lt_of_le (Blk.lt (t := 28) (cs := #[.int .i64 0, .int .i64 0]) ?_) (hob6 b h))) (Blk.below ?_ hb6 (Blk.lt (t := 28) (cs := #[.int .i64 0, .int .i64 0]) ?_)); rotate_left; (focus ((repeat (first | with_reducible assumption | ((with_reducible refine Blk.newAt ?_); simp; done) | with_reducible refine Blk.drew ?_ | with_reducible refine Blk.alloc ?_ _)); done)); (focus ((repeat (first | with_reducible assumption | ((with_reducible refine Blk.newAt ?_); simp; done) | with_reducible refine Blk.drew ?_ | with_reducible refine Blk.alloc ?_ _)); done)); (focus ((repeat (first | with_reducible assumption | ((with_reducible refine Blk.newAt ?_); simp; done) | with_reducible refine Blk.drew ?_ | with_reducible refine Blk.alloc ?_ _)); done)); have x0 : w6.cell? ⟨w4.heap.size + 1, 0, none⟩ = some (.int .i64 0) := hzC.cell 0; have x1 : w6.cell? ⟨w4.heap.size + 1, 1, none⟩ = some (.int .i64 0) := hzC.cell 1; have y0 : w6.frozen? ⟨w4.heap.size + 1, 0, none⟩ = false := hzC.frozen 0; have y1 : w6.frozen? ⟨w4.heap.size + 1, 1, none⟩ = false := hzC.frozen 1))
               (try (refine (fun (hzL : ∀ b, ob = some b → b.block ≠ w5.heap.size) (hzC : Blk w6 (w5.heap.size) 28 #[.int .i64 0, .int .i64 0]) => ?_) (fun b h => Nat.ne_of_gt (Nat.lt_of_lt_of_le (Blk.lt (t := 28) (cs := #[.int .i64 0, .int .i64 0]) ?_) (hob6 b h))) (Blk.below ?_ hb6 (Blk.lt (t := 28) (cs := #[.int .i64 0, .int .i64 0]) ?_)); rotate_left; (focus ((repeat (first | with_reducible assumption | ((with_reducible refine Blk.newAt ?_); simp; done) | with_reducible refine Blk.drew ?_ | with_reducible refine Blk.alloc ?_ _)); done)); (focus ((repeat (first | with_reducible assumption | ((with_reducible refine Blk.newAt ?_); simp; done) | with_reducible refine Blk.drew ?_ | with_reducible refine Blk.alloc ?_ _)); done)); (focus ((repeat (first | with_reducible assumption | ((with_reducible refine Blk.newAt ?_); simp; done) | with_reducible refine Blk.drew ?_ | with_reducible refine Blk.alloc ?_ _)); done)); have x0 : w6.cell? ⟨w5.heap.size, 0, none⟩ = some (.int .i64 0) := hzC.cell 0; have x1 : w6.cell? ⟨w5.heap.size, 1, none⟩ = some (.int .i64 0) := hzC.cell 1; have y0 : w6.frozen? ⟨w5.heap.size, 0, none⟩ = false := hzC.frozen 0; have y1 : w6.frozen? ⟨w5.heap.size, 1, none⟩ = false := hzC.frozen 1))))
        all_goals
          go_wp2_with fail
          go_meet
          first
            | exact ⟨_, _, rfl, rfl, (hzC.set_ 0 _).set_ 1 _, (hN6.far _ _ hzL).far _ _ hzL, (hb36.setCell (by dsimp only; omega) _).setCell (by dsimp only; omega) _⟩
            | exact ⟨_, _, rfl, rfl, Blk.new _ _ _, hN6.below ((Below.refl w6.heap.size w6).alloc (Nat.le_refl _) _) (Nat.le_refl _), Bl.alloc hb36 _⟩
      case rest =>
        obtain ⟨gG, ob, rfl, rfl, hG, hNb, hbc⟩ := hcut
        have hXc := hX3.below hbc hX3.lt
        have hFc := hF3.below hbc hF3.lt
        have hNc := hN3.below hbc (Nat.le_refl _)
        have hLc := hL3.below hbc (Nat.le_refl _)
        have hb0c := hb03.trans (hbc.mono hb03.size)
        rw [badI_x, hB1] at hB2
        clear hP3 hL3 hX3 hN3 hF3 hbc hP hL hsnoc hi' hy0 hy1 hy2
        cases B1 with
        | some i =>
          obtain rfl : B2 = some i := hB2.symm
          have f0 : wc.cell? ⟨gF, 0, none⟩ = some (.int .i64 1) := hFc.cell 0
          have f1 : wc.cell? ⟨gF, 1, none⟩ = some (.int .i64 (i : Int)) := hFc.cell 1
          have g0 : wc.cell? ⟨gG, 0, none⟩ = some (.int .i64 1) := hG.cell 0
          have g1 : wc.cell? ⟨gG, 1, none⟩ = some (.int .i64 (i : Int)) := hG.cell 1
          clear hB1 hB2
          go_wp2_with fail
          go_ret
          exact ⟨rfl, hb0c⟩
        | none =>
          by_cases hfit : 0 ≤ t ∧ t + m ≤ (16384 : Nat)
          · obtain rfl : B2 = none := by rw [← hB2]; exact if_pos hfit
            obtain ⟨h0, hT2⟩ := hfit
            obtain ⟨T, rfl⟩ : ∃ T : Nat, t = (T : Int) := ⟨t.toNat, by omega⟩
            rw [Int.toNat_natCast] at hNb
            have hTm : T + m ≤ 16384 := by omega
            have f0 : wc.cell? ⟨gF, 0, none⟩ = some (.int .i64 0) := hFc.cell 0
            have g0 : wc.cell? ⟨gG, 0, none⟩ = some (.int .i64 0) := hG.cell 0
            have x0 : wc.cell? ⟨w.heap.size, 0, none⟩ = some (.int .i64 (T : Int)) := hXc.cell 0
            have x1 : wc.cell? ⟨w.heap.size, 1, none⟩ = some (.slice o m cp) := hXc.cell 1
            have hr : rN none = 16384 := rfl
            rw [hr] at hNb hNc
            simp only [hr]
            clear hB1 hB2 hT2 hG hFc hr
            obtain ⟨ba, offa, hoa, _, _⟩ := hNc 0 (by omega)
            subst hoa
            obtain ⟨bb, offb, hob, _, _⟩ := hNb 0 (by omega)
            subst hob
            go_wp2_with fail
            go_loop [9] (fun i => ∃ k : Nat, k ≤ 16384 ∧ i = .int .i64 (k : Int)) (fun i => 16384 - (intOf i).toNat)
            case atStart => exact ⟨0, by omega, rfl⟩
            case round =>
              obtain ⟨k, hk, rfl⟩ := hrel
              by_cases hlt : k < 16384
              · obtain ⟨_, _, ha0, _, hca⟩ := hNc k hlt
                cases ha0
                obtain ⟨_, _, hb0, _, hcb⟩ := hNb k hlt
                cases hb0
                have hlt' : (k : Int) < 16384 := by omega
                by_cases h1 : T ≤ k
                · by_cases h2 : k - T < m
                  · obtain ⟨bl, ol, hol, _, hcl⟩ := hLc (k - T) h2
                    subst hol
                    have hq : layF (mkF At Ln By n) T m L k = L (k - T) := if_pos ⟨h1, by omega⟩
                    rw [hq] at hcb
                    have hs : (k : Int) - (T : Int) = ((k - T : Nat) : Int) := by omega
                    obtain ⟨d, hd⟩ : ∃ d, k - T = d := ⟨_, rfl⟩
                    rw [hd] at hs hcb hcl h2
                    have h2' : (d : Int) < (m : Int) := by omega
                    have h1' : (T : Int) ≤ (k : Int) := by omega
                    clear hd hq hNb hNc hLc
                    go_wp2_with fail
                    all_goals
                      go_round
                      case rel => exact ⟨k + 1, by omega, by go_num⟩
                      case measure => simp [intOf]; omega
                  · have hq : layF (mkF At Ln By n) T m L k = mkF At Ln By n k := if_neg (by omega)
                    rw [hq] at hcb
                    have hs : (k : Int) - (T : Int) = ((k - T : Nat) : Int) := by omega
                    obtain ⟨d, hd⟩ : ∃ d, k - T = d := ⟨_, rfl⟩
                    rw [hd] at hs h2
                    have h2' : (decide ((d : Int) < (m : Int))) = false := by rw [decide_eq_false_iff_not]; omega
                    have h2n : (decide (d < m)) = false := by rw [decide_eq_false_iff_not]; omega
                    have h1' : (T : Int) ≤ (k : Int) := by omega
                    clear hd hq hNb hNc hLc h2
                    go_wp2_with fail
                    all_goals
                      go_round
                      case rel => exact ⟨k + 1, by omega, by go_num⟩
                      case measure => simp [intOf]; omega
                · have hq : layF (mkF At Ln By n) T m L k = mkF At Ln By n k := if_neg (by omega)
                  rw [hq] at hcb
                  have h1' : (decide ((T : Int) ≤ (k : Int))) = false := by rw [decide_eq_false_iff_not]; omega
                  have h1n : (decide (T ≤ k)) = false := by rw [decide_eq_false_iff_not]; omega
                  clear hq hNb hNc hLc h1
                  go_wp2_with fail
                  all_goals
                    go_round
                    case rel => exact ⟨k + 1, by omega, by go_num⟩
                    case measure => simp [intOf]; omega
              · obtain rfl : k = 16384 := by omega
                go_wp2_with fail
                go_ret
                exact ⟨rfl, hb0c⟩
          · obtain rfl : B2 = some n := by rw [← hB2]; exact if_neg hfit
            have f0 : wc.cell? ⟨gF, 0, none⟩ = some (.int .i64 0) := hFc.cell 0
            have f1 : wc.cell? ⟨gF, 1, none⟩ = some (.int .i64 0) := hFc.cell 1
            have g0 : wc.cell? ⟨gG, 0, none⟩ = some (.int .i64 1) := hG.cell 0
            have g1 : wc.cell? ⟨gG, 1, none⟩ = some (.int .i64 (n : Int)) := hG.cell 1
            clear hB1 hB2 hfit
            go_wp2_with fail
            go_ret
            exact ⟨rfl, hb0c⟩
  · go_enter Try.func6, Try.ntmps6
    (go_wp2_with fail; refine Cl.m (live04_calls _) ?_; intro w1 hb1)
    have hb01 : Below w.heap.size w w1 := hbA.trans (hb1.mono hbA.size)
    go_wp2_with fail
    refine Cl.p (lwSmall_no a n c At O Ln Cp By _ _ (hP.below hb01 (Nat.le_refl _)) hS) ?_
    (go_wp2_with fail; go_ret; exact ⟨rfl, by (repeat (first | exact Below.refl _ _ | assumption | refine Below.drew ?_ | refine Bl.alloc ?_ _ | refine below_drewN ?_ _ | refine Bl.chain ?_ (by assumption) (Nat.le_refl _)))⟩)
end Go.Proofs.Ytafabjmeeccifaa
