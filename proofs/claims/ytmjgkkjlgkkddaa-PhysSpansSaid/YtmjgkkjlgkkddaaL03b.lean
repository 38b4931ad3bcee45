/-
  gannetlaw03: PhysSpans, kind by kind.
-/
import Derived.Test.YtmjgkkjlgkkddaaL03
import Derived.Test.YtmjgkkjlgkkddaaBspn2
namespace Go.Proofs.Ytmjgkkjlgkkddaa
open Go.RowKit Pl

theorem r03WhereX_calls (N q : Nat) (x : Int) (w : World) (hx : x = N) (hN : N < 4294967296) (hq : whr N = q) :
    Calls Try.prog 14 #[.int .u32 x] w fun e w' => e = .returned (.int .u8 (q : Int)) ∧ Below w.heap.size w w' := by
  subst hx hq
  exact r03Where_calls N w hN
theorem dec_beq (p q : Nat) : (decide (p = q) == ((p : Int) == (q : Int))) = true := by
  by_cases h : p = q
  · subst h; simp
  · rw [decide_eq_false h, show ((p : Int) == (q : Int)) = false from by rw [beq_eq_false_iff_ne]; omega]; rfl
set_option maxRecDepth 100000 in
set_option maxHeartbeats 4000000 in
theorem physSpans0_calls (a : Nat) (w : World) (ha : a < 4294967296) :
    Calls Try.prog 6 #[.int .u8 ((0 : Nat) : Int), .int .u32 (a : Int)] w fun e w' => e = .returned (.bool true) ∧ Below w.heap.size w w' := by
  have hin := in_all 0 a
  have hspan := fun W => phSpan_calls 0 W (by omega)
  rw [rowsL_all.1] at hspan hin
  have hx2 : a % 2097152 < 2097152 := Nat.mod_lt _ (by omega)
  have hx : (a : Int) % 2097152 = ((a % 2097152 : Nat) : Int) := by omega
  generalize a % 2097152 = x at *
  have Hin := hide hin
  have Hbq := hide (dec_beq (whr a) 0)
  clear hin
  have g0 := hide (show whr 0 = 0 from by decide)
  have g1048575 := hide (show whr 1048575 = 0 from by decide)
  have g1048576 := hide (show whr 1048576 = 2 from by decide)
  go_enter Try.func6, Try.ntmps6
  (go_wp2_with fail; refine Cl.m (live03_calls _) ?_; intro w1 hb1)
  go_wp2_with fail
  refine (hspan _).mono ?_
  rintro e w2 ⟨v, rfl, hown, hb2⟩
  obtain ⟨g, c, rfl, hgb, hgl⟩ := World.ownsRow.form hown (by decide)
  clear hspan
  go_wp2_with fail
  go_loopw [6, 7, 8, 9, 10] (fun b i f n e wr => ∃ k : Nat, k ≤ 1 ∧ i = .int .i64 (k : Int) ∧ b = .bool (inL [(0, 1048576)] x k) ∧ Below w2.heap.size w2 wr) (fun _ i _ _ _ _ => 1 - (intOf i).toNat)
  case atStart => exact ⟨0, by omega, rfl, rfl, by (repeat (first | exact Below.refl _ _ | assumption | refine Below.drew ?_ | refine Bl.alloc ?_ _ | refine below_drewN ?_ _ | refine Bl.chain ?_ (by assumption) (Nat.le_refl _)))⟩
  case round =>
    obtain ⟨k, hk, rfl, rfl, hbel⟩ := hrel
    have hk2 : k = 0 ∨ k = 1 := by omega
    rcases hk2 with rfl | rfl
    · have ho := own_below hown hbel (Nat.le_refl _)
      obtain ⟨bb, hbb⟩ : ∃ b, inL [(0, 1048576)] x 0 = b := ⟨_, rfl⟩
      have hsucc := inL_succ [(0, 1048576)] x 0 0 1048576 rfl
      rw [hbb] at hsucc ⊢
      have Hs := hide hsucc
      clear hsucc hbb
      have hc0 : wr.cell? ⟨g, 0, none⟩ = some (.int .u32 0) := ho.cellAt 0 (by decide)
      have hc1 : wr.cell? ⟨g, 1, none⟩ = some (.int .u32 1048576) := ho.cellAt 1 (by decide)
      go_wp2_with fail
      go_quiet (fail)
      go_wp2_with fail
      go_quiet (fail)
      go_wp2_with fail
      refine Cl.m (r03WhereX_calls 0 0 _ _ (by omega) (by omega) g0.out) ?_
      intro wz0 hbz0
      go_wp2_with fail
      refine Cl.m (r03WhereX_calls 1048575 0 _ _ (by omega) (by omega) g1048575.out) ?_
      intro wz1 hbz1
      go_wp2_with fail
      refine Cl.m (r03WhereX_calls 1048576 2 _ _ (by omega) (by omega) g1048576.out) ?_
      intro wz2 hbz2
      cases bb
      all_goals
        go_wp2_with fail
        all_goals
          go_roundw
          case rel => exact ⟨1, by omega, by go_num, congrArg Value.bool (by first | (rw [Hs.out, Bool.eq_iff_iff]; simp; done) | (rw [Hs.out, Bool.eq_iff_iff]; simp; omega)), by (repeat (first | exact Below.refl _ _ | assumption | refine Below.drew ?_ | refine Bl.alloc ?_ _ | refine below_drewN ?_ _ | refine Bl.chain ?_ (by assumption) (Nat.le_refl _)))⟩
          case measure => simp [intOf]
    · rw [show inL [(0, 1048576)] x 1 = decide (whr a = 0) from Hin.out]
      go_wp2_with fail
      refine Cl.m (r03Where_calls a _ ha) ?_
      intro w3 hb3
      go_wp2_with fail
      go_ret
      exact ⟨congrArg (fun b => Ending.returned (.bool b)) (by first | exact Hbq.out | (have h := Hbq.out; simpa using h)), by (repeat (first | exact Below.refl _ _ | assumption | refine Below.drew ?_ | refine Bl.alloc ?_ _ | refine below_drewN ?_ _ | refine Bl.chain ?_ (by assumption) (Nat.le_refl _)))⟩
set_option maxRecDepth 100000 in
set_option maxHeartbeats 4000000 in
theorem physSpans1_calls (a : Nat) (w : World) (ha : a < 4294967296) :
    Calls Try.prog 6 #[.int .u8 ((1 : Nat) : Int), .int .u32 (a : Int)] w fun e w' => e = .returned (.bool true) ∧ Below w.heap.size w w' := by
  have hin := in_all 1 a
  have hspan := fun W => phSpan_calls 1 W (by omega)
  rw [rowsL_all.2.1] at hspan hin
  have hx2 : a % 2097152 < 2097152 := Nat.mod_lt _ (by omega)
  have hx : (a : Int) % 2097152 = ((a % 2097152 : Nat) : Int) := by omega
  generalize a % 2097152 = x at *
  have Hin := hide hin
  have Hbq := hide (dec_beq (whr a) 1)
  clear hin
  have g2031615 := hide (show whr 2031615 = 2 from by decide)
  have g2031616 := hide (show whr 2031616 = 1 from by decide)
  have g2064383 := hide (show whr 2064383 = 1 from by decide)
  have g2064384 := hide (show whr 2064384 = 2 from by decide)
  go_enter Try.func6, Try.ntmps6
  (go_wp2_with fail; refine Cl.m (live03_calls _) ?_; intro w1 hb1)
  go_wp2_with fail
  refine (hspan _).mono ?_
  rintro e w2 ⟨v, rfl, hown, hb2⟩
  obtain ⟨g, c, rfl, hgb, hgl⟩ := World.ownsRow.form hown (by decide)
  clear hspan
  go_wp2_with fail
  go_loopw [6, 7, 8, 9, 10] (fun b i f n e wr => ∃ k : Nat, k ≤ 1 ∧ i = .int .i64 (k : Int) ∧ b = .bool (inL [(2031616, 32768)] x k) ∧ Below w2.heap.size w2 wr) (fun _ i _ _ _ _ => 1 - (intOf i).toNat)
  case atStart => exact ⟨0, by omega, rfl, rfl, by (repeat (first | exact Below.refl _ _ | assumption | refine Below.drew ?_ | refine Bl.alloc ?_ _ | refine below_drewN ?_ _ | refine Bl.chain ?_ (by assumption) (Nat.le_refl _)))⟩
  case round =>
    obtain ⟨k, hk, rfl, rfl, hbel⟩ := hrel
    have hk2 : k = 0 ∨ k = 1 := by omega
    rcases hk2 with rfl | rfl
    · have ho := own_below hown hbel (Nat.le_refl _)
      obtain ⟨bb, hbb⟩ : ∃ b, inL [(2031616, 32768)] x 0 = b := ⟨_, rfl⟩
      have hsucc := inL_succ [(2031616, 32768)] x 0 2031616 32768 rfl
      rw [hbb] at hsucc ⊢
      have Hs := hide hsucc
      clear hsucc hbb
      have hc0 : wr.cell? ⟨g, 0, none⟩ = some (.int .u32 2031616) := ho.cellAt 0 (by decide)
      have hc1 : wr.cell? ⟨g, 1, none⟩ = some (.int .u32 32768) := ho.cellAt 1 (by decide)
      go_wp2_with fail
      go_quiet (fail)
      go_wp2_with fail
      go_quiet (fail)
      go_wp2_with fail
      refine Cl.m (r03WhereX_calls 2031616 1 _ _ (by omega) (by omega) g2031616.out) ?_
      intro wz0 hbz0
      go_wp2_with fail
      refine Cl.m (r03WhereX_calls 2064383 1 _ _ (by omega) (by omega) g2064383.out) ?_
      intro wz1 hbz1
      go_wp2_with fail
      refine Cl.m (r03WhereX_calls 2031615 2 _ _ (by omega) (by omega) g2031615.out) ?_
      intro wz2 hbz2
      go_wp2_with fail
      refine Cl.m (r03WhereX_calls 2064384 2 _ _ (by omega) (by omega) g2064384.out) ?_
      intro wz3 hbz3
      cases bb
      all_goals
        go_wp2_with fail
        all_goals
          go_roundw
          case rel => exact ⟨1, by omega, by go_num, congrArg Value.bool (by first | (rw [Hs.out, Bool.eq_iff_iff]; simp; done) | (rw [Hs.out, Bool.eq_iff_iff]; simp; omega)), by (repeat (first | exact Below.refl _ _ | assumption | refine Below.drew ?_ | refine Bl.alloc ?_ _ | refine below_drewN ?_ _ | refine Bl.chain ?_ (by assumption) (Nat.le_refl _)))⟩
          case measure => simp [intOf]
    · rw [show inL [(2031616, 32768)] x 1 = decide (whr a = 1) from Hin.out]
      go_wp2_with fail
      refine Cl.m (r03Where_calls a _ ha) ?_
      intro w3 hb3
      go_wp2_with fail
      go_ret
      exact ⟨congrArg (fun b => Ending.returned (.bool b)) (by first | exact Hbq.out | (have h := Hbq.out; simpa using h)), by (repeat (first | exact Below.refl _ _ | assumption | refine Below.drew ?_ | refine Bl.alloc ?_ _ | refine below_drewN ?_ _ | refine Bl.chain ?_ (by assumption) (Nat.le_refl _)))⟩
set_option maxRecDepth 100000 in
set_option maxHeartbeats 4000000 in
theorem physSpans2_calls (a : Nat) (w : World) (ha : a < 4294967296) :
    Calls Try.prog 6 #[.int .u8 ((2 : Nat) : Int), .int .u32 (a : Int)] w fun e w' => e = .returned (.bool true) ∧ Below w.heap.size w w' := by
  have hin := in_all 2 a
  have hspan := fun W => phSpan_calls 2 W (by omega)
  rw [rowsL_all.2.2.1] at hspan hin
  have hx2 : a % 2097152 < 2097152 := Nat.mod_lt _ (by omega)
  have hx : (a : Int) % 2097152 = ((a % 2097152 : Nat) : Int) := by omega
  generalize a % 2097152 = x at *
  have Hin := hide hin
  have Hbq := hide (dec_beq (whr a) 2)
  clear hin
  have g1048575 := hide (show whr 1048575 = 0 from by decide)
  have g1048576 := hide (show whr 1048576 = 2 from by decide)
  have g2031615 := hide (show whr 2031615 = 2 from by decide)
  have g2031616 := hide (show whr 2031616 = 1 from by decide)
  have g2064383 := hide (show whr 2064383 = 1 from by decide)
  have g2064384 := hide (show whr 2064384 = 2 from by decide)
  have g2088959 := hide (show whr 2088959 = 2 from by decide)
  have g2088960 := hide (show whr 2088960 = 3 from by decide)
  have g2095103 := hide (show whr 2095103 = 8 from by decide)
  have g2095104 := hide (show whr 2095104 = 2 from by decide)
  have g2097151 := hide (show whr 2097151 = 2 from by decide)
  go_enter Try.func6, Try.ntmps6
  (go_wp2_with fail; refine Cl.m (live03_calls _) ?_; intro w1 hb1)
  go_wp2_with fail
  refine (hspan _).mono ?_
  rintro e w2 ⟨v, rfl, hown, hb2⟩
  obtain ⟨g, c, rfl, hgb, hgl⟩ := World.ownsRow.form hown (by decide)
  clear hspan
  go_wp2_with fail
  go_loopw [6, 7, 8, 9, 10] (fun b i f n e wr => ∃ k : Nat, k ≤ 3 ∧ i = .int .i64 (k : Int) ∧ b = .bool (inL [(1048576, 983040), (2064384, 24576), (2095104, 2048)] x k) ∧ Below w2.heap.size w2 wr) (fun _ i _ _ _ _ => 3 - (intOf i).toNat)
  case atStart => exact ⟨0, by omega, rfl, rfl, by (repeat (first | exact Below.refl _ _ | assumption | refine Below.drew ?_ | refine Bl.alloc ?_ _ | refine below_drewN ?_ _ | refine Bl.chain ?_ (by assumption) (Nat.le_refl _)))⟩
  case round =>
    obtain ⟨k, hk, rfl, rfl, hbel⟩ := hrel
    have hk2 : k = 0 ∨ k = 1 ∨ k = 2 ∨ k = 3 := by omega
    rcases hk2 with rfl | rfl | rfl | rfl
    · have ho := own_below hown hbel (Nat.le_refl _)
      obtain ⟨bb, hbb⟩ : ∃ b, inL [(1048576, 983040), (2064384, 24576), (2095104, 2048)] x 0 = b := ⟨_, rfl⟩
      have hsucc := inL_succ [(1048576, 983040), (2064384, 24576), (2095104, 2048)] x 0 1048576 983040 rfl
      rw [hbb] at hsucc ⊢
      have Hs := hide hsucc
      clear hsucc hbb
      have hc0 : wr.cell? ⟨g, 0, none⟩ = some (.int .u32 1048576) := ho.cellAt 0 (by decide)
      have hc1 : wr.cell? ⟨g, 1, none⟩ = some (.int .u32 983040) := ho.cellAt 1 (by decide)
      go_wp2_with fail
      go_quiet (fail)
      go_wp2_with fail
      go_quiet (fail)
      go_wp2_with fail
      refine Cl.m (r03WhereX_calls 1048576 2 _ _ (by omega) (by omega) g1048576.out) ?_
      intro wz0 hbz0
      go_wp2_with fail
      refine Cl.m (r03WhereX_calls 2031615 2 _ _ (by omega) (by omega) g2031615.out) ?_
      intro wz1 hbz1
      go_wp2_with fail
      refine Cl.m (r03WhereX_calls 1048575 0 _ _ (by omega) (by omega) g1048575.out) ?_
      intro wz2 hbz2
      go_wp2_with fail
      refine Cl.m (r03WhereX_calls 2031616 1 _ _ (by omega) (by omega) g2031616.out) ?_
      intro wz3 hbz3
      cases bb
      all_goals
        go_wp2_with fail
        all_goals
          go_roundw
          case rel => exact ⟨1, by omega, by go_num, congrArg Value.bool (by first | (rw [Hs.out, Bool.eq_iff_iff]; simp; done) | (rw [Hs.out, Bool.eq_iff_iff]; simp; omega)), by (repeat (first | exact Below.refl _ _ | assumption | refine Below.drew ?_ | refine Bl.alloc ?_ _ | refine below_drewN ?_ _ | refine Bl.chain ?_ (by assumption) (Nat.le_refl _)))⟩
          case measure => simp [intOf]
    · have ho := own_below hown hbel (Nat.le_refl _)
      obtain ⟨bb, hbb⟩ : ∃ b, inL [(1048576, 983040), (2064384, 24576), (2095104, 2048)] x 1 = b := ⟨_, rfl⟩
      have hsucc := inL_succ [(1048576, 983040), (2064384, 24576), (2095104, 2048)] x 1 2064384 24576 rfl
      rw [hbb] at hsucc ⊢
      have Hs := hide hsucc
      clear hsucc hbb
      have hc0 : wr.cell? ⟨g, 0, none⟩ = some (.int .u32 1048576) := ho.cellAt 0 (by decide)
      have hc1 : wr.cell? ⟨g, 1, none⟩ = some (.int .u32 983040) := ho.cellAt 1 (by decide)
      have hc2 : wr.cell? ⟨g, 2, none⟩ = some (.int .u32 2064384) := ho.cellAt 2 (by decide)
      have hc3 : wr.cell? ⟨g, 3, none⟩ = some (.int .u32 24576) := ho.cellAt 3 (by decide)
      go_wp2_with fail
      go_quiet (fail)
      go_wp2_with fail
      go_quiet (fail)
      go_wp2_with fail
      refine Cl.m (r03WhereX_calls 2064384 2 _ _ (by omega) (by omega) g2064384.out) ?_
      intro wz0 hbz0
      go_wp2_with fail
      refine Cl.m (r03WhereX_calls 2088959 2 _ _ (by omega) (by omega) g2088959.out) ?_
      intro wz1 hbz1
      go_wp2_with fail
      refine Cl.m (r03WhereX_calls 2064383 1 _ _ (by omega) (by omega) g2064383.out) ?_
      intro wz2 hbz2
      go_wp2_with fail
      refine Cl.m (r03WhereX_calls 2088960 3 _ _ (by omega) (by omega) g2088960.out) ?_
      intro wz3 hbz3
      cases bb
      all_goals
        go_wp2_with fail
        all_goals
          go_roundw
          case rel => exact ⟨2, by omega, by go_num, congrArg Value.bool (by first | (rw [Hs.out, Bool.eq_iff_iff]; simp; done) | (rw [Hs.out, Bool.eq_iff_iff]; simp; omega)), by (repeat (first | exact Below.refl _ _ | assumption | refine Below.drew ?_ | refine Bl.alloc ?_ _ | refine below_drewN ?_ _ | refine Bl.chain ?_ (by assumption) (Nat.le_refl _)))⟩
          case measure => simp [intOf]
    · have ho := own_below hown hbel (Nat.le_refl _)
      obtain ⟨bb, hbb⟩ : ∃ b, inL [(1048576, 983040), (2064384, 24576), (2095104, 2048)] x 2 = b := ⟨_, rfl⟩
      have hsucc := inL_succ [(1048576, 983040), (2064384, 24576), (2095104, 2048)] x 2 2095104 2048 rfl
      rw [hbb] at hsucc ⊢
      have Hs := hide hsucc
      clear hsucc hbb
      have hc2 : wr.cell? ⟨g, 2, none⟩ = some (.int .u32 2064384) := ho.cellAt 2 (by decide)
      have hc3 : wr.cell? ⟨g, 3, none⟩ = some (.int .u32 24576) := ho.cellAt 3 (by decide)
      have hc4 : wr.cell? ⟨g, 4, none⟩ = some (.int .u32 2095104) := ho.cellAt 4 (by decide)
      have hc5 : wr.cell? ⟨g, 5, none⟩ = some (.int .u32 2048) := ho.cellAt 5 (by decide)
      go_wp2_with fail
      go_quiet (fail)
      go_wp2_with fail
      go_quiet (fail)
      go_wp2_with fail
      refine Cl.m (r03WhereX_calls 2095104 2 _ _ (by omega) (by omega) g2095104.out) ?_
      intro wz0 hbz0
      go_wp2_with fail
      refine Cl.m (r03WhereX_calls 2097151 2 _ _ (by omega) (by omega) g2097151.out) ?_
      intro wz1 hbz1
      go_wp2_with fail
      refine Cl.m (r03WhereX_calls 2095103 8 _ _ (by omega) (by omega) g2095103.out) ?_
      intro wz2 hbz2
      cases bb
      all_goals
        go_wp2_with fail
        all_goals
          go_roundw
          case rel => exact ⟨3, by omega, by go_num, congrArg Value.bool (by first | (rw [Hs.out, Bool.eq_iff_iff]; simp; done) | (rw [Hs.out, Bool.eq_iff_iff]; simp; omega)), by (repeat (first | exact Below.refl _ _ | assumption | refine Below.drew ?_ | refine Bl.alloc ?_ _ | refine below_drewN ?_ _ | refine Bl.chain ?_ (by assumption) (Nat.le_refl _)))⟩
          case measure => simp [intOf]
    · rw [show inL [(1048576, 983040), (2064384, 24576), (2095104, 2048)] x 3 = decide (whr a = 2) from Hin.out]
      go_wp2_with fail
      refine Cl.m (r03Where_calls a _ ha) ?_
      intro w3 hb3
      go_wp2_with fail
      go_ret
      exact ⟨congrArg (fun b => Ending.returned (.bool b)) (by first | exact Hbq.out | (have h := Hbq.out; simpa using h)), by (repeat (first | exact Below.refl _ _ | assumption | refine Below.drew ?_ | refine Bl.alloc ?_ _ | refine below_drewN ?_ _ | refine Bl.chain ?_ (by assumption) (Nat.le_refl _)))⟩
set_option maxRecDepth 100000 in
set_option maxHeartbeats 4000000 in
theorem physSpans3_calls (a : Nat) (w : World) (ha : a < 4294967296) :
    Calls Try.prog 6 #[.int .u8 ((3 : Nat) : Int), .int .u32 (a : Int)] w fun e w' => e = .returned (.bool true) ∧ Below w.heap.size w w' := by
  have hin := in_all 3 a
  have hspan := fun W => phSpan_calls 3 W (by omega)
  rw [rowsL_all.2.2.2.1] at hspan hin
  have hx2 : a % 2097152 < 2097152 := Nat.mod_lt _ (by omega)
  have hx : (a : Int) % 2097152 = ((a % 2097152 : Nat) : Int) := by omega
  generalize a % 2097152 = x at *
  have Hin := hide hin
  have Hbq := hide (dec_beq (whr a) 3)
  clear hin
  have g2088959 := hide (show whr 2088959 = 2 from by decide)
  have g2088960 := hide (show whr 2088960 = 3 from by decide)
  have g2089983 := hide (show whr 2089983 = 3 from by decide)
  have g2089984 := hide (show whr 2089984 = 4 from by decide)
  go_enter Try.func6, Try.ntmps6
  (go_wp2_with fail; refine Cl.m (live03_calls _) ?_; intro w1 hb1)
  go_wp2_with fail
  refine (hspan _).mono ?_
  rintro e w2 ⟨v, rfl, hown, hb2⟩
  obtain ⟨g, c, rfl, hgb, hgl⟩ := World.ownsRow.form hown (by decide)
  clear hspan
  go_wp2_with fail
  go_loopw [6, 7, 8, 9, 10] (fun b i f n e wr => ∃ k : Nat, k ≤ 1 ∧ i = .int .i64 (k : Int) ∧ b = .bool (inL [(2088960, 1024)] x k) ∧ Below w2.heap.size w2 wr) (fun _ i _ _ _ _ => 1 - (intOf i).toNat)
  case atStart => exact ⟨0, by omega, rfl, rfl, by (repeat (first | exact Below.refl _ _ | assumption | refine Below.drew ?_ | refine Bl.alloc ?_ _ | refine below_drewN ?_ _ | refine Bl.chain ?_ (by assumption) (Nat.le_refl _)))⟩
  case round =>
    obtain ⟨k, hk, rfl, rfl, hbel⟩ := hrel
    have hk2 : k = 0 ∨ k = 1 := by omega
    rcases hk2 with rfl | rfl
    · have ho := own_below hown hbel (Nat.le_refl _)
      obtain ⟨bb, hbb⟩ : ∃ b, inL [(2088960, 1024)] x 0 = b := ⟨_, rfl⟩
      have hsucc := inL_succ [(2088960, 1024)] x 0 2088960 1024 rfl
      rw [hbb] at hsucc ⊢
      have Hs := hide hsucc
      clear hsucc hbb
      have hc0 : wr.cell? ⟨g, 0, none⟩ = some (.int .u32 2088960) := ho.cellAt 0 (by decide)
      have hc1 : wr.cell? ⟨g, 1, none⟩ = some (.int .u32 1024) := ho.cellAt 1 (by decide)
      go_wp2_with fail
      go_quiet (fail)
      go_wp2_with fail
      go_quiet (fail)
      go_wp2_with fail
      refine Cl.m (r03WhereX_calls 2088960 3 _ _ (by omega) (by omega) g2088960.out) ?_
      intro wz0 hbz0
      go_wp2_with fail
      refine Cl.m (r03WhereX_calls 2089983 3 _ _ (by omega) (by omega) g2089983.out) ?_
      intro wz1 hbz1
      go_wp2_with fail
      refine Cl.m (r03WhereX_calls 2088959 2 _ _ (by omega) (by omega) g2088959.out) ?_
      intro wz2 hbz2
      go_wp2_with fail
      refine Cl.m (r03WhereX_calls 2089984 4 _ _ (by omega) (by omega) g2089984.out) ?_
      intro wz3 hbz3
      cases bb
      all_goals
        go_wp2_with fail
        all_goals
          go_roundw
          case rel => exact ⟨1, by omega, by go_num, congrArg Value.bool (by first | (rw [Hs.out, Bool.eq_iff_iff]; simp; done) | (rw [Hs.out, Bool.eq_iff_iff]; simp; omega)), by (repeat (first | exact Below.refl _ _ | assumption | refine Below.drew ?_ | refine Bl.alloc ?_ _ | refine below_drewN ?_ _ | refine Bl.chain ?_ (by assumption) (Nat.le_refl _)))⟩
          case measure => simp [intOf]
    · rw [show inL [(2088960, 1024)] x 1 = decide (whr a = 3) from Hin.out]
      go_wp2_with fail
      refine Cl.m (r03Where_calls a _ ha) ?_
      intro w3 hb3
      go_wp2_with fail
      go_ret
      exact ⟨congrArg (fun b => Ending.returned (.bool b)) (by first | exact Hbq.out | (have h := Hbq.out; simpa using h)), by (repeat (first | exact Below.refl _ _ | assumption | refine Below.drew ?_ | refine Bl.alloc ?_ _ | refine below_drewN ?_ _ | refine Bl.chain ?_ (by assumption) (Nat.le_refl _)))⟩
set_option maxRecDepth 100000 in
set_option maxHeartbeats 4000000 in
theorem physSpans4_calls (a : Nat) (w : World) (ha : a < 4294967296) :
    Calls Try.prog 6 #[.int .u8 ((4 : Nat) : Int), .int .u32 (a : Int)] w fun e w' => e = .returned (.bool true) ∧ Below w.heap.size w w' := by
  have hin := in_all 4 a
  have hspan := fun W => phSpan_calls 4 W (by omega)
  rw [rowsL_all.2.2.2.2.1] at hspan hin
  have hx2 : a % 2097152 < 2097152 := Nat.mod_lt _ (by omega)
  have hx : (a : Int) % 2097152 = ((a % 2097152 : Nat) : Int) := by omega
  generalize a % 2097152 = x at *
  have Hin := hide hin
  have Hbq := hide (dec_beq (whr a) 4)
  clear hin
  have g2089983 := hide (show whr 2089983 = 3 from by decide)
  have g2089984 := hide (show whr 2089984 = 4 from by decide)
  have g2091007 := hide (show whr 2091007 = 4 from by decide)
  have g2091008 := hide (show whr 2091008 = 5 from by decide)
  go_enter Try.func6, Try.ntmps6
  (go_wp2_with fail; refine Cl.m (live03_calls _) ?_; intro w1 hb1)
  go_wp2_with fail
  refine (hspan _).mono ?_
  rintro e w2 ⟨v, rfl, hown, hb2⟩
  obtain ⟨g, c, rfl, hgb, hgl⟩ := World.ownsRow.form hown (by decide)
  clear hspan
  go_wp2_with fail
  go_loopw [6, 7, 8, 9, 10] (fun b i f n e wr => ∃ k : Nat, k ≤ 1 ∧ i = .int .i64 (k : Int) ∧ b = .bool (inL [(2089984, 1024)] x k) ∧ Below w2.heap.size w2 wr) (fun _ i _ _ _ _ => 1 - (intOf i).toNat)
  case atStart => exact ⟨0, by omega, rfl, rfl, by (repeat (first | exact Below.refl _ _ | assumption | refine Below.drew ?_ | refine Bl.alloc ?_ _ | refine below_drewN ?_ _ | refine Bl.chain ?_ (by assumption) (Nat.le_refl _)))⟩
  case round =>
    obtain ⟨k, hk, rfl, rfl, hbel⟩ := hrel
    have hk2 : k = 0 ∨ k = 1 := by omega
    rcases hk2 with rfl | rfl
    · have ho := own_below hown hbel (Nat.le_refl _)
      obtain ⟨bb, hbb⟩ : ∃ b, inL [(2089984, 1024)] x 0 = b := ⟨_, rfl⟩
      have hsucc := inL_succ [(2089984, 1024)] x 0 2089984 1024 rfl
      rw [hbb] at hsucc ⊢
      have Hs := hide hsucc
      clear hsucc hbb
      have hc0 : wr.cell? ⟨g, 0, none⟩ = some (.int .u32 2089984) := ho.cellAt 0 (by decide)
      have hc1 : wr.cell? ⟨g, 1, none⟩ = some (.int .u32 1024) := ho.cellAt 1 (by decide)
      go_wp2_with fail
      go_quiet (fail)
      go_wp2_with fail
      go_quiet (fail)
      go_wp2_with fail
      refine Cl.m (r03WhereX_calls 2089984 4 _ _ (by omega) (by omega) g2089984.out) ?_
      intro wz0 hbz0
      go_wp2_with fail
      refine Cl.m (r03WhereX_calls 2091007 4 _ _ (by omega) (by omega) g2091007.out) ?_
      intro wz1 hbz1
      go_wp2_with fail
      refine Cl.m (r03WhereX_calls 2089983 3 _ _ (by omega) (by omega) g2089983.out) ?_
      intro wz2 hbz2
      go_wp2_with fail
      refine Cl.m (r03WhereX_calls 2091008 5 _ _ (by omega) (by omega) g2091008.out) ?_
      intro wz3 hbz3
      cases bb
      all_goals
        go_wp2_with fail
        all_goals
          go_roundw
          case rel => exact ⟨1, by omega, by go_num, congrArg Value.bool (by first | (rw [Hs.out, Bool.eq_iff_iff]; simp; done) | (rw [Hs.out, Bool.eq_iff_iff]; simp; omega)), by (repeat (first | exact Below.refl _ _ | assumption | refine Below.drew ?_ | refine Bl.alloc ?_ _ | refine below_drewN ?_ _ | refine Bl.chain ?_ (by assumption) (Nat.le_refl _)))⟩
          case measure => simp [intOf]
    · rw [show inL [(2089984, 1024)] x 1 = decide (whr a = 4) from Hin.out]
      go_wp2_with fail
      refine Cl.m (r03Where_calls a _ ha) ?_
      intro w3 hb3
      go_wp2_with fail
      go_ret
      exact ⟨congrArg (fun b => Ending.returned (.bool b)) (by first | exact Hbq.out | (have h := Hbq.out; simpa using h)), by (repeat (first | exact Below.refl _ _ | assumption | refine Below.drew ?_ | refine Bl.alloc ?_ _ | refine below_drewN ?_ _ | refine Bl.chain ?_ (by assumption) (Nat.le_refl _)))⟩
set_option maxRecDepth 100000 in
set_option maxHeartbeats 4000000 in
theorem physSpans5_calls (a : Nat) (w : World) (ha : a < 4294967296) :
    Calls Try.prog 6 #[.int .u8 ((5 : Nat) : Int), .int .u32 (a : Int)] w fun e w' => e = .returned (.bool true) ∧ Below w.heap.size w w' := by
  have hin := in_all 5 a
  have hspan := fun W => phSpan_calls 5 W (by omega)
  rw [rowsL_all.2.2.2.2.2.1] at hspan hin
  have hx2 : a % 2097152 < 2097152 := Nat.mod_lt _ (by omega)
  have hx : (a : Int) % 2097152 = ((a % 2097152 : Nat) : Int) := by omega
  generalize a % 2097152 = x at *
  have Hin := hide hin
  have Hbq := hide (dec_beq (whr a) 5)
  clear hin
  have g2091007 := hide (show whr 2091007 = 4 from by decide)
  have g2091008 := hide (show whr 2091008 = 5 from by decide)
  have g2092031 := hide (show whr 2092031 = 5 from by decide)
  have g2092032 := hide (show whr 2092032 = 6 from by decide)
  go_enter Try.func6, Try.ntmps6
  (go_wp2_with fail; refine Cl.m (live03_calls _) ?_; intro w1 hb1)
  go_wp2_with fail
  refine (hspan _).mono ?_
  rintro e w2 ⟨v, rfl, hown, hb2⟩
  obtain ⟨g, c, rfl, hgb, hgl⟩ := World.ownsRow.form hown (by decide)
  clear hspan
  go_wp2_with fail
  go_loopw [6, 7, 8, 9, 10] (fun b i f n e wr => ∃ k : Nat, k ≤ 1 ∧ i = .int .i64 (k : Int) ∧ b = .bool (inL [(2091008, 1024)] x k) ∧ Below w2.heap.size w2 wr) (fun _ i _ _ _ _ => 1 - (intOf i).toNat)
  case atStart => exact ⟨0, by omega, rfl, rfl, by (repeat (first | exact Below.refl _ _ | assumption | refine Below.drew ?_ | refine Bl.alloc ?_ _ | refine below_drewN ?_ _ | refine Bl.chain ?_ (by assumption) (Nat.le_refl _)))⟩
  case round =>
    obtain ⟨k, hk, rfl, rfl, hbel⟩ := hrel
    have hk2 : k = 0 ∨ k = 1 := by omega
    rcases hk2 with rfl | rfl
    · have ho := own_below hown hbel (Nat.le_refl _)
      obtain ⟨bb, hbb⟩ : ∃ b, inL [(2091008, 1024)] x 0 = b := ⟨_, rfl⟩
      have hsucc := inL_succ [(2091008, 1024)] x 0 2091008 1024 rfl
      rw [hbb] at hsucc ⊢
      have Hs := hide hsucc
      clear hsucc hbb
      have hc0 : wr.cell? ⟨g, 0, none⟩ = some (.int .u32 2091008) := ho.cellAt 0 (by decide)
      have hc1 : wr.cell? ⟨g, 1, none⟩ = some (.int .u32 1024) := ho.cellAt 1 (by decide)
      go_wp2_with fail
      go_quiet (fail)
      go_wp2_with fail
      go_quiet (fail)
      go_wp2_with fail
      refine Cl.m (r03WhereX_calls 2091008 5 _ _ (by omega) (by omega) g2091008.out) ?_
      intro wz0 hbz0
      go_wp2_with fail
      refine Cl.m (r03WhereX_calls 2092031 5 _ _ (by omega) (by omega) g2092031.out) ?_
      intro wz1 hbz1
      go_wp2_with fail
      refine Cl.m (r03WhereX_calls 2091007 4 _ _ (by omega) (by omega) g2091007.out) ?_
      intro wz2 hbz2
      go_wp2_with fail
      refine Cl.m (r03WhereX_calls 2092032 6 _ _ (by omega) (by omega) g2092032.out) ?_
      intro wz3 hbz3
      cases bb
      all_goals
        go_wp2_with fail
        all_goals
          go_roundw
          case rel => exact ⟨1, by omega, by go_num, congrArg Value.bool (by first | (rw [Hs.out, Bool.eq_iff_iff]; simp; done) | (rw [Hs.out, Bool.eq_iff_iff]; simp; omega)), by (repeat (first | exact Below.refl _ _ | assumption | refine Below.drew ?_ | refine Bl.alloc ?_ _ | refine below_drewN ?_ _ | refine Bl.chain ?_ (by assumption) (Nat.le_refl _)))⟩
          case measure => simp [intOf]
    · rw [show inL [(2091008, 1024)] x 1 = decide (whr a = 5) from Hin.out]
      go_wp2_with fail
      refine Cl.m (r03Where_calls a _ ha) ?_
      intro w3 hb3
      go_wp2_with fail
      go_ret
      exact ⟨congrArg (fun b => Ending.returned (.bool b)) (by first | exact Hbq.out | (have h := Hbq.out; simpa using h)), by (repeat (first | exact Below.refl _ _ | assumption | refine Below.drew ?_ | refine Bl.alloc ?_ _ | refine below_drewN ?_ _ | refine Bl.chain ?_ (by assumption) (Nat.le_refl _)))⟩
set_option maxRecDepth 100000 in
set_option maxHeartbeats 4000000 in
theorem physSpans6_calls (a : Nat) (w : World) (ha : a < 4294967296) :
    Calls Try.prog 6 #[.int .u8 ((6 : Nat) : Int), .int .u32 (a : Int)] w fun e w' => e = .returned (.bool true) ∧ Below w.heap.size w w' := by
  have hin := in_all 6 a
  have hspan := fun W => phSpan_calls 6 W (by omega)
  rw [rowsL_all.2.2.2.2.2.2.1] at hspan hin
  have hx2 : a % 2097152 < 2097152 := Nat.mod_lt _ (by omega)
  have hx : (a : Int) % 2097152 = ((a % 2097152 : Nat) : Int) := by omega
  generalize a % 2097152 = x at *
  have Hin := hide hin
  have Hbq := hide (dec_beq (whr a) 6)
  clear hin
  have g2092031 := hide (show whr 2092031 = 5 from by decide)
  have g2092032 := hide (show whr 2092032 = 6 from by decide)
  have g2093055 := hide (show whr 2093055 = 6 from by decide)
  have g2093056 := hide (show whr 2093056 = 7 from by decide)
  go_enter Try.func6, Try.ntmps6
  (go_wp2_with fail; refine Cl.m (live03_calls _) ?_; intro w1 hb1)
  go_wp2_with fail
  refine (hspan _).mono ?_
  rintro e w2 ⟨v, rfl, hown, hb2⟩
  obtain ⟨g, c, rfl, hgb, hgl⟩ := World.ownsRow.form hown (by decide)
  clear hspan
  go_wp2_with fail
  go_loopw [6, 7, 8, 9, 10] (fun b i f n e wr => ∃ k : Nat, k ≤ 1 ∧ i = .int .i64 (k : Int) ∧ b = .bool (inL [(2092032, 1024)] x k) ∧ Below w2.heap.size w2 wr) (fun _ i _ _ _ _ => 1 - (intOf i).toNat)
  case atStart => exact ⟨0, by omega, rfl, rfl, by (repeat (first | exact Below.refl _ _ | assumption | refine Below.drew ?_ | refine Bl.alloc ?_ _ | refine below_drewN ?_ _ | refine Bl.chain ?_ (by assumption) (Nat.le_refl _)))⟩
  case round =>
    obtain ⟨k, hk, rfl, rfl, hbel⟩ := hrel
    have hk2 : k = 0 ∨ k = 1 := by omega
    rcases hk2 with rfl | rfl
    · have ho := own_below hown hbel (Nat.le_refl _)
      obtain ⟨bb, hbb⟩ : ∃ b, inL [(2092032, 1024)] x 0 = b := ⟨_, rfl⟩
      have hsucc := inL_succ [(2092032, 1024)] x 0 2092032 1024 rfl
      rw [hbb] at hsucc ⊢
      have Hs := hide hsucc
      clear hsucc hbb
      have hc0 : wr.cell? ⟨g, 0, none⟩ = some (.int .u32 2092032) := ho.cellAt 0 (by decide)
      have hc1 : wr.cell? ⟨g, 1, none⟩ = some (.int .u32 1024) := ho.cellAt 1 (by decide)
      go_wp2_with fail
      go_quiet (fail)
      go_wp2_with fail
      go_quiet (fail)
      go_wp2_with fail
      refine Cl.m (r03WhereX_calls 2092032 6 _ _ (by omega) (by omega) g2092032.out) ?_
      intro wz0 hbz0
      go_wp2_with fail
      refine Cl.m (r03WhereX_calls 2093055 6 _ _ (by omega) (by omega) g2093055.out) ?_
      intro wz1 hbz1
      go_wp2_with fail
      refine Cl.m (r03WhereX_calls 2092031 5 _ _ (by omega) (by omega) g2092031.out) ?_
      intro wz2 hbz2
      go_wp2_with fail
      refine Cl.m (r03WhereX_calls 2093056 7 _ _ (by omega) (by omega) g2093056.out) ?_
      intro wz3 hbz3
      cases bb
      all_goals
        go_wp2_with fail
        all_goals
          go_roundw
          case rel => exact ⟨1, by omega, by go_num, congrArg Value.bool (by first | (rw [Hs.out, Bool.eq_iff_iff]; simp; done) | (rw [Hs.out, Bool.eq_iff_iff]; simp; omega)), by (repeat (first | exact Below.refl _ _ | assumption | refine Below.drew ?_ | refine Bl.alloc ?_ _ | refine below_drewN ?_ _ | refine Bl.chain ?_ (by assumption) (Nat.le_refl _)))⟩
          case measure => simp [intOf]
    · rw [show inL [(2092032, 1024)] x 1 = decide (whr a = 6) from Hin.out]
      go_wp2_with fail
      refine Cl.m (r03Where_calls a _ ha) ?_
      intro w3 hb3
      go_wp2_with fail
      go_ret
      exact ⟨congrArg (fun b => Ending.returned (.bool b)) (by first | exact Hbq.out | (have h := Hbq.out; simpa using h)), by (repeat (first | exact Below.refl _ _ | assumption | refine Below.drew ?_ | refine Bl.alloc ?_ _ | refine below_drewN ?_ _ | refine Bl.chain ?_ (by assumption) (Nat.le_refl _)))⟩
set_option maxRecDepth 100000 in
set_option maxHeartbeats 4000000 in
theorem physSpans7_calls (a : Nat) (w : World) (ha : a < 4294967296) :
    Calls Try.prog 6 #[.int .u8 ((7 : Nat) : Int), .int .u32 (a : Int)] w fun e w' => e = .returned (.bool true) ∧ Below w.heap.size w w' := by
  have hin := in_all 7 a
  have hspan := fun W => phSpan_calls 7 W (by omega)
  rw [rowsL_all.2.2.2.2.2.2.2.1] at hspan hin
  have hx2 : a % 2097152 < 2097152 := Nat.mod_lt _ (by omega)
  have hx : (a : Int) % 2097152 = ((a % 2097152 : Nat) : Int) := by omega
  generalize a % 2097152 = x at *
  have Hin := hide hin
  have Hbq := hide (dec_beq (whr a) 7)
  clear hin
  have g2093055 := hide (show whr 2093055 = 6 from by decide)
  have g2093056 := hide (show whr 2093056 = 7 from by decide)
  have g2094079 := hide (show whr 2094079 = 7 from by decide)
  have g2094080 := hide (show whr 2094080 = 8 from by decide)
  go_enter Try.func6, Try.ntmps6
  (go_wp2_with fail; refine Cl.m (live03_calls _) ?_; intro w1 hb1)
  go_wp2_with fail
  refine (hspan _).mono ?_
  rintro e w2 ⟨v, rfl, hown, hb2⟩
  obtain ⟨g, c, rfl, hgb, hgl⟩ := World.ownsRow.form hown (by decide)
  clear hspan
  go_wp2_with fail
  go_loopw [6, 7, 8, 9, 10] (fun b i f n e wr => ∃ k : Nat, k ≤ 1 ∧ i = .int .i64 (k : Int) ∧ b = .bool (inL [(2093056, 1024)] x k) ∧ Below w2.heap.size w2 wr) (fun _ i _ _ _ _ => 1 - (intOf i).toNat)
  case atStart => exact ⟨0, by omega, rfl, rfl, by (repeat (first | exact Below.refl _ _ | assumption | refine Below.drew ?_ | refine Bl.alloc ?_ _ | refine below_drewN ?_ _ | refine Bl.chain ?_ (by assumption) (Nat.le_refl _)))⟩
  case round =>
    obtain ⟨k, hk, rfl, rfl, hbel⟩ := hrel
    have hk2 : k = 0 ∨ k = 1 := by omega
    rcases hk2 with rfl | rfl
    · have ho := own_below hown hbel (Nat.le_refl _)
      obtain ⟨bb, hbb⟩ : ∃ b, inL [(2093056, 1024)] x 0 = b := ⟨_, rfl⟩
      have hsucc := inL_succ [(2093056, 1024)] x 0 2093056 1024 rfl
      rw [hbb] at hsucc ⊢
      have Hs := hide hsucc
      clear hsucc hbb
      have hc0 : wr.cell? ⟨g, 0, none⟩ = some (.int .u32 2093056) := ho.cellAt 0 (by decide)
      have hc1 : wr.cell? ⟨g, 1, none⟩ = some (.int .u32 1024) := ho.cellAt 1 (by decide)
      go_wp2_with fail
      go_quiet (fail)
      go_wp2_with fail
      go_quiet (fail)
      go_wp2_with fail
      refine Cl.m (r03WhereX_calls 2093056 7 _ _ (by omega) (by omega) g2093056.out) ?_
      intro wz0 hbz0
      go_wp2_with fail
      refine Cl.m (r03WhereX_calls 2094079 7 _ _ (by omega) (by omega) g2094079.out) ?_
      intro wz1 hbz1
      go_wp2_with fail
      refine Cl.m (r03WhereX_calls 2093055 6 _ _ (by omega) (by omega) g2093055.out) ?_
      intro wz2 hbz2
      go_wp2_with fail
      refine Cl.m (r03WhereX_calls 2094080 8 _ _ (by omega) (by omega) g2094080.out) ?_
      intro wz3 hbz3
      cases bb
      all_goals
        go_wp2_with fail
        all_goals
          go_roundw
          case rel => exact ⟨1, by omega, by go_num, congrArg Value.bool (by first | (rw [Hs.out, Bool.eq_iff_iff]; simp; done) | (rw [Hs.out, Bool.eq_iff_iff]; simp; omega)), by (repeat (first | exact Below.refl _ _ | assumption | refine Below.drew ?_ | refine Bl.alloc ?_ _ | refine below_drewN ?_ _ | refine Bl.chain ?_ (by assumption) (Nat.le_refl _)))⟩
          case measure => simp [intOf]
    · rw [show inL [(2093056, 1024)] x 1 = decide (whr a = 7) from Hin.out]
      go_wp2_with fail
      refine Cl.m (r03Where_calls a _ ha) ?_
      intro w3 hb3
      go_wp2_with fail
      go_ret
      exact ⟨congrArg (fun b => Ending.returned (.bool b)) (by first | exact Hbq.out | (have h := Hbq.out; simpa using h)), by (repeat (first | exact Below.refl _ _ | assumption | refine Below.drew ?_ | refine Bl.alloc ?_ _ | refine below_drewN ?_ _ | refine Bl.chain ?_ (by assumption) (Nat.le_refl _)))⟩
set_option maxRecDepth 100000 in
set_option maxHeartbeats 4000000 in
theorem physSpans8_calls (a : Nat) (w : World) (ha : a < 4294967296) :
    Calls Try.prog 6 #[.int .u8 ((8 : Nat) : Int), .int .u32 (a : Int)] w fun e w' => e = .returned (.bool true) ∧ Below w.heap.size w w' := by
  have hin := in_all 8 a
  have hspan := fun W => phSpan_calls 8 W (by omega)
  rw [rowsL_all.2.2.2.2.2.2.2.2] at hspan hin
  have hx2 : a % 2097152 < 2097152 := Nat.mod_lt _ (by omega)
  have hx : (a : Int) % 2097152 = ((a % 2097152 : Nat) : Int) := by omega
  generalize a % 2097152 = x at *
  have Hin := hide hin
  have Hbq := hide (dec_beq (whr a) 8)
  clear hin
  have g2094079 := hide (show whr 2094079 = 7 from by decide)
  have g2094080 := hide (show whr 2094080 = 8 from by decide)
  have g2095103 := hide (show whr 2095103 = 8 from by decide)
  have g2095104 := hide (show whr 2095104 = 2 from by decide)
  go_enter Try.func6, Try.ntmps6
  (go_wp2_with fail; refine Cl.m (live03_calls _) ?_; intro w1 hb1)
  go_wp2_with fail
  refine (hspan _).mono ?_
  rintro e w2 ⟨v, rfl, hown, hb2⟩
  obtain ⟨g, c, rfl, hgb, hgl⟩ := World.ownsRow.form hown (by decide)
  clear hspan
  go_wp2_with fail
  go_loopw [6, 7, 8, 9, 10] (fun b i f n e wr => ∃ k : Nat, k ≤ 1 ∧ i = .int .i64 (k : Int) ∧ b = .bool (inL [(2094080, 1024)] x k) ∧ Below w2.heap.size w2 wr) (fun _ i _ _ _ _ => 1 - (intOf i).toNat)
  case atStart => exact ⟨0, by omega, rfl, rfl, by (repeat (first | exact Below.refl _ _ | assumption | refine Below.drew ?_ | refine Bl.alloc ?_ _ | refine below_drewN ?_ _ | refine Bl.chain ?_ (by assumption) (Nat.le_refl _)))⟩
  case round =>
    obtain ⟨k, hk, rfl, rfl, hbel⟩ := hrel
    have hk2 : k = 0 ∨ k = 1 := by omega
    rcases hk2 with rfl | rfl
    · have ho := own_below hown hbel (Nat.le_refl _)
      obtain ⟨bb, hbb⟩ : ∃ b, inL [(2094080, 1024)] x 0 = b := ⟨_, rfl⟩
      have hsucc := inL_succ [(2094080, 1024)] x 0 2094080 1024 rfl
      rw [hbb] at hsucc ⊢
      have Hs := hide hsucc
      clear hsucc hbb
      have hc0 : wr.cell? ⟨g, 0, none⟩ = some (.int .u32 2094080) := ho.cellAt 0 (by decide)
      have hc1 : wr.cell? ⟨g, 1, none⟩ = some (.int .u32 1024) := ho.cellAt 1 (by decide)
      go_wp2_with fail
      go_quiet (fail)
      go_wp2_with fail
      go_quiet (fail)
      go_wp2_with fail
      refine Cl.m (r03WhereX_calls 2094080 8 _ _ (by omega) (by omega) g2094080.out) ?_
      intro wz0 hbz0
      go_wp2_with fail
      refine Cl.m (r03WhereX_calls 2095103 8 _ _ (by omega) (by omega) g2095103.out) ?_
      intro wz1 hbz1
      go_wp2_with fail
      refine Cl.m (r03WhereX_calls 2094079 7 _ _ (by omega) (by omega) g2094079.out) ?_
      intro wz2 hbz2
      go_wp2_with fail
      refine Cl.m (r03WhereX_calls 2095104 2 _ _ (by omega) (by omega) g2095104.out) ?_
      intro wz3 hbz3
      cases bb
      all_goals
        go_wp2_with fail
        all_goals
          go_roundw
          case rel => exact ⟨1, by omega, by go_num, congrArg Value.bool (by first | (rw [Hs.out, Bool.eq_iff_iff]; simp; done) | (rw [Hs.out, Bool.eq_iff_iff]; simp; omega)), by (repeat (first | exact Below.refl _ _ | assumption | refine Below.drew ?_ | refine Bl.alloc ?_ _ | refine below_drewN ?_ _ | refine Bl.chain ?_ (by assumption) (Nat.le_refl _)))⟩
          case measure => simp [intOf]
    · rw [show inL [(2094080, 1024)] x 1 = decide (whr a = 8) from Hin.out]
      go_wp2_with fail
      refine Cl.m (r03Where_calls a _ ha) ?_
      intro w3 hb3
      go_wp2_with fail
      go_ret
      exact ⟨congrArg (fun b => Ending.returned (.bool b)) (by first | exact Hbq.out | (have h := Hbq.out; simpa using h)), by (repeat (first | exact Below.refl _ _ | assumption | refine Below.drew ?_ | refine Bl.alloc ?_ _ | refine below_drewN ?_ _ | refine Bl.chain ?_ (by assumption) (Nat.le_refl _)))⟩
theorem physSpansN_calls (wh a : Nat) (w : World) (hw : 8 < wh) (hwh : wh < 256) (ha : a < 4294967296) :
    Calls Try.prog 6 #[.int .u8 (wh : Int), .int .u32 (a : Int)] w fun e w' => e = .returned (.bool true) ∧ Below w.heap.size w w' := by
  have hin := in_all wh a
  have hspan := fun W => phSpan_calls wh W hwh
  rw [rows_none wh hw] at hspan hin
  have Hq : (((whr a : Nat) : Int) == (wh : Int)) = false := by
    have := whr_le a
    rw [beq_eq_false_iff_ne]; omega
  clear hin
  go_enter Try.func6, Try.ntmps6
  (go_wp2_with fail; refine Cl.m (live03_calls _) ?_; intro w1 hb1)
  go_wp2_with fail
  refine (hspan _).mono ?_
  rintro e w2 ⟨v, rfl, hown, hb2⟩
  obtain ⟨o, c, rfl⟩ := own_slice hown
  clear hspan
  go_wp2_with fail
  go_loopw [6, 7, 8, 9, 10] (fun b i f n e wr => i = .int .i64 0 ∧ b = .bool false ∧ Below w2.heap.size w2 wr) (fun _ _ _ _ _ _ => 0)
  case atStart => exact ⟨rfl, rfl, by (repeat (first | exact Below.refl _ _ | assumption | refine Below.drew ?_ | refine Bl.alloc ?_ _ | refine below_drewN ?_ _ | refine Bl.chain ?_ (by assumption) (Nat.le_refl _)))⟩
  case round =>
    obtain ⟨rfl, rfl, hbel⟩ := hrel
    go_wp2_with fail
    refine Cl.m (r03Where_calls a _ ha) ?_
    intro w3 hb3
    (go_wp2_with fail; go_ret; exact ⟨rfl, by (repeat (first | exact Below.refl _ _ | assumption | refine Below.drew ?_ | refine Bl.alloc ?_ _ | refine below_drewN ?_ _ | refine Bl.chain ?_ (by assumption) (Nat.le_refl _)))⟩)
theorem physSpans_calls (wh a : Nat) (w : World) (hwh : wh < 256) (ha : a < 4294967296) :
    Calls Try.prog 6 #[.int .u8 (wh : Int), .int .u32 (a : Int)] w fun e w' => e = .returned (.bool true) ∧ Below w.heap.size w w' := by
  rcases Nat.lt_or_ge 8 wh with h | h
  · exact physSpansN_calls wh a w h hwh ha
  · have hv : wh = 0 ∨ wh = 1 ∨ wh = 2 ∨ wh = 3 ∨ wh = 4 ∨ wh = 5 ∨ wh = 6 ∨ wh = 7 ∨ wh = 8 := by omega
    rcases hv with rfl | rfl | rfl | rfl | rfl | rfl | rfl | rfl | rfl
    · exact physSpans0_calls a w ha
    · exact physSpans1_calls a w ha
    · exact physSpans2_calls a w ha
    · exact physSpans3_calls a w ha
    · exact physSpans4_calls a w ha
    · exact physSpans5_calls a w ha
    · exact physSpans6_calls a w ha
    · exact physSpans7_calls a w ha
    · exact physSpans8_calls a w ha
section
open Go.ChangeShapes Go.WideShapes Go.ChangeAt
variable {H : Type} {enc : TypeId × Value → H} {W : World} {base : Nat}
theorem walk_PhysSpans {v0 v1 : Value} {d0 d1 : DataW H} {p0 p1 : List MemPlace}
    (_hsh : W.ShapedOpen Try.prog) (_hsz : (DataW.weightsEach Try.prog [5, 22] [d0, d1]).all (· ≤ reachBytes) = true)
    (hv0 : Value.okWide Try.prog W .any base 5 v0) (hd0 : DataW.Trod enc Try.prog W 0 (fun _ => true) true 5 v0 d0 p0) (hv1 : Value.okWide Try.prog W .any base 22 v1) (hd1 : DataW.Trod enc Try.prog W 0 (fun _ => true) true 22 v1 d1 p1) :
    Calls Try.prog 6 #[v0, v1] W fun e W' => e = .returned (.bool true) ∧ Below W.heap.size W W' := by
  obtain ⟨x0, rfl, h0⟩ := open_u8 Try.underlying5 hv0 hd0
  obtain ⟨x1, rfl, h1⟩ := open_u32 Try.underlying22 hv1 hd1
  exact physSpans_calls x0 x1 W h0 h1
end
end Go.Proofs.Ytmjgkkjlgkkddaa
