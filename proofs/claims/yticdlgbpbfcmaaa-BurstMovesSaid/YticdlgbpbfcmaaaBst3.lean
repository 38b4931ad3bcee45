/-
  Package burst: Next.
-/
import Derived.Test.YticdlgbpbfcmaaaBst2
import Derived.Deep.DeepCutAuto
namespace Go.Proofs.Yticdlgbpbfcmaaa
open Go.RowKit

set_option maxHeartbeats 4000000 in
theorem bsNext0_calls (g k f t N n dt : Nat) (w : World) (hN : N ≤ 65536) (hn : n < N) (hk : k < 5) (hf : f < 65536) (ht : t < 65536) (hB : BB w g k f t N n 0 dt) :
    Calls Try.prog 12 #[.pointer (some ⟨g, 0, none⟩)] w fun e w' => e = .returned (.tuple #[.int .u8 2, .int .u16 0]) ∧ Below w.heap.size w w' := by
  have hg := hB.lt
  have hd : decide (n = N) = false := by rw [decide_eq_false_iff_not]; omega
  have hD := bsDone_calls g k f t N n 0 dt w hN (by omega) hB
  rw [hd] at hD
  have hx : ∀ W, (Instr.index 53 (.agg accA) (.int .i64 0)).run Try.prog W = .ok (.int .u8 2) W := fun W => by kernel_rfl
  have hn6 : n < 65536 := by omega
  go_enter Try.func12, Try.ntmps12
  go_wp2_with fail
  refine Cl.m hD ?_
  intro w1 hb1
  have hB1 := hB.below hb1 hg
  have hs1 := hb1.size
  have hg1 : g < w1.heap.size := hB1.lt
  have hgn : ¬ g = w1.heap.size := by omega
  have hgn2 : ¬ w1.heap.size = g := by omega
  have hZ : Blk (w1.alloc (.cells #[.int .u16 0, .int .u16 0] 48)) w1.heap.size 48 #[.int .u16 0, .int .u16 0] := Blk.new _ _ _
  go_upto_region 3 with fail
  go_cut [4, 5] (fun s4 s5 wx => ∃ gm, s4 = .pointer (some ⟨gm, 0, none⟩) ∧ wx.cell? ⟨gm, 0, none⟩ = some (.int .u16 (wyF k f n : Nat)) ∧ wx.cell? ⟨gm, 1, none⟩ = some (.int .u16 (wyT k t n : Nat)) ∧ BB wx g k f t N n 0 dt ∧ Below w.heap.size w wx)
  case first =>
    go_region_held3 (fun w' => w'.cell? ⟨g, 0, none⟩ = some (.int .u8 (k : Int)) ∧ w'.cell? ⟨g, 1, none⟩ = some (.int .u16 (f : Int)) ∧ w'.cell? ⟨g, 2, none⟩ = some (.int .u16 (t : Int)) ∧ w'.cell? ⟨g, 4, none⟩ = some (.int .i64 (n : Int))) (first | exact ⟨hB1.cell 0, hB1.cell 1, hB1.cell 2, hB1.cell 4⟩ | exact ⟨hB2.cell 0, hB2.cell 1, hB2.cell 2, hB2.cell 4⟩ | exact ⟨(hB1.alloc _).cell 0, (hB1.alloc _).cell 1, (hB1.alloc _).cell 2, (hB1.alloc _).cell 4⟩ | exact ⟨(hB2.alloc _).cell 0, (hB2.alloc _).cell 1, (hB2.alloc _).cell 2, (hB2.alloc _).cell 4⟩ | go_keep)
      (first
      | (go_at_call 19; refine Cl.m (mvAt_calls k f t n w1.drew hk hf ht hn6) ?_; intro w2 hb2; have hB2 := hB1.drew.below hb2 hB1.drew.lt; have hb3 : Below w.heap.size w w2 := (Below.drew hb1).trans (hb2.mono hs1))
      | (go_at_call 19; refine Cl.m (mvAt_calls k f t n (w1.alloc (.cells #[.int .u16 0, .int .u16 0] 48)).drew hk hf ht hn6) ?_; intro w2 hb2; have hB2 := (hB1.alloc (.cells #[.int .u16 0, .int .u16 0] 48)).drew.below hb2 (hB1.alloc (.cells #[.int .u16 0, .int .u16 0] 48)).drew.lt; have hZ2 := hZ.drew.below hb2 hZ.drew.lt; have z0 : w2.cell? ⟨w1.heap.size, 0, none⟩ = some (.int .u16 0) := hZ2.cell 0; have z1 : w2.cell? ⟨w1.heap.size, 1, none⟩ = some (.int .u16 0) := hZ2.cell 1; have fz0 := hZ2.frozen 0; have fz1 := hZ2.frozen 1; have hb3 : Below w.heap.size w w2 := (Below.drew (Bl.alloc hb1 (.cells #[.int .u16 0, .int .u16 0] 48))).trans (hb2.mono (by simp; omega))))
    all_goals
      go_wp2_with fail
      go_meet
      first
        | exact ⟨_, rfl, by simp [go_sem], by simp [go_sem], hB2.alloc _, Bl.alloc hb3 _⟩
        | exact ⟨_, rfl, ((hZ2.set_ 0 _).set_ 1 _).cell 0, ((hZ2.set_ 0 _).set_ 1 _).cell 1, (hB2.far (p := ⟨w1.heap.size, 0, none⟩) hgn _).far (p := ⟨w1.heap.size, 1, none⟩) hgn _, (hb3.setCell (p := ⟨w1.heap.size, 0, none⟩) hs1 _).setCell (p := ⟨w1.heap.size, 1, none⟩) hs1 _⟩
  case rest =>
    obtain ⟨gm, rfl, m0, m1, hB3, hb3⟩ := hcut
    have c5 : wc.cell? ⟨g, 5, none⟩ = some (.int .i64 0) := hB3.cell 5
    have d5 : wc.drew.cell? ⟨g, 5, none⟩ = some (.int .i64 0) := hB3.cell 5
    go_wp2_with fail
    go_region_held3 (fun w' => w'.cell? ⟨g, 5, none⟩ = some (.int .i64 0)) (first | exact d5 | exact e5)
      (first | (go_at_call 24; refine Cl.m (bsAcc_calls wc.drew) ?_; intro w4 hb4; have e5 : w4.cell? ⟨g, 5, none⟩ = some (.int .i64 0) := (hB3.drew.below hb4 hB3.drew.lt).cell 5))
    all_goals
      go_wp2_with fail
      go_ret2
      exact ⟨rfl, (Below.drew hb3).trans (hb4.mono hb3.size)⟩
set_option maxHeartbeats 4000000 in
theorem bsNext1_calls (g k f t N n dt : Nat) (w : World) (hN : N ≤ 65536) (hn : n < N) (hk : k < 5) (hf : f < 65536) (ht : t < 65536) (hB : BB w g k f t N n 1 dt) :
    Calls Try.prog 12 #[.pointer (some ⟨g, 0, none⟩)] w fun e w' => e = .returned (.tuple #[.int .u8 3, .int .u16 (wyF k f n : Nat)]) ∧ Below w.heap.size w w' := by
  have hg := hB.lt
  have hd : decide (n = N) = false := by rw [decide_eq_false_iff_not]; omega
  have hD := bsDone_calls g k f t N n 1 dt w hN (by omega) hB
  rw [hd] at hD
  have hx : ∀ W, (Instr.index 53 (.agg accA) (.int .i64 1)).run Try.prog W = .ok (.int .u8 3) W := fun W => by kernel_rfl
  have hn6 : n < 65536 := by omega
  go_enter Try.func12, Try.ntmps12
  go_wp2_with fail
  refine Cl.m hD ?_
  intro w1 hb1
  have hB1 := hB.below hb1 hg
  have hs1 := hb1.size
  have hg1 : g < w1.heap.size := hB1.lt
  have hgn : ¬ g = w1.heap.size := by omega
  have hgn2 : ¬ w1.heap.size = g := by omega
  have hZ : Blk (w1.alloc (.cells #[.int .u16 0, .int .u16 0] 48)) w1.heap.size 48 #[.int .u16 0, .int .u16 0] := Blk.new _ _ _
  go_upto_region 3 with fail
  go_cut [4, 5] (fun s4 s5 wx => ∃ gm, s4 = .pointer (some ⟨gm, 0, none⟩) ∧ wx.cell? ⟨gm, 0, none⟩ = some (.int .u16 (wyF k f n : Nat)) ∧ wx.cell? ⟨gm, 1, none⟩ = some (.int .u16 (wyT k t n : Nat)) ∧ BB wx g k f t N n 1 dt ∧ Below w.heap.size w wx)
  case first =>
    go_region_held3 (fun w' => w'.cell? ⟨g, 0, none⟩ = some (.int .u8 (k : Int)) ∧ w'.cell? ⟨g, 1, none⟩ = some (.int .u16 (f : Int)) ∧ w'.cell? ⟨g, 2, none⟩ = some (.int .u16 (t : Int)) ∧ w'.cell? ⟨g, 4, none⟩ = some (.int .i64 (n : Int))) (first | exact ⟨hB1.cell 0, hB1.cell 1, hB1.cell 2, hB1.cell 4⟩ | exact ⟨hB2.cell 0, hB2.cell 1, hB2.cell 2, hB2.cell 4⟩ | exact ⟨(hB1.alloc _).cell 0, (hB1.alloc _).cell 1, (hB1.alloc _).cell 2, (hB1.alloc _).cell 4⟩ | exact ⟨(hB2.alloc _).cell 0, (hB2.alloc _).cell 1, (hB2.alloc _).cell 2, (hB2.alloc _).cell 4⟩ | go_keep)
      (first
      | (go_at_call 19; refine Cl.m (mvAt_calls k f t n w1.drew hk hf ht hn6) ?_; intro w2 hb2; have hB2 := hB1.drew.below hb2 hB1.drew.lt; have hb3 : Below w.heap.size w w2 := (Below.drew hb1).trans (hb2.mono hs1))
      | (go_at_call 19; refine Cl.m (mvAt_calls k f t n (w1.alloc (.cells #[.int .u16 0, .int .u16 0] 48)).drew hk hf ht hn6) ?_; intro w2 hb2; have hB2 := (hB1.alloc (.cells #[.int .u16 0, .int .u16 0] 48)).drew.below hb2 (hB1.alloc (.cells #[.int .u16 0, .int .u16 0] 48)).drew.lt; have hZ2 := hZ.drew.below hb2 hZ.drew.lt; have z0 : w2.cell? ⟨w1.heap.size, 0, none⟩ = some (.int .u16 0) := hZ2.cell 0; have z1 : w2.cell? ⟨w1.heap.size, 1, none⟩ = some (.int .u16 0) := hZ2.cell 1; have fz0 := hZ2.frozen 0; have fz1 := hZ2.frozen 1; have hb3 : Below w.heap.size w w2 := (Below.drew (Bl.alloc hb1 (.cells #[.int .u16 0, .int .u16 0] 48))).trans (hb2.mono (by simp; omega))))
    all_goals
      go_wp2_with fail
      go_meet
      first
        | exact ⟨_, rfl, by simp [go_sem], by simp [go_sem], hB2.alloc _, Bl.alloc hb3 _⟩
        | exact ⟨_, rfl, ((hZ2.set_ 0 _).set_ 1 _).cell 0, ((hZ2.set_ 0 _).set_ 1 _).cell 1, (hB2.far (p := ⟨w1.heap.size, 0, none⟩) hgn _).far (p := ⟨w1.heap.size, 1, none⟩) hgn _, (hb3.setCell (p := ⟨w1.heap.size, 0, none⟩) hs1 _).setCell (p := ⟨w1.heap.size, 1, none⟩) hs1 _⟩
  case rest =>
    obtain ⟨gm, rfl, m0, m1, hB3, hb3⟩ := hcut
    have c5 : wc.cell? ⟨g, 5, none⟩ = some (.int .i64 1) := hB3.cell 5
    have d5 : wc.drew.cell? ⟨g, 5, none⟩ = some (.int .i64 1) := hB3.cell 5
    go_wp2_with fail
    go_region_held3 (fun w' => w'.cell? ⟨g, 5, none⟩ = some (.int .i64 1)) (first | exact d5 | exact e5)
      (first | (go_at_call 24; refine Cl.m (bsAcc_calls wc.drew) ?_; intro w4 hb4; have e5 : w4.cell? ⟨g, 5, none⟩ = some (.int .i64 1) := (hB3.drew.below hb4 hB3.drew.lt).cell 5))
    all_goals
      go_wp2_with fail
      go_ret2
      exact ⟨rfl, (Below.drew hb3).trans (hb4.mono hb3.size)⟩
set_option maxHeartbeats 4000000 in
theorem bsNext2_calls (g k f t N n dt : Nat) (w : World) (hN : N ≤ 65536) (hn : n < N) (hk : k < 5) (hf : f < 65536) (ht : t < 65536) (hB : BB w g k f t N n 2 dt) :
    Calls Try.prog 12 #[.pointer (some ⟨g, 0, none⟩)] w fun e w' => e = .returned (.tuple #[.int .u8 2, .int .u16 0]) ∧ Below w.heap.size w w' := by
  have hg := hB.lt
  have hd : decide (n = N) = false := by rw [decide_eq_false_iff_not]; omega
  have hD := bsDone_calls g k f t N n 2 dt w hN (by omega) hB
  rw [hd] at hD
  have hx : ∀ W, (Instr.index 53 (.agg accA) (.int .i64 2)).run Try.prog W = .ok (.int .u8 2) W := fun W => by kernel_rfl
  have hn6 : n < 65536 := by omega
  go_enter Try.func12, Try.ntmps12
  go_wp2_with fail
  refine Cl.m hD ?_
  intro w1 hb1
  have hB1 := hB.below hb1 hg
  have hs1 := hb1.size
  have hg1 : g < w1.heap.size := hB1.lt
  have hgn : ¬ g = w1.heap.size := by omega
  have hgn2 : ¬ w1.heap.size = g := by omega
  have hZ : Blk (w1.alloc (.cells #[.int .u16 0, .int .u16 0] 48)) w1.heap.size 48 #[.int .u16 0, .int .u16 0] := Blk.new _ _ _
  go_upto_region 3 with fail
  go_cut [4, 5] (fun s4 s5 wx => ∃ gm, s4 = .pointer (some ⟨gm, 0, none⟩) ∧ wx.cell? ⟨gm, 0, none⟩ = some (.int .u16 (wyF k f n : Nat)) ∧ wx.cell? ⟨gm, 1, none⟩ = some (.int .u16 (wyT k t n : Nat)) ∧ BB wx g k f t N n 2 dt ∧ Below w.heap.size w wx)
  case first =>
    go_region_held3 (fun w' => w'.cell? ⟨g, 0, none⟩ = some (.int .u8 (k : Int)) ∧ w'.cell? ⟨g, 1, none⟩ = some (.int .u16 (f : Int)) ∧ w'.cell? ⟨g, 2, none⟩ = some (.int .u16 (t : Int)) ∧ w'.cell? ⟨g, 4, none⟩ = some (.int .i64 (n : Int))) (first | exact ⟨hB1.cell 0, hB1.cell 1, hB1.cell 2, hB1.cell 4⟩ | exact ⟨hB2.cell 0, hB2.cell 1, hB2.cell 2, hB2.cell 4⟩ | exact ⟨(hB1.alloc _).cell 0, (hB1.alloc _).cell 1, (hB1.alloc _).cell 2, (hB1.alloc _).cell 4⟩ | exact ⟨(hB2.alloc _).cell 0, (hB2.alloc _).cell 1, (hB2.alloc _).cell 2, (hB2.alloc _).cell 4⟩ | go_keep)
      (first
      | (go_at_call 19; refine Cl.m (mvAt_calls k f t n w1.drew hk hf ht hn6) ?_; intro w2 hb2; have hB2 := hB1.drew.below hb2 hB1.drew.lt; have hb3 : Below w.heap.size w w2 := (Below.drew hb1).trans (hb2.mono hs1))
      | (go_at_call 19; refine Cl.m (mvAt_calls k f t n (w1.alloc (.cells #[.int .u16 0, .int .u16 0] 48)).drew hk hf ht hn6) ?_; intro w2 hb2; have hB2 := (hB1.alloc (.cells #[.int .u16 0, .int .u16 0] 48)).drew.below hb2 (hB1.alloc (.cells #[.int .u16 0, .int .u16 0] 48)).drew.lt; have hZ2 := hZ.drew.below hb2 hZ.drew.lt; have z0 : w2.cell? ⟨w1.heap.size, 0, none⟩ = some (.int .u16 0) := hZ2.cell 0; have z1 : w2.cell? ⟨w1.heap.size, 1, none⟩ = some (.int .u16 0) := hZ2.cell 1; have fz0 := hZ2.frozen 0; have fz1 := hZ2.frozen 1; have hb3 : Below w.heap.size w w2 := (Below.drew (Bl.alloc hb1 (.cells #[.int .u16 0, .int .u16 0] 48))).trans (hb2.mono (by simp; omega))))
    all_goals
      go_wp2_with fail
      go_meet
      first
        | exact ⟨_, rfl, by simp [go_sem], by simp [go_sem], hB2.alloc _, Bl.alloc hb3 _⟩
        | exact ⟨_, rfl, ((hZ2.set_ 0 _).set_ 1 _).cell 0, ((hZ2.set_ 0 _).set_ 1 _).cell 1, (hB2.far (p := ⟨w1.heap.size, 0, none⟩) hgn _).far (p := ⟨w1.heap.size, 1, none⟩) hgn _, (hb3.setCell (p := ⟨w1.heap.size, 0, none⟩) hs1 _).setCell (p := ⟨w1.heap.size, 1, none⟩) hs1 _⟩
  case rest =>
    obtain ⟨gm, rfl, m0, m1, hB3, hb3⟩ := hcut
    have c5 : wc.cell? ⟨g, 5, none⟩ = some (.int .i64 2) := hB3.cell 5
    have d5 : wc.drew.cell? ⟨g, 5, none⟩ = some (.int .i64 2) := hB3.cell 5
    go_wp2_with fail
    go_region_held3 (fun w' => w'.cell? ⟨g, 5, none⟩ = some (.int .i64 2)) (first | exact d5 | exact e5)
      (first | (go_at_call 24; refine Cl.m (bsAcc_calls wc.drew) ?_; intro w4 hb4; have e5 : w4.cell? ⟨g, 5, none⟩ = some (.int .i64 2) := (hB3.drew.below hb4 hB3.drew.lt).cell 5))
    all_goals
      go_wp2_with fail
      go_ret2
      exact ⟨rfl, (Below.drew hb3).trans (hb4.mono hb3.size)⟩
set_option maxHeartbeats 4000000 in
theorem bsNext3_calls (g k f t N n dt : Nat) (w : World) (hN : N ≤ 65536) (hn : n < N) (hk : k < 5) (hf : f < 65536) (ht : t < 65536) (hB : BB w g k f t N n 3 dt) :
    Calls Try.prog 12 #[.pointer (some ⟨g, 0, none⟩)] w fun e w' => e = .returned (.tuple #[.int .u8 2, .int .u16 0]) ∧ Below w.heap.size w w' := by
  have hg := hB.lt
  have hd : decide (n = N) = false := by rw [decide_eq_false_iff_not]; omega
  have hD := bsDone_calls g k f t N n 3 dt w hN (by omega) hB
  rw [hd] at hD
  have hx : ∀ W, (Instr.index 53 (.agg accA) (.int .i64 3)).run Try.prog W = .ok (.int .u8 2) W := fun W => by kernel_rfl
  have hn6 : n < 65536 := by omega
  go_enter Try.func12, Try.ntmps12
  go_wp2_with fail
  refine Cl.m hD ?_
  intro w1 hb1
  have hB1 := hB.below hb1 hg
  have hs1 := hb1.size
  have hg1 : g < w1.heap.size := hB1.lt
  have hgn : ¬ g = w1.heap.size := by omega
  have hgn2 : ¬ w1.heap.size = g := by omega
  have hZ : Blk (w1.alloc (.cells #[.int .u16 0, .int .u16 0] 48)) w1.heap.size 48 #[.int .u16 0, .int .u16 0] := Blk.new _ _ _
  go_upto_region 3 with fail
  go_cut [4, 5] (fun s4 s5 wx => ∃ gm, s4 = .pointer (some ⟨gm, 0, none⟩) ∧ wx.cell? ⟨gm, 0, none⟩ = some (.int .u16 (wyF k f n : Nat)) ∧ wx.cell? ⟨gm, 1, none⟩ = some (.int .u16 (wyT k t n : Nat)) ∧ BB wx g k f t N n 3 dt ∧ Below w.heap.size w wx)
  case first =>
    go_region_held3 (fun w' => w'.cell? ⟨g, 0, none⟩ = some (.int .u8 (k : Int)) ∧ w'.cell? ⟨g, 1, none⟩ = some (.int .u16 (f : Int)) ∧ w'.cell? ⟨g, 2, none⟩ = some (.int .u16 (t : Int)) ∧ w'.cell? ⟨g, 4, none⟩ = some (.int .i64 (n : Int))) (first | exact ⟨hB1.cell 0, hB1.cell 1, hB1.cell 2, hB1.cell 4⟩ | exact ⟨hB2.cell 0, hB2.cell 1, hB2.cell 2, hB2.cell 4⟩ | exact ⟨(hB1.alloc _).cell 0, (hB1.alloc _).cell 1, (hB1.alloc _).cell 2, (hB1.alloc _).cell 4⟩ | exact ⟨(hB2.alloc _).cell 0, (hB2.alloc _).cell 1, (hB2.alloc _).cell 2, (hB2.alloc _).cell 4⟩ | go_keep)
      (first
      | (go_at_call 19; refine Cl.m (mvAt_calls k f t n w1.drew hk hf ht hn6) ?_; intro w2 hb2; have hB2 := hB1.drew.below hb2 hB1.drew.lt; have hb3 : Below w.heap.size w w2 := (Below.drew hb1).trans (hb2.mono hs1))
      | (go_at_call 19; refine Cl.m (mvAt_calls k f t n (w1.alloc (.cells #[.int .u16 0, .int .u16 0] 48)).drew hk hf ht hn6) ?_; intro w2 hb2; have hB2 := (hB1.alloc (.cells #[.int .u16 0, .int .u16 0] 48)).drew.below hb2 (hB1.alloc (.cells #[.int .u16 0, .int .u16 0] 48)).drew.lt; have hZ2 := hZ.drew.below hb2 hZ.drew.lt; have z0 : w2.cell? ⟨w1.heap.size, 0, none⟩ = some (.int .u16 0) := hZ2.cell 0; have z1 : w2.cell? ⟨w1.heap.size, 1, none⟩ = some (.int .u16 0) := hZ2.cell 1; have fz0 := hZ2.frozen 0; have fz1 := hZ2.frozen 1; have hb3 : Below w.heap.size w w2 := (Below.drew (Bl.alloc hb1 (.cells #[.int .u16 0, .int .u16 0] 48))).trans (hb2.mono (by simp; omega))))
    all_goals
      go_wp2_with fail
      go_meet
      first
        | exact ⟨_, rfl, by simp [go_sem], by simp [go_sem], hB2.alloc _, Bl.alloc hb3 _⟩
        | exact ⟨_, rfl, ((hZ2.set_ 0 _).set_ 1 _).cell 0, ((hZ2.set_ 0 _).set_ 1 _).cell 1, (hB2.far (p := ⟨w1.heap.size, 0, none⟩) hgn _).far (p := ⟨w1.heap.size, 1, none⟩) hgn _, (hb3.setCell (p := ⟨w1.heap.size, 0, none⟩) hs1 _).setCell (p := ⟨w1.heap.size, 1, none⟩) hs1 _⟩
  case rest =>
    obtain ⟨gm, rfl, m0, m1, hB3, hb3⟩ := hcut
    have c5 : wc.cell? ⟨g, 5, none⟩ = some (.int .i64 3) := hB3.cell 5
    have d5 : wc.drew.cell? ⟨g, 5, none⟩ = some (.int .i64 3) := hB3.cell 5
    go_wp2_with fail
    go_region_held3 (fun w' => w'.cell? ⟨g, 5, none⟩ = some (.int .i64 3)) (first | exact d5 | exact e5)
      (first | (go_at_call 24; refine Cl.m (bsAcc_calls wc.drew) ?_; intro w4 hb4; have e5 : w4.cell? ⟨g, 5, none⟩ = some (.int .i64 3) := (hB3.drew.below hb4 hB3.drew.lt).cell 5))
    all_goals
      go_wp2_with fail
      go_ret2
      exact ⟨rfl, (Below.drew hb3).trans (hb4.mono hb3.size)⟩
set_option maxHeartbeats 4000000 in
theorem bsNext4_calls (g k f t N n dt : Nat) (w : World) (hN : N ≤ 65536) (hn : n < N) (hk : k < 5) (hf : f < 65536) (ht : t < 65536) (hB : BB w g k f t N n 4 dt) :
    Calls Try.prog 12 #[.pointer (some ⟨g, 0, none⟩)] w fun e w' => e = .returned (.tuple #[.int .u8 4, .int .u16 (wyT k t n : Nat)]) ∧ Below w.heap.size w w' := by
  have hg := hB.lt
  have hd : decide (n = N) = false := by rw [decide_eq_false_iff_not]; omega
  have hD := bsDone_calls g k f t N n 4 dt w hN (by omega) hB
  rw [hd] at hD
  have hx : ∀ W, (Instr.index 53 (.agg accA) (.int .i64 4)).run Try.prog W = .ok (.int .u8 4) W := fun W => by kernel_rfl
  have hn6 : n < 65536 := by omega
  go_enter Try.func12, Try.ntmps12
  go_wp2_with fail
  refine Cl.m hD ?_
  intro w1 hb1
  have hB1 := hB.below hb1 hg
  have hs1 := hb1.size
  have hg1 : g < w1.heap.size := hB1.lt
  have hgn : ¬ g = w1.heap.size := by omega
  have hgn2 : ¬ w1.heap.size = g := by omega
  have hZ : Blk (w1.alloc (.cells #[.int .u16 0, .int .u16 0] 48)) w1.heap.size 48 #[.int .u16 0, .int .u16 0] := Blk.new _ _ _
  go_upto_region 3 with fail
  go_cut [4, 5] (fun s4 s5 wx => ∃ gm, s4 = .pointer (some ⟨gm, 0, none⟩) ∧ wx.cell? ⟨gm, 0, none⟩ = some (.int .u16 (wyF k f n : Nat)) ∧ wx.cell? ⟨gm, 1, none⟩ = some (.int .u16 (wyT k t n : Nat)) ∧ BB wx g k f t N n 4 dt ∧ Below w.heap.size w wx)
  case first =>
    go_region_held3 (fun w' => w'.cell? ⟨g, 0, none⟩ = some (.int .u8 (k : Int)) ∧ w'.cell? ⟨g, 1, none⟩ = some (.int .u16 (f : Int)) ∧ w'.cell? ⟨g, 2, none⟩ = some (.int .u16 (t : Int)) ∧ w'.cell? ⟨g, 4, none⟩ = some (.int .i64 (n : Int))) (first | exact ⟨hB1.cell 0, hB1.cell 1, hB1.cell 2, hB1.cell 4⟩ | exact ⟨hB2.cell 0, hB2.cell 1, hB2.cell 2, hB2.cell 4⟩ | exact ⟨(hB1.alloc _).cell 0, (hB1.alloc _).cell 1, (hB1.alloc _).cell 2, (hB1.alloc _).cell 4⟩ | exact ⟨(hB2.alloc _).cell 0, (hB2.alloc _).cell 1, (hB2.alloc _).cell 2, (hB2.alloc _).cell 4⟩ | go_keep)
      (first
      | (go_at_call 19; refine Cl.m (mvAt_calls k f t n w1.drew hk hf ht hn6) ?_; intro w2 hb2; have hB2 := hB1.drew.below hb2 hB1.drew.lt; have hb3 : Below w.heap.size w w2 := (Below.drew hb1).trans (hb2.mono hs1))
      | (go_at_call 19; refine Cl.m (mvAt_calls k f t n (w1.alloc (.cells #[.int .u16 0, .int .u16 0] 48)).drew hk hf ht hn6) ?_; intro w2 hb2; have hB2 := (hB1.alloc (.cells #[.int .u16 0, .int .u16 0] 48)).drew.below hb2 (hB1.alloc (.cells #[.int .u16 0, .int .u16 0] 48)).drew.lt; have hZ2 := hZ.drew.below hb2 hZ.drew.lt; have z0 : w2.cell? ⟨w1.heap.size, 0, none⟩ = some (.int .u16 0) := hZ2.cell 0; have z1 : w2.cell? ⟨w1.heap.size, 1, none⟩ = some (.int .u16 0) := hZ2.cell 1; have fz0 := hZ2.frozen 0; have fz1 := hZ2.frozen 1; have hb3 : Below w.heap.size w w2 := (Below.drew (Bl.alloc hb1 (.cells #[.int .u16 0, .int .u16 0] 48))).trans (hb2.mono (by simp; omega))))
    all_goals
      go_wp2_with fail
      go_meet
      first
        | exact ⟨_, rfl, by simp [go_sem], by simp [go_sem], hB2.alloc _, Bl.alloc hb3 _⟩
        | exact ⟨_, rfl, ((hZ2.set_ 0 _).set_ 1 _).cell 0, ((hZ2.set_ 0 _).set_ 1 _).cell 1, (hB2.far (p := ⟨w1.heap.size, 0, none⟩) hgn _).far (p := ⟨w1.heap.size, 1, none⟩) hgn _, (hb3.setCell (p := ⟨w1.heap.size, 0, none⟩) hs1 _).setCell (p := ⟨w1.heap.size, 1, none⟩) hs1 _⟩
  case rest =>
    obtain ⟨gm, rfl, m0, m1, hB3, hb3⟩ := hcut
    have c5 : wc.cell? ⟨g, 5, none⟩ = some (.int .i64 4) := hB3.cell 5
    have d5 : wc.drew.cell? ⟨g, 5, none⟩ = some (.int .i64 4) := hB3.cell 5
    go_wp2_with fail
    go_region_held3 (fun w' => w'.cell? ⟨g, 5, none⟩ = some (.int .i64 4)) (first | exact d5 | exact e5)
      (first | (go_at_call 24; refine Cl.m (bsAcc_calls wc.drew) ?_; intro w4 hb4; have e5 : w4.cell? ⟨g, 5, none⟩ = some (.int .i64 4) := (hB3.drew.below hb4 hB3.drew.lt).cell 5))
    all_goals
      go_wp2_with fail
      go_ret2
      exact ⟨rfl, (Below.drew hb3).trans (hb4.mono hb3.size)⟩
set_option maxHeartbeats 4000000 in
theorem bsNext5_calls (g k f t N n dt : Nat) (w : World) (hN : N ≤ 65536) (hn : n < N) (hk : k < 5) (hf : f < 65536) (ht : t < 65536) (hB : BB w g k f t N n 5 dt) :
    Calls Try.prog 12 #[.pointer (some ⟨g, 0, none⟩)] w fun e w' => e = .returned (.tuple #[.int .u8 2, .int .u16 0]) ∧ Below w.heap.size w w' := by
  have hg := hB.lt
  have hd : decide (n = N) = false := by rw [decide_eq_false_iff_not]; omega
  have hD := bsDone_calls g k f t N n 5 dt w hN (by omega) hB
  rw [hd] at hD
  have hx : ∀ W, (Instr.index 53 (.agg accA) (.int .i64 5)).run Try.prog W = .ok (.int .u8 2) W := fun W => by kernel_rfl
  have hn6 : n < 65536 := by omega
  go_enter Try.func12, Try.ntmps12
  go_wp2_with fail
  refine Cl.m hD ?_
  intro w1 hb1
  have hB1 := hB.below hb1 hg
  have hs1 := hb1.size
  have hg1 : g < w1.heap.size := hB1.lt
  have hgn : ¬ g = w1.heap.size := by omega
  have hgn2 : ¬ w1.heap.size = g := by omega
  have hZ : Blk (w1.alloc (.cells #[.int .u16 0, .int .u16 0] 48)) w1.heap.size 48 #[.int .u16 0, .int .u16 0] := Blk.new _ _ _
  go_upto_region 3 with fail
  go_cut [4, 5] (fun s4 s5 wx => ∃ gm, s4 = .pointer (some ⟨gm, 0, none⟩) ∧ wx.cell? ⟨gm, 0, none⟩ = some (.int .u16 (wyF k f n : Nat)) ∧ wx.cell? ⟨gm, 1, none⟩ = some (.int .u16 (wyT k t n : Nat)) ∧ BB wx g k f t N n 5 dt ∧ Below w.heap.size w wx)
  case first =>
    go_region_held3 (fun w' => w'.cell? ⟨g, 0, none⟩ = some (.int .u8 (k : Int)) ∧ w'.cell? ⟨g, 1, none⟩ = some (.int .u16 (f : Int)) ∧ w'.cell? ⟨g, 2, none⟩ = some (.int .u16 (t : Int)) ∧ w'.cell? ⟨g, 4, none⟩ = some (.int .i64 (n : Int))) (first | exact ⟨hB1.cell 0, hB1.cell 1, hB1.cell 2, hB1.cell 4⟩ | exact ⟨hB2.cell 0, hB2.cell 1, hB2.cell 2, hB2.cell 4⟩ | exact ⟨(hB1.alloc _).cell 0, (hB1.alloc _).cell 1, (hB1.alloc _).cell 2, (hB1.alloc _).cell 4⟩ | exact ⟨(hB2.alloc _).cell 0, (hB2.alloc _).cell 1, (hB2.alloc _).cell 2, (hB2.alloc _).cell 4⟩ | go_keep)
      (first
      | (go_at_call 19; refine Cl.m (mvAt_calls k f t n w1.drew hk hf ht hn6) ?_; intro w2 hb2; have hB2 := hB1.drew.below hb2 hB1.drew.lt; have hb3 : Below w.heap.size w w2 := (Below.drew hb1).trans (hb2.mono hs1))
      | (go_at_call 19; refine Cl.m (mvAt_calls k f t n (w1.alloc (.cells #[.int .u16 0, .int .u16 0] 48)).drew hk hf ht hn6) ?_; intro w2 hb2; have hB2 := (hB1.alloc (.cells #[.int .u16 0, .int .u16 0] 48)).drew.below hb2 (hB1.alloc (.cells #[.int .u16 0, .int .u16 0] 48)).drew.lt; have hZ2 := hZ.drew.below hb2 hZ.drew.lt; have z0 : w2.cell? ⟨w1.heap.size, 0, none⟩ = some (.int .u16 0) := hZ2.cell 0; have z1 : w2.cell? ⟨w1.heap.size, 1, none⟩ = some (.int .u16 0) := hZ2.cell 1; have fz0 := hZ2.frozen 0; have fz1 := hZ2.frozen 1; have hb3 : Below w.heap.size w w2 := (Below.drew (Bl.alloc hb1 (.cells #[.int .u16 0, .int .u16 0] 48))).trans (hb2.mono (by simp; omega))))
    all_goals
      go_wp2_with fail
      go_meet
      first
        | exact ⟨_, rfl, by simp [go_sem], by simp [go_sem], hB2.alloc _, Bl.alloc hb3 _⟩
        | exact ⟨_, rfl, ((hZ2.set_ 0 _).set_ 1 _).cell 0, ((hZ2.set_ 0 _).set_ 1 _).cell 1, (hB2.far (p := ⟨w1.heap.size, 0, none⟩) hgn _).far (p := ⟨w1.heap.size, 1, none⟩) hgn _, (hb3.setCell (p := ⟨w1.heap.size, 0, none⟩) hs1 _).setCell (p := ⟨w1.heap.size, 1, none⟩) hs1 _⟩
  case rest =>
    obtain ⟨gm, rfl, m0, m1, hB3, hb3⟩ := hcut
    have c5 : wc.cell? ⟨g, 5, none⟩ = some (.int .i64 5) := hB3.cell 5
    have d5 : wc.drew.cell? ⟨g, 5, none⟩ = some (.int .i64 5) := hB3.cell 5
    go_wp2_with fail
    go_region_held3 (fun w' => w'.cell? ⟨g, 5, none⟩ = some (.int .i64 5)) (first | exact d5 | exact e5)
      (first | (go_at_call 24; refine Cl.m (bsAcc_calls wc.drew) ?_; intro w4 hb4; have e5 : w4.cell? ⟨g, 5, none⟩ = some (.int .i64 5) := (hB3.drew.below hb4 hB3.drew.lt).cell 5))
    all_goals
      go_wp2_with fail
      go_ret2
      exact ⟨rfl, (Below.drew hb3).trans (hb4.mono hb3.size)⟩
theorem bsNext_calls (g k f t N n ph dt : Nat) (w : World) (hN : N ≤ 65536) (hn : n < N) (hph : ph < 6) (hk : k < 5) (hf : f < 65536) (ht : t < 65536) (hB : BB w g k f t N n ph dt) :
    Calls Try.prog 12 #[.pointer (some ⟨g, 0, none⟩)] w fun e w' => e = .returned (.tuple #[.int .u8 (accV ph : Nat), .int .u16 (adV k f t n ph : Nat)]) ∧ Below w.heap.size w w' := by
  have hp : ph = 0 ∨ ph = 1 ∨ ph = 2 ∨ ph = 3 ∨ ph = 4 ∨ ph = 5 := by omega
  rcases hp with rfl | rfl | rfl | rfl | rfl | rfl
  · exact bsNext0_calls g k f t N n dt w hN hn hk hf ht hB
  · exact bsNext1_calls g k f t N n dt w hN hn hk hf ht hB
  · exact bsNext2_calls g k f t N n dt w hN hn hk hf ht hB
  · exact bsNext3_calls g k f t N n dt w hN hn hk hf ht hB
  · exact bsNext4_calls g k f t N n dt w hN hn hk hf ht hB
  · exact bsNext5_calls g k f t N n dt w hN hn hk hf ht hB
end Go.Proofs.Yticdlgbpbfcmaaa
