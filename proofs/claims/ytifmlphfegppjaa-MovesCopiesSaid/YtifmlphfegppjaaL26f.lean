/-
  gannetlaw26: MovesCopies.
-/
import Derived.Test.YtifmlphfegppjaaL26d
namespace Go.Proofs.Ytifmlphfegppjaa
open Go.RowKit

def mem256 (A : Nat → Nat) : Array Value := arr 256 fun i => .int .u8 (A i : Int)
theorem mem256_get (A : Nat → Nat) (i : Nat) (h : i < 256) : (mem256 A)[i]? = some (.int .u8 (A i : Int)) := arr_get 256 _ i h
set_option maxRecDepth 100000 in
set_option maxHeartbeats 8000000 in
theorem copiesUpYes (f t n : Nat) (A : Nat → Nat) (w : World) (hn : 0 < n) (hf : f + n ≤ 256) (ht : t + n ≤ 256) (h1 : f < t) (h2 : t < f + n) :
    Calls Try.prog 4 #[.bool false, .int .u8 (f : Int), .int .u8 (t : Int), .int .u8 (n : Int), .agg (mem256 A)] w fun e w' => e = .returned (.bool true) ∧ Below w.heap.size w w' := by
  have i0 : ((n : Int) == 0) = false := by rw [beq_eq_false_iff_ne]; omega
  have i3 : (decide ((256 : Int) < (f : Int) + (n : Int))) = false := by rw [decide_eq_false_iff_not]; omega
  have i4 : (decide ((256 : Int) < (t : Int) + (n : Int))) = false := by rw [decide_eq_false_iff_not]; omega
  have i1 : (f : Int) < (t : Int) := by omega
  have i2 : (t : Int) < (f : Int) + (n : Int) := by omega
  have hB0 : Blk (w.alloc (.cells (mem256 A) 33)) w.heap.size 33 (mem256 A) := Blk.new _ _ _
  have hbA : Below w.heap.size w (w.alloc (.cells (mem256 A) 33)) := Bl.alloc (Below.refl _ _) _
  go_enter Try.func4, Try.ntmps4
  (go_wp2_with fail; refine Cl.m (live26_calls _) ?_; intro w1 hb1)
  have hB1 := hB0.below hb1 hB0.lt
  have hb01 : Below w.heap.size w w1 := hbA.trans (hb1.mono hbA.size)
  have hN : NumsAt w1 .u8 (some ⟨w.heap.size, 0, none⟩) 256 (fun i => (A i : Int)) := fun i hi => ⟨_, 0, rfl, hB1.lt, by rw [Nat.zero_add]; exact (hB1.cell i).trans (mem256_get A i hi)⟩
  go_wp2_with fail
  refine (mvApply_calls 0 f t n _ 256 256 A _ (by omega) (by omega) (by omega) (by omega) (by omega) (by omega) hN).mono ?_
  rintro e w2 ⟨g, c2, rfl, hR, hg, hb2⟩
  have hcn : cnt n = n := if_neg (by omega)
  rw [hcn] at hR
  have hC1 : ∀ i, ¬ (t ≤ i ∧ i < t + n) → mvA 0 f t 256 A n i = A i := mvA_far_up f t n A ht n (Nat.le_refl _)
  generalize mvA 0 f t 256 A n = C at *
  have hB2 := hB1.below hb2 hB1.lt
  have hb02 : Below w.heap.size w w2 := hb01.trans (hb2.mono hb01.size)
  have hz : ((256 : Int) != 256) = false := rfl
  clear hB0 hB1 hbA hb1 hb01 hN hb2 hcn hg
  go_wp2_with fail
  go_loopw [18] (fun i wr => ∃ j : Nat, j ≤ 256 ∧ i = .int .i64 (j : Int) ∧ wr = w2) (fun i _ => 256 - (intOf i).toNat)
  case atStart => exact ⟨0, by omega, rfl, rfl⟩
  case round =>
    obtain ⟨j, hj, rfl, rfl⟩ := hrel
    by_cases hjn : j < 256
    · have hjn' : (j : Int) < 256 := by omega
      have x0 : wr.cell? ⟨w.heap.size, j, none⟩ = some (.int .u8 (A j : Int)) := (hB2.cell j).trans (mem256_get A j hjn)
      have x1 : wr.cell? ⟨g, j, none⟩ = some (.int .u8 (C j : Int)) := hR.cell j hjn
      by_cases ha : t ≤ j
      · have a1 : (t : Int) ≤ (j : Int) := by omega
        by_cases hb : j < t + n
        · have b1 : (j : Int) < (t : Int) + (n : Int) := by omega
          have x2 : wr.cell? ⟨w.heap.size, f + j - t, none⟩ = some (.int .u8 (A (f + j - t) : Int)) := (hB2.cell _).trans (mem256_get A _ (by omega))
          have ep : (f : Int) + (j : Int) - (t : Int) = ((f + j - t : Nat) : Int) := by omega
          have hp : f + j - t < 256 := by omega
          clear ha hb hC1
          generalize f + j - t = p at *
          have hp' : (p : Int) < 256 := by omega
          have hq : ((A p : Int) != (A p : Int)) = false := bne_self_eq_false _
          have hq2 : ((C j : Int) != (C j : Int)) = false := bne_self_eq_false _
          go_wp2_with fail
          go_roundw
          case rel => exact ⟨j + 1, by omega, by go_num, trivial⟩
          case measure => simp [intOf]; omega
        · have b1 : (decide ((j : Int) < (t : Int) + (n : Int))) = false := by rw [decide_eq_false_iff_not]; omega
          rw [hC1 j (by omega)] at x1
          have hq : ((A j : Int) != (A j : Int)) = false := bne_self_eq_false _
          clear hb hC1
          go_wp2_with fail
          go_roundw
          case rel => exact ⟨j + 1, by omega, by go_num, trivial⟩
          case measure => simp [intOf]; omega
      · have a1 : (decide ((t : Int) ≤ (j : Int))) = false := by rw [decide_eq_false_iff_not]; omega
        have a2 : (decide (t ≤ j)) = false := by rw [decide_eq_false_iff_not]; omega
        rw [hC1 j (by omega)] at x1
        have hq : ((A j : Int) != (A j : Int)) = false := bne_self_eq_false _
        clear ha hC1
        go_wp2_with fail
        go_roundw
        case rel => exact ⟨j + 1, by omega, by go_num, trivial⟩
        case measure => simp [intOf]; omega
    · obtain rfl : j = 256 := by omega
      clear hC1
      go_wp2_with fail
      go_ret
      exact ⟨rfl, hb02⟩
set_option maxRecDepth 100000 in
set_option maxHeartbeats 8000000 in
theorem copiesUpFar (f t n : Nat) (A : Nat → Nat) (w : World) (hn : 0 < n) (hf : f + n ≤ 256) (ht : t + n ≤ 256) (h1 : f < t) (h2 : ¬ t < f + n) :
    Calls Try.prog 4 #[.bool false, .int .u8 (f : Int), .int .u8 (t : Int), .int .u8 (n : Int), .agg (mem256 A)] w fun e w' => e = .returned (.bool true) ∧ Below w.heap.size w w' := by
  have i0 : ((n : Int) == 0) = false := by rw [beq_eq_false_iff_ne]; omega
  have i3 : (decide ((256 : Int) < (f : Int) + (n : Int))) = false := by rw [decide_eq_false_iff_not]; omega
  have i4 : (decide ((256 : Int) < (t : Int) + (n : Int))) = false := by rw [decide_eq_false_iff_not]; omega
  have i1 : (f : Int) < (t : Int) := by omega
  have i2 : (decide ((t : Int) < (f : Int) + (n : Int))) = false := by rw [decide_eq_false_iff_not]; omega
  have hB0 : Blk (w.alloc (.cells (mem256 A) 33)) w.heap.size 33 (mem256 A) := Blk.new _ _ _
  have hbA : Below w.heap.size w (w.alloc (.cells (mem256 A) 33)) := Bl.alloc (Below.refl _ _) _
  go_enter Try.func4, Try.ntmps4
  (go_wp2_with fail; refine Cl.m (live26_calls _) ?_; intro w1 hb1)
  have hB1 := hB0.below hb1 hB0.lt
  have hb01 : Below w.heap.size w w1 := hbA.trans (hb1.mono hbA.size)
  have hN : NumsAt w1 .u8 (some ⟨w.heap.size, 0, none⟩) 256 (fun i => (A i : Int)) := fun i hi => ⟨_, 0, rfl, hB1.lt, by rw [Nat.zero_add]; exact (hB1.cell i).trans (mem256_get A i hi)⟩
  go_wp2_with fail
  refine (mvApply_calls 0 f t n _ 256 256 A _ (by omega) (by omega) (by omega) (by omega) (by omega) (by omega) hN).mono ?_
  rintro e w2 ⟨g, c2, rfl, hR, hg, hb2⟩
  have hcn : cnt n = n := if_neg (by omega)
  rw [hcn] at hR
  have hC1 : ∀ i, ¬ (t ≤ i ∧ i < t + n) → mvA 0 f t 256 A n i = A i := mvA_far_up f t n A ht n (Nat.le_refl _)
  have hC2 : ∀ i, t ≤ i → i < t + n → mvA 0 f t 256 A n i = A (f + i - t) := fun i g1 g2 => by rw [mvA_up f t n A hf ht (by omega) n (Nat.le_refl _) i, if_pos (by omega)]
  generalize mvA 0 f t 256 A n = C at *
  have hB2 := hB1.below hb2 hB1.lt
  have hb02 : Below w.heap.size w w2 := hb01.trans (hb2.mono hb01.size)
  have hz : ((256 : Int) != 256) = false := rfl
  clear hB0 hB1 hbA hb1 hb01 hN hb2 hcn hg
  go_wp2_with fail
  go_loopw [18] (fun i wr => ∃ j : Nat, j ≤ 256 ∧ i = .int .i64 (j : Int) ∧ wr = w2) (fun i _ => 256 - (intOf i).toNat)
  case atStart => exact ⟨0, by omega, rfl, rfl⟩
  case round =>
    obtain ⟨j, hj, rfl, rfl⟩ := hrel
    by_cases hjn : j < 256
    · have hjn' : (j : Int) < 256 := by omega
      have x0 : wr.cell? ⟨w.heap.size, j, none⟩ = some (.int .u8 (A j : Int)) := (hB2.cell j).trans (mem256_get A j hjn)
      have x1 : wr.cell? ⟨g, j, none⟩ = some (.int .u8 (C j : Int)) := hR.cell j hjn
      by_cases ha : t ≤ j
      · have a1 : (t : Int) ≤ (j : Int) := by omega
        by_cases hb : j < t + n
        · have b1 : (j : Int) < (t : Int) + (n : Int) := by omega
          have x2 : wr.cell? ⟨w.heap.size, f + j - t, none⟩ = some (.int .u8 (A (f + j - t) : Int)) := (hB2.cell _).trans (mem256_get A _ (by omega))
          have ep : (f : Int) + (j : Int) - (t : Int) = ((f + j - t : Nat) : Int) := by omega
          have hp : f + j - t < 256 := by omega
          rw [hC2 j ha hb] at x1
          clear hC2
          clear ha hb hC1
          generalize f + j - t = p at *
          have hp' : (p : Int) < 256 := by omega
          have hq : ((A p : Int) != (A p : Int)) = false := bne_self_eq_false _
          have hq2 : ((C j : Int) != (C j : Int)) = false := bne_self_eq_false _
          go_wp2_with fail
          go_roundw
          case rel => exact ⟨j + 1, by omega, by go_num, trivial⟩
          case measure => simp [intOf]; omega
        · have b1 : (decide ((j : Int) < (t : Int) + (n : Int))) = false := by rw [decide_eq_false_iff_not]; omega
          rw [hC1 j (by omega)] at x1
          have hq : ((A j : Int) != (A j : Int)) = false := bne_self_eq_false _
          clear hb hC1
          go_wp2_with fail
          go_roundw
          case rel => exact ⟨j + 1, by omega, by go_num, trivial⟩
          case measure => simp [intOf]; omega
      · have a1 : (decide ((t : Int) ≤ (j : Int))) = false := by rw [decide_eq_false_iff_not]; omega
        have a2 : (decide (t ≤ j)) = false := by rw [decide_eq_false_iff_not]; omega
        rw [hC1 j (by omega)] at x1
        have hq : ((A j : Int) != (A j : Int)) = false := bne_self_eq_false _
        clear ha hC1
        go_wp2_with fail
        go_roundw
        case rel => exact ⟨j + 1, by omega, by go_num, trivial⟩
        case measure => simp [intOf]; omega
    · obtain rfl : j = 256 := by omega
      clear hC1
      go_wp2_with fail
      go_ret
      exact ⟨rfl, hb02⟩
set_option maxRecDepth 100000 in
set_option maxHeartbeats 8000000 in
theorem copiesUpNo (f t n : Nat) (A : Nat → Nat) (w : World) (hn : 0 < n) (hf : f + n ≤ 256) (ht : t + n ≤ 256) (h1 : ¬ f < t) :
    Calls Try.prog 4 #[.bool false, .int .u8 (f : Int), .int .u8 (t : Int), .int .u8 (n : Int), .agg (mem256 A)] w fun e w' => e = .returned (.bool true) ∧ Below w.heap.size w w' := by
  have i0 : ((n : Int) == 0) = false := by rw [beq_eq_false_iff_ne]; omega
  have i3 : (decide ((256 : Int) < (f : Int) + (n : Int))) = false := by rw [decide_eq_false_iff_not]; omega
  have i4 : (decide ((256 : Int) < (t : Int) + (n : Int))) = false := by rw [decide_eq_false_iff_not]; omega
  have i1 : (decide ((f : Int) < (t : Int))) = false := by rw [decide_eq_false_iff_not]; omega
  have i1n : (decide (f < t)) = false := by rw [decide_eq_false_iff_not]; omega
  
  have hB0 : Blk (w.alloc (.cells (mem256 A) 33)) w.heap.size 33 (mem256 A) := Blk.new _ _ _
  have hbA : Below w.heap.size w (w.alloc (.cells (mem256 A) 33)) := Bl.alloc (Below.refl _ _) _
  go_enter Try.func4, Try.ntmps4
  (go_wp2_with fail; refine Cl.m (live26_calls _) ?_; intro w1 hb1)
  have hB1 := hB0.below hb1 hB0.lt
  have hb01 : Below w.heap.size w w1 := hbA.trans (hb1.mono hbA.size)
  have hN : NumsAt w1 .u8 (some ⟨w.heap.size, 0, none⟩) 256 (fun i => (A i : Int)) := fun i hi => ⟨_, 0, rfl, hB1.lt, by rw [Nat.zero_add]; exact (hB1.cell i).trans (mem256_get A i hi)⟩
  go_wp2_with fail
  refine (mvApply_calls 0 f t n _ 256 256 A _ (by omega) (by omega) (by omega) (by omega) (by omega) (by omega) hN).mono ?_
  rintro e w2 ⟨g, c2, rfl, hR, hg, hb2⟩
  have hcn : cnt n = n := if_neg (by omega)
  rw [hcn] at hR
  have hC1 : ∀ i, ¬ (t ≤ i ∧ i < t + n) → mvA 0 f t 256 A n i = A i := mvA_far_up f t n A ht n (Nat.le_refl _)
  have hC2 : ∀ i, t ≤ i → i < t + n → mvA 0 f t 256 A n i = A (f + i - t) := fun i g1 g2 => by rw [mvA_up f t n A hf ht (by omega) n (Nat.le_refl _) i, if_pos (by omega)]
  generalize mvA 0 f t 256 A n = C at *
  have hB2 := hB1.below hb2 hB1.lt
  have hb02 : Below w.heap.size w w2 := hb01.trans (hb2.mono hb01.size)
  have hz : ((256 : Int) != 256) = false := rfl
  clear hB0 hB1 hbA hb1 hb01 hN hb2 hcn hg
  go_wp2_with fail
  go_loopw [18] (fun i wr => ∃ j : Nat, j ≤ 256 ∧ i = .int .i64 (j : Int) ∧ wr = w2) (fun i _ => 256 - (intOf i).toNat)
  case atStart => exact ⟨0, by omega, rfl, rfl⟩
  case round =>
    obtain ⟨j, hj, rfl, rfl⟩ := hrel
    by_cases hjn : j < 256
    · have hjn' : (j : Int) < 256 := by omega
      have x0 : wr.cell? ⟨w.heap.size, j, none⟩ = some (.int .u8 (A j : Int)) := (hB2.cell j).trans (mem256_get A j hjn)
      have x1 : wr.cell? ⟨g, j, none⟩ = some (.int .u8 (C j : Int)) := hR.cell j hjn
      by_cases ha : t ≤ j
      · have a1 : (t : Int) ≤ (j : Int) := by omega
        by_cases hb : j < t + n
        · have b1 : (j : Int) < (t : Int) + (n : Int) := by omega
          have x2 : wr.cell? ⟨w.heap.size, f + j - t, none⟩ = some (.int .u8 (A (f + j - t) : Int)) := (hB2.cell _).trans (mem256_get A _ (by omega))
          have ep : (f : Int) + (j : Int) - (t : Int) = ((f + j - t : Nat) : Int) := by omega
          have hp : f + j - t < 256 := by omega
          rw [hC2 j ha hb] at x1
          clear hC2
          clear ha hb hC1
          generalize f + j - t = p at *
          have hp' : (p : Int) < 256 := by omega
          have hq : ((A p : Int) != (A p : Int)) = false := bne_self_eq_false _
          have hq2 : ((C j : Int) != (C j : Int)) = false := bne_self_eq_false _
          go_wp2_with fail
          go_roundw
          case rel => exact ⟨j + 1, by omega, by go_num, trivial⟩
          case measure => simp [intOf]; omega
        · have b1 : (decide ((j : Int) < (t : Int) + (n : Int))) = false := by rw [decide_eq_false_iff_not]; omega
          rw [hC1 j (by omega)] at x1
          have hq : ((A j : Int) != (A j : Int)) = false := bne_self_eq_false _
          clear hb hC1
          go_wp2_with fail
          go_roundw
          case rel => exact ⟨j + 1, by omega, by go_num, trivial⟩
          case measure => simp [intOf]; omega
      · have a1 : (decide ((t : Int) ≤ (j : Int))) = false := by rw [decide_eq_false_iff_not]; omega
        have a2 : (decide (t ≤ j)) = false := by rw [decide_eq_false_iff_not]; omega
        rw [hC1 j (by omega)] at x1
        have hq : ((A j : Int) != (A j : Int)) = false := bne_self_eq_false _
        clear ha hC1
        go_wp2_with fail
        go_roundw
        case rel => exact ⟨j + 1, by omega, by go_num, trivial⟩
        case measure => simp [intOf]; omega
    · obtain rfl : j = 256 := by omega
      clear hC1
      go_wp2_with fail
      go_ret
      exact ⟨rfl, hb02⟩
set_option maxRecDepth 100000 in
set_option maxHeartbeats 8000000 in
theorem copiesDownYes (f t n : Nat) (A : Nat → Nat) (w : World) (hn : 0 < n) (hf : f + n ≤ 256) (ht : t + n ≤ 256) (h1 : t < f) (h2 : f < t + n) :
    Calls Try.prog 4 #[.bool true, .int .u8 (f : Int), .int .u8 (t : Int), .int .u8 (n : Int), .agg (mem256 A)] w fun e w' => e = .returned (.bool true) ∧ Below w.heap.size w w' := by
  have i0 : ((n : Int) == 0) = false := by rw [beq_eq_false_iff_ne]; omega
  have i3 : (decide ((256 : Int) < (f : Int) + (n : Int))) = false := by rw [decide_eq_false_iff_not]; omega
  have i4 : (decide ((256 : Int) < (t : Int) + (n : Int))) = false := by rw [decide_eq_false_iff_not]; omega
  have i1 : (t : Int) < (f : Int) := by omega
  have i2 : (f : Int) < (t : Int) + (n : Int) := by omega
  have hB0 : Blk (w.alloc (.cells (mem256 A) 33)) w.heap.size 33 (mem256 A) := Blk.new _ _ _
  have hbA : Below w.heap.size w (w.alloc (.cells (mem256 A) 33)) := Bl.alloc (Below.refl _ _) _
  go_enter Try.func4, Try.ntmps4
  (go_wp2_with fail; refine Cl.m (live26_calls _) ?_; intro w1 hb1)
  have hB1 := hB0.below hb1 hB0.lt
  have hb01 : Below w.heap.size w w1 := hbA.trans (hb1.mono hbA.size)
  have hN : NumsAt w1 .u8 (some ⟨w.heap.size, 0, none⟩) 256 (fun i => (A i : Int)) := fun i hi => ⟨_, 0, rfl, hB1.lt, by rw [Nat.zero_add]; exact (hB1.cell i).trans (mem256_get A i hi)⟩
  go_wp2_with fail
  rw [show (f : Int) + (n : Int) - 1 = ((f + n - 1 : Nat) : Int) from by omega, show (t : Int) + (n : Int) - 1 = ((t + n - 1 : Nat) : Int) from by omega]
  refine (mvApply_calls 1 (f + n - 1) (t + n - 1) n _ 256 256 A _ (by omega) (by omega) (by omega) (by omega) (by omega) (by omega) hN).mono ?_
  rintro e w2 ⟨g, c2, rfl, hR, hg, hb2⟩
  have hcn : cnt n = n := if_neg (by omega)
  rw [hcn] at hR
  have hC1 : ∀ i, ¬ (t ≤ i ∧ i < t + n) → mvA 1 (f + n - 1) (t + n - 1) 256 A n i = A i := mvA_far_down (f + n - 1) t n A (by omega) ht n (Nat.le_refl _)
  generalize mvA 1 (f + n - 1) (t + n - 1) 256 A n = C at *
  have hB2 := hB1.below hb2 hB1.lt
  have hb02 : Below w.heap.size w w2 := hb01.trans (hb2.mono hb01.size)
  have hz : ((256 : Int) != 256) = false := rfl
  clear hB0 hB1 hbA hb1 hb01 hN hb2 hcn hg
  go_wp2_with fail
  go_loopw [18] (fun i wr => ∃ j : Nat, j ≤ 256 ∧ i = .int .i64 (j : Int) ∧ wr = w2) (fun i _ => 256 - (intOf i).toNat)
  case atStart => exact ⟨0, by omega, rfl, rfl⟩
  case round =>
    obtain ⟨j, hj, rfl, rfl⟩ := hrel
    by_cases hjn : j < 256
    · have hjn' : (j : Int) < 256 := by omega
      have x0 : wr.cell? ⟨w.heap.size, j, none⟩ = some (.int .u8 (A j : Int)) := (hB2.cell j).trans (mem256_get A j hjn)
      have x1 : wr.cell? ⟨g, j, none⟩ = some (.int .u8 (C j : Int)) := hR.cell j hjn
      by_cases ha : t ≤ j
      · have a1 : (t : Int) ≤ (j : Int) := by omega
        by_cases hb : j < t + n
        · have b1 : (j : Int) < (t : Int) + (n : Int) := by omega
          have x2 : wr.cell? ⟨w.heap.size, f + j - t, none⟩ = some (.int .u8 (A (f + j - t) : Int)) := (hB2.cell _).trans (mem256_get A _ (by omega))
          have ep : (f : Int) + (j : Int) - (t : Int) = ((f + j - t : Nat) : Int) := by omega
          have hp : f + j - t < 256 := by omega
          clear ha hb hC1
          generalize f + j - t = p at *
          have hp' : (p : Int) < 256 := by omega
          have hq : ((A p : Int) != (A p : Int)) = false := bne_self_eq_false _
          have hq2 : ((C j : Int) != (C j : Int)) = false := bne_self_eq_false _
          go_wp2_with fail
          go_roundw
          case rel => exact ⟨j + 1, by omega, by go_num, trivial⟩
          case measure => simp [intOf]; omega
        · have b1 : (decide ((j : Int) < (t : Int) + (n : Int))) = false := by rw [decide_eq_false_iff_not]; omega
          rw [hC1 j (by omega)] at x1
          have hq : ((A j : Int) != (A j : Int)) = false := bne_self_eq_false _
          clear hb hC1
          go_wp2_with fail
          go_roundw
          case rel => exact ⟨j + 1, by omega, by go_num, trivial⟩
          case measure => simp [intOf]; omega
      · have a1 : (decide ((t : Int) ≤ (j : Int))) = false := by rw [decide_eq_false_iff_not]; omega
        have a2 : (decide (t ≤ j)) = false := by rw [decide_eq_false_iff_not]; omega
        rw [hC1 j (by omega)] at x1
        have hq : ((A j : Int) != (A j : Int)) = false := bne_self_eq_false _
        clear ha hC1
        go_wp2_with fail
        go_roundw
        case rel => exact ⟨j + 1, by omega, by go_num, trivial⟩
        case measure => simp [intOf]; omega
    · obtain rfl : j = 256 := by omega
      clear hC1
      go_wp2_with fail
      go_ret
      exact ⟨rfl, hb02⟩
set_option maxRecDepth 100000 in
set_option maxHeartbeats 8000000 in
theorem copiesDownFar (f t n : Nat) (A : Nat → Nat) (w : World) (hn : 0 < n) (hf : f + n ≤ 256) (ht : t + n ≤ 256) (h1 : t < f) (h2 : ¬ f < t + n) :
    Calls Try.prog 4 #[.bool true, .int .u8 (f : Int), .int .u8 (t : Int), .int .u8 (n : Int), .agg (mem256 A)] w fun e w' => e = .returned (.bool true) ∧ Below w.heap.size w w' := by
  have i0 : ((n : Int) == 0) = false := by rw [beq_eq_false_iff_ne]; omega
  have i3 : (decide ((256 : Int) < (f : Int) + (n : Int))) = false := by rw [decide_eq_false_iff_not]; omega
  have i4 : (decide ((256 : Int) < (t : Int) + (n : Int))) = false := by rw [decide_eq_false_iff_not]; omega
  have i1 : (t : Int) < (f : Int) := by omega
  have i2 : (decide ((f : Int) < (t : Int) + (n : Int))) = false := by rw [decide_eq_false_iff_not]; omega
  have hB0 : Blk (w.alloc (.cells (mem256 A) 33)) w.heap.size 33 (mem256 A) := Blk.new _ _ _
  have hbA : Below w.heap.size w (w.alloc (.cells (mem256 A) 33)) := Bl.alloc (Below.refl _ _) _
  go_enter Try.func4, Try.ntmps4
  (go_wp2_with fail; refine Cl.m (live26_calls _) ?_; intro w1 hb1)
  have hB1 := hB0.below hb1 hB0.lt
  have hb01 : Below w.heap.size w w1 := hbA.trans (hb1.mono hbA.size)
  have hN : NumsAt w1 .u8 (some ⟨w.heap.size, 0, none⟩) 256 (fun i => (A i : Int)) := fun i hi => ⟨_, 0, rfl, hB1.lt, by rw [Nat.zero_add]; exact (hB1.cell i).trans (mem256_get A i hi)⟩
  go_wp2_with fail
  rw [show (f : Int) + (n : Int) - 1 = ((f + n - 1 : Nat) : Int) from by omega, show (t : Int) + (n : Int) - 1 = ((t + n - 1 : Nat) : Int) from by omega]
  refine (mvApply_calls 1 (f + n - 1) (t + n - 1) n _ 256 256 A _ (by omega) (by omega) (by omega) (by omega) (by omega) (by omega) hN).mono ?_
  rintro e w2 ⟨g, c2, rfl, hR, hg, hb2⟩
  have hcn : cnt n = n := if_neg (by omega)
  rw [hcn] at hR
  have hC1 : ∀ i, ¬ (t ≤ i ∧ i < t + n) → mvA 1 (f + n - 1) (t + n - 1) 256 A n i = A i := mvA_far_down (f + n - 1) t n A (by omega) ht n (Nat.le_refl _)
  have hC2 : ∀ i, t ≤ i → i < t + n → mvA 1 (f + n - 1) (t + n - 1) 256 A n i = A (f + i - t) := fun i g1 g2 => by rw [mvA_down f t n A (by omega) hf ht (by omega) n (Nat.le_refl _) i, if_pos (by omega)]
  generalize mvA 1 (f + n - 1) (t + n - 1) 256 A n = C at *
  have hB2 := hB1.below hb2 hB1.lt
  have hb02 : Below w.heap.size w w2 := hb01.trans (hb2.mono hb01.size)
  have hz : ((256 : Int) != 256) = false := rfl
  clear hB0 hB1 hbA hb1 hb01 hN hb2 hcn hg
  go_wp2_with fail
  go_loopw [18] (fun i wr => ∃ j : Nat, j ≤ 256 ∧ i = .int .i64 (j : Int) ∧ wr = w2) (fun i _ => 256 - (intOf i).toNat)
  case atStart => exact ⟨0, by omega, rfl, rfl⟩
  case round =>
    obtain ⟨j, hj, rfl, rfl⟩ := hrel
    by_cases hjn : j < 256
    · have hjn' : (j : Int) < 256 := by omega
      have x0 : wr.cell? ⟨w.heap.size, j, none⟩ = some (.int .u8 (A j : Int)) := (hB2.cell j).trans (mem256_get A j hjn)
      have x1 : wr.cell? ⟨g, j, none⟩ = some (.int .u8 (C j : Int)) := hR.cell j hjn
      by_cases ha : t ≤ j
      · have a1 : (t : Int) ≤ (j : Int) := by omega
        by_cases hb : j < t + n
        · have b1 : (j : Int) < (t : Int) + (n : Int) := by omega
          have x2 : wr.cell? ⟨w.heap.size, f + j - t, none⟩ = some (.int .u8 (A (f + j - t) : Int)) := (hB2.cell _).trans (mem256_get A _ (by omega))
          have ep : (f : Int) + (j : Int) - (t : Int) = ((f + j - t : Nat) : Int) := by omega
          have hp : f + j - t < 256 := by omega
          rw [hC2 j ha hb] at x1
          clear hC2
          clear ha hb hC1
          generalize f + j - t = p at *
          have hp' : (p : Int) < 256 := by omega
          have hq : ((A p : Int) != (A p : Int)) = false := bne_self_eq_false _
          have hq2 : ((C j : Int) != (C j : Int)) = false := bne_self_eq_false _
          go_wp2_with fail
          go_roundw
          case rel => exact ⟨j + 1, by omega, by go_num, trivial⟩
          case measure => simp [intOf]; omega
        · have b1 : (decide ((j : Int) < (t : Int) + (n : Int))) = false := by rw [decide_eq_false_iff_not]; omega
          rw [hC1 j (by omega)] at x1
          have hq : ((A j : Int) != (A j : Int)) = false := bne_self_eq_false _
          clear hb hC1
          go_wp2_with fail
          go_roundw
          case rel => exact ⟨j + 1, by omega, by go_num, trivial⟩
          case measure => simp [intOf]; omega
      · have a1 : (decide ((t : Int) ≤ (j : Int))) = false := by rw [decide_eq_false_iff_not]; omega
        have a2 : (decide (t ≤ j)) = false := by rw [decide_eq_false_iff_not]; omega
        rw [hC1 j (by omega)] at x1
        have hq : ((A j : Int) != (A j : Int)) = false := bne_self_eq_false _
        clear ha hC1
        go_wp2_with fail
        go_roundw
        case rel => exact ⟨j + 1, by omega, by go_num, trivial⟩
        case measure => simp [intOf]; omega
    · obtain rfl : j = 256 := by omega
      clear hC1
      go_wp2_with fail
      go_ret
      exact ⟨rfl, hb02⟩
set_option maxRecDepth 100000 in
set_option maxHeartbeats 8000000 in
theorem copiesDownNo (f t n : Nat) (A : Nat → Nat) (w : World) (hn : 0 < n) (hf : f + n ≤ 256) (ht : t + n ≤ 256) (h1 : ¬ t < f) :
    Calls Try.prog 4 #[.bool true, .int .u8 (f : Int), .int .u8 (t : Int), .int .u8 (n : Int), .agg (mem256 A)] w fun e w' => e = .returned (.bool true) ∧ Below w.heap.size w w' := by
  have i0 : ((n : Int) == 0) = false := by rw [beq_eq_false_iff_ne]; omega
  have i3 : (decide ((256 : Int) < (f : Int) + (n : Int))) = false := by rw [decide_eq_false_iff_not]; omega
  have i4 : (decide ((256 : Int) < (t : Int) + (n : Int))) = false := by rw [decide_eq_false_iff_not]; omega
  have i1 : (decide ((t : Int) < (f : Int))) = false := by rw [decide_eq_false_iff_not]; omega
  have i1n : (decide (t < f)) = false := by rw [decide_eq_false_iff_not]; omega
  
  have hB0 : Blk (w.alloc (.cells (mem256 A) 33)) w.heap.size 33 (mem256 A) := Blk.new _ _ _
  have hbA : Below w.heap.size w (w.alloc (.cells (mem256 A) 33)) := Bl.alloc (Below.refl _ _) _
  go_enter Try.func4, Try.ntmps4
  (go_wp2_with fail; refine Cl.m (live26_calls _) ?_; intro w1 hb1)
  have hB1 := hB0.below hb1 hB0.lt
  have hb01 : Below w.heap.size w w1 := hbA.trans (hb1.mono hbA.size)
  have hN : NumsAt w1 .u8 (some ⟨w.heap.size, 0, none⟩) 256 (fun i => (A i : Int)) := fun i hi => ⟨_, 0, rfl, hB1.lt, by rw [Nat.zero_add]; exact (hB1.cell i).trans (mem256_get A i hi)⟩
  go_wp2_with fail
  rw [show (f : Int) + (n : Int) - 1 = ((f + n - 1 : Nat) : Int) from by omega, show (t : Int) + (n : Int) - 1 = ((t + n - 1 : Nat) : Int) from by omega]
  refine (mvApply_calls 1 (f + n - 1) (t + n - 1) n _ 256 256 A _ (by omega) (by omega) (by omega) (by omega) (by omega) (by omega) hN).mono ?_
  rintro e w2 ⟨g, c2, rfl, hR, hg, hb2⟩
  have hcn : cnt n = n := if_neg (by omega)
  rw [hcn] at hR
  have hC1 : ∀ i, ¬ (t ≤ i ∧ i < t + n) → mvA 1 (f + n - 1) (t + n - 1) 256 A n i = A i := mvA_far_down (f + n - 1) t n A (by omega) ht n (Nat.le_refl _)
  have hC2 : ∀ i, t ≤ i → i < t + n → mvA 1 (f + n - 1) (t + n - 1) 256 A n i = A (f + i - t) := fun i g1 g2 => by rw [mvA_down f t n A (by omega) hf ht (by omega) n (Nat.le_refl _) i, if_pos (by omega)]
  generalize mvA 1 (f + n - 1) (t + n - 1) 256 A n = C at *
  have hB2 := hB1.below hb2 hB1.lt
  have hb02 : Below w.heap.size w w2 := hb01.trans (hb2.mono hb01.size)
  have hz : ((256 : Int) != 256) = false := rfl
  clear hB0 hB1 hbA hb1 hb01 hN hb2 hcn hg
  go_wp2_with fail
  go_loopw [18] (fun i wr => ∃ j : Nat, j ≤ 256 ∧ i = .int .i64 (j : Int) ∧ wr = w2) (fun i _ => 256 - (intOf i).toNat)
  case atStart => exact ⟨0, by omega, rfl, rfl⟩
  case round =>
    obtain ⟨j, hj, rfl, rfl⟩ := hrel
    by_cases hjn : j < 256
    · have hjn' : (j : Int) < 256 := by omega
      have x0 : wr.cell? ⟨w.heap.size, j, none⟩ = some (.int .u8 (A j : Int)) := (hB2.cell j).trans (mem256_get A j hjn)
      have x1 : wr.cell? ⟨g, j, none⟩ = some (.int .u8 (C j : Int)) := hR.cell j hjn
      by_cases ha : t ≤ j
      · have a1 : (t : Int) ≤ (j : Int) := by omega
        by_cases hb : j < t + n
        · have b1 : (j : Int) < (t : Int) + (n : Int) := by omega
          have x2 : wr.cell? ⟨w.heap.size, f + j - t, none⟩ = some (.int .u8 (A (f + j - t) : Int)) := (hB2.cell _).trans (mem256_get A _ (by omega))
          have ep : (f : Int) + (j : Int) - (t : Int) = ((f + j - t : Nat) : Int) := by omega
          have hp : f + j - t < 256 := by omega
          rw [hC2 j ha hb] at x1
          clear hC2
          clear ha hb hC1
          generalize f + j - t = p at *
          have hp' : (p : Int) < 256 := by omega
          have hq : ((A p : Int) != (A p : Int)) = false := bne_self_eq_false _
          have hq2 : ((C j : Int) != (C j : Int)) = false := bne_self_eq_false _
          go_wp2_with fail
          go_roundw
          case rel => exact ⟨j + 1, by omega, by go_num, trivial⟩
          case measure => simp [intOf]; omega
        · have b1 : (decide ((j : Int) < (t : Int) + (n : Int))) = false := by rw [decide_eq_false_iff_not]; omega
          rw [hC1 j (by omega)] at x1
          have hq : ((A j : Int) != (A j : Int)) = false := bne_self_eq_false _
          clear hb hC1
          go_wp2_with fail
          go_roundw
          case rel => exact ⟨j + 1, by omega, by go_num, trivial⟩
          case measure => simp [intOf]; omega
      · have a1 : (decide ((t : Int) ≤ (j : Int))) = false := by rw [decide_eq_false_iff_not]; omega
        have a2 : (decide (t ≤ j)) = false := by rw [decide_eq_false_iff_not]; omega
        rw [hC1 j (by omega)] at x1
        have hq : ((A j : Int) != (A j : Int)) = false := bne_self_eq_false _
        clear ha hC1
        go_wp2_with fail
        go_roundw
        case rel => exact ⟨j + 1, by omega, by go_num, trivial⟩
        case measure => simp [intOf]; omega
    · obtain rfl : j = 256 := by omega
      clear hC1
      go_wp2_with fail
      go_ret
      exact ⟨rfl, hb02⟩
end Go.Proofs.Ytifmlphfegppjaa
