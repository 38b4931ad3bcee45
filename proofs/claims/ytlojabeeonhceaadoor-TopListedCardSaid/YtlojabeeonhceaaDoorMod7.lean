/-
  Package modes: more; operand of all modes.
-/
import Derived.Test.YtlojabeeonhceaaDoorMod6
namespace Go.Proofs.YtlojabeeonhceaaDoor
set_option linter.unusedSimpArgs false
set_option linter.unusedVariables false
set_option maxRecDepth 10000
open Go.RowKit Go.Shelf Pl
theorem moreRel_calls (b o c p : Nat) (B : Nat → Nat) (w : World) (hp : p < 65536) (hB : Byt w b o 1 B) :
    Calls Tryd.prog 39 #[.int .u8 11, .slice (some ⟨b, o, none⟩) 1 c, .int .u16 (p : Int)] w fun e w' => e = .returned (.string ⟨(dlr (tgt p (B 0)) 4).toArray⟩) ∧ Below w.heap.size w w' := by
  have hd := distRel_calls b o c B w hB
  have ht := target_calls p (B 0) w hp (hB 0 (by omega)).2
  have ha := fun W => address_calls (tgt p (B 0)) W (tgt_lt _ _)
  generalize dlr (tgt p (B 0)) 4 = l at *
  generalize tgt p (B 0) = t at *
  clear hB hp
  go_enter Tryd.func39, Tryd.ntmps39
  go_wp2_with fail
  refine Cl.p hd ?_
  go_wp2_with fail
  refine Cl.p ht ?_
  go_wp2_with fail
  refine Cl.m (ha _) ?_
  intro w1 hb1
  go_wp2_with fail
  go_ret
  exact ⟨rfl, hb1⟩
theorem moreZp_calls (b o c p : Nat) (B : Nat → Nat) (w : World) (hp : p < 65536) (hB : Byt w b o 2 B) :
    Calls Tryd.prog 39 #[.int .u8 12, .slice (some ⟨b, o, none⟩) 2 c, .int .u16 (p : Int)] w fun e w' => e = .returned (.string ⟨(dlr (B 0) 2 ++ 44 :: dlr (tgt p (B 1)) 4).toArray⟩) ∧ Below w.heap.size w w' := by
  have hd := distZp_calls b o c B w hB
  have ht := target_calls p (B 1) w hp (hB 1 (by omega)).2
  have ha := fun W => address_calls (tgt p (B 1)) W (tgt_lt _ _)
  have hq := fun W => place_calls (B 0) W (hB 0 (by omega)).2
  have hl1 := dlr_len (tgt p (B 1)) 4 rfl
  have hl2 := dlr_len (B 0) 2 rfl
  have hc := (hB 0 (by omega)).1
  rw [Nat.add_zero] at hc
  generalize dlr (tgt p (B 1)) 4 = l at *
  generalize tgt p (B 1) = t at *
  generalize dlr (B 0) 2 = k at *
  clear hB hp
  go_enter Tryd.func39, Tryd.ntmps39
  go_wp2_with fail
  refine Cl.p hd ?_
  go_wp2_with fail
  refine Cl.p ht ?_
  go_wp2_with fail
  refine Cl.m (ha _) ?_
  intro w1 hb1
  have hc1 := (hb1.cell (cell_lt hc)).trans hc
  clear hc
  go_wp2_with fail
  refine Cl.m (hq _) ?_
  intro w2 hb2
  go_wp2_with fail
  refine Cl.m (join2_calls w2.heap.size k l _ (Blk.new _ _ _) (by omega)) ?_
  intro w3 hb3
  go_wp2_with fail
  go_ret
  exact ⟨rfl, by (repeat (first | exact Below.refl _ _ | assumption | refine Below.drew ?_ | refine Bl.alloc ?_ _ | refine below_drewN ?_ _ | refine Bl.chain ?_ (by assumption) (Nat.le_refl _)))⟩
/-- The text of a mode's own bytes behind a byte ahead. -/
theorem opB_len (m : Nat) (l : List UInt8) : (opB m l).length ≤ l.length + 4 := by
  unfold opB
  split <;> (try split) <;> (try split) <;> (try split) <;> (try split) <;> (try split) <;> (try split) <;> (try split) <;> (try split) <;> (try split) <;> (try split) <;> simp <;> omega
theorem moreImm_calls (m b o n c p : Nat) (l : List UInt8) (B : Nat → Nat) (w : World) (hm : m = 13 ∨ m = 14 ∨ m = 15 ∨ m = 16) (hn : (n : Int) = behM m) (hnc : n ≤ c) (hp : p < 65536) (hB : Byt w b o n B) (hl : l.length ≤ 20)
    (hop : ∀ W, Byt W b o n B → Calls Tryd.prog 25 #[.int .u8 (plM m : Int), .slice (some ⟨b, o + 1, none⟩) (n - 1) (c - 1), .int .u16 (p : Int)] W fun e w' => e = .returned (.string ⟨l.toArray⟩) ∧ Below W.heap.size W w') :
    Calls Tryd.prog 39 #[.int .u8 (m : Int), .slice (some ⟨b, o, none⟩) n c, .int .u16 (p : Int)] w fun e w' => e = .returned (.string ⟨((35 :: dlr (B 0) 2) ++ 44 :: l).toArray⟩) ∧ Below w.heap.size w w' := by
  have hn2 : 2 ≤ n := by
    rcases hm with rfl | rfl | rfl | rfl <;> (have h2 : (n : Int) = _ := hn; simp [behM] at h2; omega)
  have hd := distNo_calls m n c (some ⟨b, o, none⟩) w (by omega) hn (by omega) (by omega)
  have ht := target_calls p 0 w hp (by omega)
  have ha := fun W => address_calls (tgt p 0) W (tgt_lt _ _)
  have hpl := fun W => plain_calls m b o n c W hm hn2 hnc
  have hq := fun W => place_calls (B 0) W (hB 0 (by omega)).2
  have hl2 := dlr_len (B 0) 2 rfl
  generalize dlr (tgt p 0) 4 = l0 at *
  generalize tgt p 0 = t at *
  generalize dlr (B 0) 2 = k at *
  generalize plM m = q at *
  clear hn hp hm
  have i0 : (0 : Int) < (n : Int) := by omega
  have j0 : 0 < n := by omega
  clear hn2 hnc
  go_enter Tryd.func39, Tryd.ntmps39
  go_wp2_with fail
  refine Cl.p hd ?_
  go_wp2_with fail
  refine Cl.p ht ?_
  go_wp2_with fail
  refine Cl.m (ha _) ?_
  intro w1 hb1
  have hB1 := hB.low hb1
  go_wp2_with fail
  refine Cl.m (hpl _) ?_
  intro w2 hb2
  have hB2 := hB1.low hb2
  clear hB hB1
  have hc := (hB2 0 j0).1
  rw [Nat.add_zero] at hc
  go_wp2_with fail
  refine Cl.m (hq _) ?_
  intro w3 hb3
  have hB3 := hB2.low hb3
  clear hB2 hc
  go_wp2_with fail
  refine Cl.m (hop _ hB3) ?_
  intro w4 hb4
  go_wp2_with fail
  refine Cl.m (join2_calls w4.heap.size (35 :: k) l _ (Blk.new _ _ _) (by simp only [List.length_cons]; omega)) ?_
  intro w5 hb5
  go_wp2_with fail
  go_ret
  exact ⟨rfl, by (repeat (first | exact Below.refl _ _ | assumption | refine Below.drew ?_ | refine Bl.alloc ?_ _ | refine below_drewN ?_ _ | refine Bl.chain ?_ (by assumption) (Nat.le_refl _)))⟩
/-- operand hands on to more. -/
theorem opMore_calls (m b o n c p : Nat) (l : List UInt8) (w : World) (hm : m = 11 ∨ m = 12 ∨ m = 13 ∨ m = 14 ∨ m = 15 ∨ m = 16)
    (h : Calls Tryd.prog 39 #[.int .u8 (m : Int), .slice (some ⟨b, o, none⟩) n c, .int .u16 (p : Int)] w fun e w' => e = .returned (.string ⟨l.toArray⟩) ∧ Below w.heap.size w w') :
    Calls Tryd.prog 25 #[.int .u8 (m : Int), .slice (some ⟨b, o, none⟩) n c, .int .u16 (p : Int)] w fun e w' => e = .returned (.string ⟨l.toArray⟩) ∧ Below w.heap.size w w' := by
  rcases hm with rfl | rfl | rfl | rfl | rfl | rfl
  all_goals
    go_enter Tryd.func25, Tryd.ntmps25
    go_wp2_with fail
    refine Cl.m h ?_
    intro w1 hb1
    go_wp2_with fail
    go_ret
    exact ⟨rfl, hb1⟩
/-- What stands behind a name. -/
def opnd (m : Nat) (B : Nat → Nat) (p : Nat) : List UInt8 :=
  if m = 11 then dlr (tgt p (B 0)) 4
  else if m = 12 then dlr (B 0) 2 ++ 44 :: dlr (tgt p (B 1)) 4
  else if m = 13 ∨ m = 14 then (35 :: dlr (B 0) 2) ++ 44 :: opB (plM m) (dlr (B 1) 2)
  else if m = 15 ∨ m = 16 then (35 :: dlr (B 0) 2) ++ 44 :: opB (plM m) (dlr (B 1 + 256 * B 2) 4)
  else if m = 19 then dlr (B 0 + 256 * B 1) 4 ++ 44 :: (dlr (B 2 + 256 * B 3) 4 ++ 44 :: dlr (B 4 + 256 * B 5) 4)
  else if m = 5 ∨ m = 6 ∨ m = 7 ∨ m = 17 ∨ m = 18 then opB m (dlr (B 0 + 256 * B 1) 4)
  else opB m (dlr (B 0) 2)
theorem opnd_len (m : Nat) (B : Nat → Nat) (p : Nat) : (opnd m B p).length ≤ 40 := by
  unfold opnd
  have h1 := fun n => dlr_len n 2 rfl
  have h2 := fun n => dlr_len n 4 rfl
  have h3 := fun n => opB_len m (dlr n 2)
  have h4 := fun n => opB_len m (dlr n 4)
  have h5 := fun n => opB_len (plM m) (dlr n 2)
  have h6 := fun n => opB_len (plM m) (dlr n 4)
  simp only [h1, h2] at h3 h4 h5 h6
  split
  · rw [h2]; omega
  split
  · simp only [List.length_append, List.length_cons, h1, h2]; omega
  split
  · simp only [List.length_append, List.length_cons, h1, h2]; have := h5 (B 1); omega
  split
  · simp only [List.length_append, List.length_cons, h1, h2]; have := h6 (B 1 + 256 * B 2); omega
  split
  · simp only [List.length_append, List.length_cons, h1, h2]; omega
  split
  · have := h4 (B 0 + 256 * B 1); omega
  · have := h3 (B 0); omega
theorem opnd_calls (m b o n c p : Nat) (B : Nat → Nat) (w : World) (h1 : 1 ≤ m) (hm : m < 20) (hn : (n : Int) = behM m) (hnc : n ≤ c) (hp : p < 65536) (hB : Byt w b o n B) :
    Calls Tryd.prog 25 #[.int .u8 (m : Int), .slice (some ⟨b, o, none⟩) n c, .int .u16 (p : Int)] w fun e w' => e = .returned (.string ⟨(opnd m B p).toArray⟩) ∧ Below w.heap.size w w' := by
  have h : m = 1 ∨ m = 2 ∨ m = 3 ∨ m = 4 ∨ m = 5 ∨ m = 6 ∨ m = 7 ∨ m = 8 ∨ m = 9 ∨ m = 10 ∨ m = 11 ∨ m = 12 ∨ m = 13 ∨ m = 14 ∨ m = 15 ∨ m = 16 ∨ m = 17 ∨ m = 18 ∨ m = 19 := by omega
  have len2 := fun k => dlr_len k 2 rfl
  have len4 := fun k => dlr_len k 4 rfl
  rcases h with rfl | rfl | rfl | rfl | rfl | rfl | rfl | rfl | rfl | rfl | rfl | rfl | rfl | rfl | rfl | rfl | rfl | rfl | rfl
  · obtain rfl : n = 1 := by have h2 : (n : Int) = 1 := hn; omega
    exact opB1_calls 1 b o c p B w (by omega) hB
  · obtain rfl : n = 1 := by have h2 : (n : Int) = 1 := hn; omega
    exact opB1_calls 2 b o c p B w (by omega) hB
  · obtain rfl : n = 1 := by have h2 : (n : Int) = 1 := hn; omega
    exact opB1_calls 3 b o c p B w (by omega) hB
  · obtain rfl : n = 1 := by have h2 : (n : Int) = 1 := hn; omega
    exact opB1_calls 4 b o c p B w (by omega) hB
  · obtain rfl : n = 2 := by have h2 : (n : Int) = 2 := hn; omega
    exact opB2_calls 5 b o c p B w (by omega) hB
  · obtain rfl : n = 2 := by have h2 : (n : Int) = 2 := hn; omega
    exact opB2_calls 6 b o c p B w (by omega) hB
  · obtain rfl : n = 2 := by have h2 : (n : Int) = 2 := hn; omega
    exact opB2_calls 7 b o c p B w (by omega) hB
  · obtain rfl : n = 1 := by have h2 : (n : Int) = 1 := hn; omega
    exact opB1_calls 8 b o c p B w (by omega) hB
  · obtain rfl : n = 1 := by have h2 : (n : Int) = 1 := hn; omega
    exact opB1_calls 9 b o c p B w (by omega) hB
  · obtain rfl : n = 1 := by have h2 : (n : Int) = 1 := hn; omega
    exact opB1_calls 10 b o c p B w (by omega) hB
  · obtain rfl : n = 1 := by have h2 : (n : Int) = 1 := hn; omega
    exact opMore_calls 11 b o 1 c p _ w (by omega) (moreRel_calls b o c p B w hp hB)
  · obtain rfl : n = 2 := by have h2 : (n : Int) = 2 := hn; omega
    exact opMore_calls 12 b o 2 c p _ w (by omega) (moreZp_calls b o c p B w hp hB)
  · obtain rfl : n = 2 := by have h2 : (n : Int) = 2 := hn; omega
    exact opMore_calls 13 b o 2 c p _ w (by omega) (moreImm_calls 13 b o 2 c p (opB (plM 13) (dlr (B 1) 2)) B w (by omega) (by decide) hnc hp hB (by have := opB_len (plM 13) (dlr (B 1) 2); have := len2 (B 1); omega) (fun W h => opB1_calls (plM 13) b (o + 1) (c - 1) p (fun i => B (1 + i)) W (by decide) (h.at 1 1 (by omega))))
  · obtain rfl : n = 2 := by have h2 : (n : Int) = 2 := hn; omega
    exact opMore_calls 14 b o 2 c p _ w (by omega) (moreImm_calls 14 b o 2 c p (opB (plM 14) (dlr (B 1) 2)) B w (by omega) (by decide) hnc hp hB (by have := opB_len (plM 14) (dlr (B 1) 2); have := len2 (B 1); omega) (fun W h => opB1_calls (plM 14) b (o + 1) (c - 1) p (fun i => B (1 + i)) W (by decide) (h.at 1 1 (by omega))))
  · obtain rfl : n = 3 := by have h2 : (n : Int) = 3 := hn; omega
    exact opMore_calls 15 b o 3 c p _ w (by omega) (moreImm_calls 15 b o 3 c p (opB (plM 15) (dlr (B 1 + 256 * B 2) 4)) B w (by omega) (by decide) hnc hp hB (by have := opB_len (plM 15) (dlr (B 1 + 256 * B 2) 4); have := len4 (B 1 + 256 * B 2); omega) (fun W h => opB2_calls (plM 15) b (o + 1) (c - 1) p (fun i => B (1 + i)) W (by decide) (h.at 1 2 (by omega))))
  · obtain rfl : n = 3 := by have h2 : (n : Int) = 3 := hn; omega
    exact opMore_calls 16 b o 3 c p _ w (by omega) (moreImm_calls 16 b o 3 c p (opB (plM 16) (dlr (B 1 + 256 * B 2) 4)) B w (by omega) (by decide) hnc hp hB (by have := opB_len (plM 16) (dlr (B 1 + 256 * B 2) 4); have := len4 (B 1 + 256 * B 2); omega) (fun W h => opB2_calls (plM 16) b (o + 1) (c - 1) p (fun i => B (1 + i)) W (by decide) (h.at 1 2 (by omega))))
  · obtain rfl : n = 2 := by have h2 : (n : Int) = 2 := hn; omega
    exact opB2_calls 17 b o c p B w (by omega) hB
  · obtain rfl : n = 2 := by have h2 : (n : Int) = 2 := hn; omega
    exact opB2_calls 18 b o c p B w (by omega) hB
  · obtain rfl : n = 6 := by have h2 : (n : Int) = 6 := hn; omega
    exact opBlk_calls b o c p B w hB hnc
end Go.Proofs.YtlojabeeonhceaaDoor
