/-
  The texts Sc7, Sc8, Sc9, Sc10, Sc11, Sc12 of the proofs about scripts, as one file (they are merged by a program).
-/
import Derived.Test.YtdhdknjefjolpaaDoorA3
import Derived.Test.YtdhdknjefjolpaaDoorA1
import Derived.Test.YtdhdknjefjolpaaDoorA2
section
/-
  script.Check.
-/
namespace Go.Proofs.YtdhdknjefjolpaaDoor
set_option linter.unusedSimpArgs false
set_option linter.unusedVariables false
set_option maxRecDepth 10000
open Go.RowKit Go.Shelf Pl
theorem EdgB.low {w w' : World} {a : Option Addr} {n : Nat} {St : Nat → Int} {Ln : Nat → Nat} {Up : Nat → Bool} {B : Nat} (h : EdgB w a n St Ln Up B) (hb : Below w.heap.size w w') : EdgB w' a n St Ln Up B := fun i hi => by
  obtain ⟨b, off, ha, hlt, h0, h1, h2⟩ := h i hi
  exact ⟨b, off, ha, hlt, (hb.cell (cell_lt h0)).trans h0, (hb.cell (cell_lt h1)).trans h1, (hb.cell (cell_lt h2)).trans h2⟩
open Classical in
noncomputable def chkA (n l0 l1 l2 : Nat) : Nat := if ¬ ChkOk n then 6 else if 10000 < l0 ∨ 10000 < l1 ∨ 10000 < l2 then 2 else 0
/-- What is wrong with a script. -/
noncomputable def chkS (n l0 l1 l2 ne : Nat) (St : Nat → Int) (Ln : Nat → Nat) (bud : Int) : Nat × Nat :=
  if chkA n l0 l1 l2 ≠ 0 then (chkA n l0 l1 l2, 0) else if (chkV St Ln ne).1 ≠ 0 then chkV St Ln ne else if bud < 0 ∨ 1099511627776 < bud then (9, 0) else (0, 0)
set_option maxHeartbeats 4000000 in
theorem sCheck_calls (o o0 o1 o2 oe : Option Addr) (n c l0 c0 l1 c1 l2 c2 ne ce : Nat) (bud : Int) (St : Nat → Int) (Ln : Nat → Nat) (Up : Nat → Bool) (w : World) (hn : n ≤ maxLen) (hE : EdgB w oe ne St Ln Up w.heap.size) :
    Calls Tryd.prog 9 #[.agg #[Value.slice o n c, Value.slice o0 l0 c0, Value.slice o1 l1 c1, Value.slice o2 l2 c2, Value.slice oe ne ce, Value.int .i64 bud]] w fun e w' => e = .returned (.agg (fltA (chkS n l0 l1 l2 ne St Ln bud))) ∧ Below w.heap.size w w' := by
  obtain ⟨a, ha, hct⟩ : ∃ a : Nat, (a = 0 ↔ ChkOk n) ∧ ((a = 0 ∨ a = 6) ∧ ∀ W : World, Calls Tryd.prog 25 #[.slice o n c] W fun e w' => e = .returned (.int .i64 (a : Int)) ∧ W = w') := by
    by_cases h : ChkOk n
    · exact ⟨0, ⟨fun _ => h, fun _ => rfl⟩, Or.inl rfl, fun W => ctCheck_ok n c o W h⟩
    · exact ⟨6, ⟨fun e => by omega, fun e => absurd e h⟩, Or.inr rfl, fun W => ctCheck_bad n c o W hn h⟩
  obtain ⟨b, hb, hfd⟩ : ∃ b : Nat, b = (if 10000 < l0 ∨ 10000 < l1 ∨ 10000 < l2 then 2 else 0) ∧ ∀ W : World, Calls Tryd.prog 26 #[.agg #[.slice o0 l0 c0, .slice o1 l1 c1, .slice o2 l2 c2]] W fun e w' => e = .returned (.int .i64 (b : Int)) ∧ Below W.heap.size W w' := by
    refine ⟨_, rfl, fun W => ?_⟩
    have h := fdCheck_calls o0 o1 o2 l0 l1 l2 c0 c1 c2 W
    split
    · rename_i g; rw [if_pos g] at h; exact h
    · rename_i g; rw [if_neg g] at h; exact h
  have hA : chkA n l0 l1 l2 = (if a = 0 then b else a) := by
    unfold chkA
    by_cases h : ChkOk n
    · rw [if_neg (by simpa using h), if_pos (ha.2 h), hb]
    · have : a = 6 := hct.1.resolve_left (fun e => h (ha.1 e))
      rw [if_pos h, if_neg (by omega), this]
  have hct := hct.2
  unfold chkS
  rw [hA]
  have horr := fun W bk h => orr_calls bk a b W h
  generalize (if a = 0 then b else a) = r at *
  clear hA ha hb hn
  have hlc0 := fun W (h : EdgB W oe ne St Ln Up W.heap.size) => lnCheck_calls oe ne ce St Ln Up W h
  generalize chkV St Ln ne = p at *
  obtain ⟨R, hR⟩ : ∃ R, (if r ≠ 0 then (r, 0) else if p.1 ≠ 0 then p else if bud < 0 ∨ 1099511627776 < bud then (9, 0) else (0, 0) : Nat × Nat) = R := ⟨_, rfl⟩
  rw [hR]
  have R1 : Hid (r ≠ 0 → R = (r, 0)) := fun h => hR.symm.trans (if_pos h)
  have R2 : Hid (r = 0 → p.1 ≠ 0 → R = p) := fun h g => by rw [← hR, if_neg (by omega), if_pos g]
  have R3 : Hid (r = 0 → p.1 = 0 → (bud < 0 ∨ 1099511627776 < bud) → R = (9, 0)) := fun h g k => by rw [← hR, if_neg (by omega), if_neg (by omega), if_pos k]
  have R4 : Hid (r = 0 → p.1 = 0 → ¬ (bud < 0 ∨ 1099511627776 < bud) → R = (0, 0)) := fun h g k => by rw [← hR, if_neg (by omega), if_neg (by omega), if_neg k]
  clear hR
  have hS : Blk ((w.alloc (.cells #[Value.slice o n c, Value.slice o0 l0 c0, Value.slice o1 l1 c1, Value.slice o2 l2 c2, Value.slice oe ne ce, Value.int .i64 bud] 27)).alloc (.cells #[Value.int .i64 0, Value.int .i64 0] 34)) w.heap.size 27 #[Value.slice o n c, Value.slice o0 l0 c0, Value.slice o1 l1 c1, Value.slice o2 l2 c2, Value.slice oe ne ce, Value.int .i64 bud] := (Blk.new w 27 #[Value.slice o n c, Value.slice o0 l0 c0, Value.slice o1 l1 c1, Value.slice o2 l2 c2, Value.slice oe ne ce, Value.int .i64 bud]).alloc _
  have hF : Blk ((w.alloc (.cells #[Value.slice o n c, Value.slice o0 l0 c0, Value.slice o1 l1 c1, Value.slice o2 l2 c2, Value.slice oe ne ce, Value.int .i64 bud] 27)).alloc (.cells #[Value.int .i64 0, Value.int .i64 0] 34)) (w.heap.size + 1) 34 #[Value.int .i64 0, Value.int .i64 0] := by
    have h := Blk.new (w.alloc (.cells #[Value.slice o n c, Value.slice o0 l0 c0, Value.slice o1 l1 c1, Value.slice o2 l2 c2, Value.slice oe ne ce, Value.int .i64 bud] 27)) 34 #[Value.int .i64 0, Value.int .i64 0]
    rwa [show (w.alloc (.cells #[Value.slice o n c, Value.slice o0 l0 c0, Value.slice o1 l1 c1, Value.slice o2 l2 c2, Value.slice oe ne ce, Value.int .i64 bud] 27)).heap.size = w.heap.size + 1 by simp] at h
  have hb2 : Below w.heap.size w ((w.alloc (.cells #[Value.slice o n c, Value.slice o0 l0 c0, Value.slice o1 l1 c1, Value.slice o2 l2 c2, Value.slice oe ne ce, Value.int .i64 bud] 27)).alloc (.cells #[Value.int .i64 0, Value.int .i64 0] 34)) := Bl.alloc (Bl.alloc (Below.refl _ _) _) _
  have hE2 := hE.below hb2 (Nat.le_refl _)
  go_enter Tryd.func9, Tryd.ntmps9
  go_wp2_with fail
  generalize (w.alloc (.cells #[Value.slice o n c, Value.slice o0 l0 c0, Value.slice o1 l1 c1, Value.slice o2 l2 c2, Value.slice oe ne ce, Value.int .i64 bud] 27)).alloc (.cells #[Value.int .i64 0, Value.int .i64 0] 34) = w2 at *
  have k0 : w2.cell? ⟨w.heap.size, 0, none⟩ = some (.slice o n c) := hS.cell 0
  have k1 : w2.cell? ⟨w.heap.size, 1, none⟩ = some (.slice o0 l0 c0) := hS.cell 1
  have k2 : w2.cell? ⟨w.heap.size, 2, none⟩ = some (.slice o1 l1 c1) := hS.cell 2
  have k3 : w2.cell? ⟨w.heap.size, 3, none⟩ = some (.slice o2 l2 c2) := hS.cell 3
  have k4 : w2.cell? ⟨w.heap.size, 4, none⟩ = some (.slice oe ne ce) := hS.cell 4
  have k5 : w2.cell? ⟨w.heap.size, 5, none⟩ = some (.int .i64 bud) := hS.cell 5
  clear hS hE
  refine wp_region_held_drew (S := fun W => W.cell? ⟨w.heap.size, 0, none⟩ = some (.slice o n c) ∧ W.cell? ⟨w.heap.size, 1, none⟩ = some (.slice o0 l0 c0) ∧ W.cell? ⟨w.heap.size, 2, none⟩ = some (.slice o1 l1 c1) ∧ W.cell? ⟨w.heap.size, 3, none⟩ = some (.slice o2 l2 c2) ∧ W.cell? ⟨w.heap.size, 4, none⟩ = some (.slice oe ne ce) ∧ W.cell? ⟨w.heap.size, 5, none⟩ = some (.int .i64 bud) ∧ Blk W (w.heap.size + 1) 34 #[Value.int .i64 0, Value.int .i64 0] ∧ EdgB W oe ne St Ln Up w.heap.size ∧ Below w.heap.size w W) (by kernel_rfl) ⟨(by first | exact k0.drew | exact k0 | exact Below.drew k0), (by first | exact k1.drew | exact k1 | exact Below.drew k1), (by first | exact k2.drew | exact k2 | exact Below.drew k2), (by first | exact k3.drew | exact k3 | exact Below.drew k3), (by first | exact k4.drew | exact k4 | exact Below.drew k4), (by first | exact k5.drew | exact k5 | exact Below.drew k5), (by first | exact hF.drew | exact hF | exact Below.drew hF), (by first | exact hE2.drew | exact hE2 | exact Below.drew hE2), (by first | exact hb2.drew | exact hb2 | exact Below.drew hb2)⟩ (fun hS0 => ?_)
  clear k0 k1 k2 k3 k4 k5 hF hE2 hb2
  change wpAnyH _ _ _ _ _ 9 #[false, false, false, false, false, false, false, false, false] _ _
  generalize w2.drew = v0 at *
  refine wpAnyH_take (i := 0) (v := ?_) rfl (by kernel_rfl) (by kernel_rfl) (by kernel_rfl) (fun _ _ _ h => h) (Or.inl ⟨by rfl, ?_⟩) hS0 ?_
  rotate_left
  · (intro w hSw; (try dsimp only at hSw); go_simp; try with_reducible rfl)
  simp only [List.getElem_toArray, List.getElem_cons_zero, List.getElem_cons_succ, Act.put, List.setIfInBounds_toArray, List.set_cons_zero, List.set_cons_succ]
  refine wpAnyH_take (i := 1) (v := ?_) rfl (by kernel_rfl) (by kernel_rfl) (by kernel_rfl) (fun _ _ _ h => h) (Or.inl ⟨by rfl, ?_⟩) hS0 ?_
  rotate_left
  · (intro w hSw; (try dsimp only at hSw); go_simp; try with_reducible rfl)
  simp only [List.getElem_toArray, List.getElem_cons_zero, List.getElem_cons_succ, Act.put, List.setIfInBounds_toArray, List.set_cons_zero, List.set_cons_succ]
  refine wpAnyH_take (i := 3) (v := ?_) rfl (by kernel_rfl) (by kernel_rfl) (by kernel_rfl) (fun _ _ _ h => h) (Or.inl ⟨by rfl, ?_⟩) hS0 ?_
  rotate_left
  · (intro w hSw; (try dsimp only at hSw); go_simp; try with_reducible rfl)
  simp only [List.getElem_toArray, List.getElem_cons_zero, List.getElem_cons_succ, Act.put, List.setIfInBounds_toArray, List.set_cons_zero, List.set_cons_succ]
  refine wpAnyH_take (i := 4) (v := ?_) rfl (by kernel_rfl) (by kernel_rfl) (by kernel_rfl) (fun _ _ _ h => h) (Or.inl ⟨by rfl, ?_⟩) hS0 ?_
  rotate_left
  · (intro w hSw; (try dsimp only at hSw); go_simp; try with_reducible rfl)
  simp only [List.getElem_toArray, List.getElem_cons_zero, List.getElem_cons_succ, Act.put, List.setIfInBounds_toArray, List.set_cons_zero, List.set_cons_succ]
  refine wpAnyH_ready (rs := [2]) (by kernel_rfl) (by simp) ?_
  refine AllReadyH.cons rfl (fun K hK => ?_) AllReadyH.nil
  go_simp
  refine (hct _).mono ?_
  rintro e w' ⟨rfl, rfl⟩
  (try go_simp)
  refine hK.out _ _ hS0 (fun _ => ?_)
  clear hK K
  simp only [List.getElem_toArray, List.getElem_cons_zero, List.getElem_cons_succ, Act.put, List.setIfInBounds_toArray, List.set_cons_zero, List.set_cons_succ]
  refine wpAnyH_ready (rs := [5]) (by kernel_rfl) (by simp) ?_
  refine AllReadyH.cons rfl (fun K hK => ?_) AllReadyH.nil
  go_simp
  refine (hfd _).mono ?_
  rintro e v1 ⟨rfl, hb1⟩
  (try go_simp)
  refine hK.out _ _ ⟨(by first | exact hS0.1.below hb1 hS0.1.lt | exact hS0.1.trans (hb1.mono hS0.1.size) | exact hS0.1.trans (hb1.mono (by have := hS0.1.size; omega)) | exact (hb1.cell (cell_lt hS0.1)).trans hS0.1 | exact hS0.1.below hb1 (Nat.le_refl _) | exact hS0.1.low hb1 | exact hS0.1.below hb1 | exact hS0.1.trans (Only.of hb1)), (by first | exact hS0.2.1.below hb1 hS0.2.1.lt | exact hS0.2.1.trans (hb1.mono hS0.2.1.size) | exact hS0.2.1.trans (hb1.mono (by have := hS0.2.1.size; omega)) | exact (hb1.cell (cell_lt hS0.2.1)).trans hS0.2.1 | exact hS0.2.1.below hb1 (Nat.le_refl _) | exact hS0.2.1.low hb1 | exact hS0.2.1.below hb1 | exact hS0.2.1.trans (Only.of hb1)), (by first | exact hS0.2.2.1.below hb1 hS0.2.2.1.lt | exact hS0.2.2.1.trans (hb1.mono hS0.2.2.1.size) | exact hS0.2.2.1.trans (hb1.mono (by have := hS0.2.2.1.size; omega)) | exact (hb1.cell (cell_lt hS0.2.2.1)).trans hS0.2.2.1 | exact hS0.2.2.1.below hb1 (Nat.le_refl _) | exact hS0.2.2.1.low hb1 | exact hS0.2.2.1.below hb1 | exact hS0.2.2.1.trans (Only.of hb1)), (by first | exact hS0.2.2.2.1.below hb1 hS0.2.2.2.1.lt | exact hS0.2.2.2.1.trans (hb1.mono hS0.2.2.2.1.size) | exact hS0.2.2.2.1.trans (hb1.mono (by have := hS0.2.2.2.1.size; omega)) | exact (hb1.cell (cell_lt hS0.2.2.2.1)).trans hS0.2.2.2.1 | exact hS0.2.2.2.1.below hb1 (Nat.le_refl _) | exact hS0.2.2.2.1.low hb1 | exact hS0.2.2.2.1.below hb1 | exact hS0.2.2.2.1.trans (Only.of hb1)), (by first | exact hS0.2.2.2.2.1.below hb1 hS0.2.2.2.2.1.lt | exact hS0.2.2.2.2.1.trans (hb1.mono hS0.2.2.2.2.1.size) | exact hS0.2.2.2.2.1.trans (hb1.mono (by have := hS0.2.2.2.2.1.size; omega)) | exact (hb1.cell (cell_lt hS0.2.2.2.2.1)).trans hS0.2.2.2.2.1 | exact hS0.2.2.2.2.1.below hb1 (Nat.le_refl _) | exact hS0.2.2.2.2.1.low hb1 | exact hS0.2.2.2.2.1.below hb1 | exact hS0.2.2.2.2.1.trans (Only.of hb1)), (by first | exact hS0.2.2.2.2.2.1.below hb1 hS0.2.2.2.2.2.1.lt | exact hS0.2.2.2.2.2.1.trans (hb1.mono hS0.2.2.2.2.2.1.size) | exact hS0.2.2.2.2.2.1.trans (hb1.mono (by have := hS0.2.2.2.2.2.1.size; omega)) | exact (hb1.cell (cell_lt hS0.2.2.2.2.2.1)).trans hS0.2.2.2.2.2.1 | exact hS0.2.2.2.2.2.1.below hb1 (Nat.le_refl _) | exact hS0.2.2.2.2.2.1.low hb1 | exact hS0.2.2.2.2.2.1.below hb1 | exact hS0.2.2.2.2.2.1.trans (Only.of hb1)), (by first | exact hS0.2.2.2.2.2.2.1.below hb1 hS0.2.2.2.2.2.2.1.lt | exact hS0.2.2.2.2.2.2.1.trans (hb1.mono hS0.2.2.2.2.2.2.1.size) | exact hS0.2.2.2.2.2.2.1.trans (hb1.mono (by have := hS0.2.2.2.2.2.2.1.size; omega)) | exact (hb1.cell (cell_lt hS0.2.2.2.2.2.2.1)).trans hS0.2.2.2.2.2.2.1 | exact hS0.2.2.2.2.2.2.1.below hb1 (Nat.le_refl _) | exact hS0.2.2.2.2.2.2.1.low hb1 | exact hS0.2.2.2.2.2.2.1.below hb1 | exact hS0.2.2.2.2.2.2.1.trans (Only.of hb1)), (by first | exact hS0.2.2.2.2.2.2.2.1.below hb1 hS0.2.2.2.2.2.2.2.1.lt | exact hS0.2.2.2.2.2.2.2.1.trans (hb1.mono hS0.2.2.2.2.2.2.2.1.size) | exact hS0.2.2.2.2.2.2.2.1.trans (hb1.mono (by have := hS0.2.2.2.2.2.2.2.1.size; omega)) | exact (hb1.cell (cell_lt hS0.2.2.2.2.2.2.2.1)).trans hS0.2.2.2.2.2.2.2.1 | exact hS0.2.2.2.2.2.2.2.1.below hb1 (Nat.le_refl _) | exact hS0.2.2.2.2.2.2.2.1.low hb1 | exact hS0.2.2.2.2.2.2.2.1.below hb1 | exact hS0.2.2.2.2.2.2.2.1.trans (Only.of hb1)), (by first | exact hS0.2.2.2.2.2.2.2.2.below hb1 hS0.2.2.2.2.2.2.2.2.lt | exact hS0.2.2.2.2.2.2.2.2.trans (hb1.mono hS0.2.2.2.2.2.2.2.2.size) | exact hS0.2.2.2.2.2.2.2.2.trans (hb1.mono (by have := hS0.2.2.2.2.2.2.2.2.size; omega)) | exact (hb1.cell (cell_lt hS0.2.2.2.2.2.2.2.2)).trans hS0.2.2.2.2.2.2.2.2 | exact hS0.2.2.2.2.2.2.2.2.below hb1 (Nat.le_refl _) | exact hS0.2.2.2.2.2.2.2.2.low hb1 | exact hS0.2.2.2.2.2.2.2.2.below hb1 | exact hS0.2.2.2.2.2.2.2.2.trans (Only.of hb1))⟩ (fun hS1 => ?_)
  clear hK K
  clear hb1 hS0
  simp only [List.getElem_toArray, List.getElem_cons_zero, List.getElem_cons_succ, Act.put, List.setIfInBounds_toArray, List.set_cons_zero, List.set_cons_succ]
  refine wpAnyH_ready (rs := [6]) (by kernel_rfl) (by simp) ?_
  refine AllReadyH.cons rfl (fun K hK => ?_) AllReadyH.nil
  go_simp
  have hb2 : Below v1.heap.size v1 (v1.alloc (.cells #[.int .i64 (a : Int), .int .i64 (b : Int)] 32)) := Bl.alloc (Below.refl _ _) _
  refine hK.out _ _ ⟨(by first | exact hS1.1.below hb2 hS1.1.lt | exact hS1.1.trans (hb2.mono hS1.1.size) | exact hS1.1.trans (hb2.mono (by have := hS1.1.size; omega)) | exact (hb2.cell (cell_lt hS1.1)).trans hS1.1 | exact hS1.1.below hb2 (Nat.le_refl _) | exact hS1.1.low hb2 | exact hS1.1.below hb2 | exact hS1.1.trans (Only.of hb2)), (by first | exact hS1.2.1.below hb2 hS1.2.1.lt | exact hS1.2.1.trans (hb2.mono hS1.2.1.size) | exact hS1.2.1.trans (hb2.mono (by have := hS1.2.1.size; omega)) | exact (hb2.cell (cell_lt hS1.2.1)).trans hS1.2.1 | exact hS1.2.1.below hb2 (Nat.le_refl _) | exact hS1.2.1.low hb2 | exact hS1.2.1.below hb2 | exact hS1.2.1.trans (Only.of hb2)), (by first | exact hS1.2.2.1.below hb2 hS1.2.2.1.lt | exact hS1.2.2.1.trans (hb2.mono hS1.2.2.1.size) | exact hS1.2.2.1.trans (hb2.mono (by have := hS1.2.2.1.size; omega)) | exact (hb2.cell (cell_lt hS1.2.2.1)).trans hS1.2.2.1 | exact hS1.2.2.1.below hb2 (Nat.le_refl _) | exact hS1.2.2.1.low hb2 | exact hS1.2.2.1.below hb2 | exact hS1.2.2.1.trans (Only.of hb2)), (by first | exact hS1.2.2.2.1.below hb2 hS1.2.2.2.1.lt | exact hS1.2.2.2.1.trans (hb2.mono hS1.2.2.2.1.size) | exact hS1.2.2.2.1.trans (hb2.mono (by have := hS1.2.2.2.1.size; omega)) | exact (hb2.cell (cell_lt hS1.2.2.2.1)).trans hS1.2.2.2.1 | exact hS1.2.2.2.1.below hb2 (Nat.le_refl _) | exact hS1.2.2.2.1.low hb2 | exact hS1.2.2.2.1.below hb2 | exact hS1.2.2.2.1.trans (Only.of hb2)), (by first | exact hS1.2.2.2.2.1.below hb2 hS1.2.2.2.2.1.lt | exact hS1.2.2.2.2.1.trans (hb2.mono hS1.2.2.2.2.1.size) | exact hS1.2.2.2.2.1.trans (hb2.mono (by have := hS1.2.2.2.2.1.size; omega)) | exact (hb2.cell (cell_lt hS1.2.2.2.2.1)).trans hS1.2.2.2.2.1 | exact hS1.2.2.2.2.1.below hb2 (Nat.le_refl _) | exact hS1.2.2.2.2.1.low hb2 | exact hS1.2.2.2.2.1.below hb2 | exact hS1.2.2.2.2.1.trans (Only.of hb2)), (by first | exact hS1.2.2.2.2.2.1.below hb2 hS1.2.2.2.2.2.1.lt | exact hS1.2.2.2.2.2.1.trans (hb2.mono hS1.2.2.2.2.2.1.size) | exact hS1.2.2.2.2.2.1.trans (hb2.mono (by have := hS1.2.2.2.2.2.1.size; omega)) | exact (hb2.cell (cell_lt hS1.2.2.2.2.2.1)).trans hS1.2.2.2.2.2.1 | exact hS1.2.2.2.2.2.1.below hb2 (Nat.le_refl _) | exact hS1.2.2.2.2.2.1.low hb2 | exact hS1.2.2.2.2.2.1.below hb2 | exact hS1.2.2.2.2.2.1.trans (Only.of hb2)), (by first | exact hS1.2.2.2.2.2.2.1.below hb2 hS1.2.2.2.2.2.2.1.lt | exact hS1.2.2.2.2.2.2.1.trans (hb2.mono hS1.2.2.2.2.2.2.1.size) | exact hS1.2.2.2.2.2.2.1.trans (hb2.mono (by have := hS1.2.2.2.2.2.2.1.size; omega)) | exact (hb2.cell (cell_lt hS1.2.2.2.2.2.2.1)).trans hS1.2.2.2.2.2.2.1 | exact hS1.2.2.2.2.2.2.1.below hb2 (Nat.le_refl _) | exact hS1.2.2.2.2.2.2.1.low hb2 | exact hS1.2.2.2.2.2.2.1.below hb2 | exact hS1.2.2.2.2.2.2.1.trans (Only.of hb2)), (by first | exact hS1.2.2.2.2.2.2.2.1.below hb2 hS1.2.2.2.2.2.2.2.1.lt | exact hS1.2.2.2.2.2.2.2.1.trans (hb2.mono hS1.2.2.2.2.2.2.2.1.size) | exact hS1.2.2.2.2.2.2.2.1.trans (hb2.mono (by have := hS1.2.2.2.2.2.2.2.1.size; omega)) | exact (hb2.cell (cell_lt hS1.2.2.2.2.2.2.2.1)).trans hS1.2.2.2.2.2.2.2.1 | exact hS1.2.2.2.2.2.2.2.1.below hb2 (Nat.le_refl _) | exact hS1.2.2.2.2.2.2.2.1.low hb2 | exact hS1.2.2.2.2.2.2.2.1.below hb2 | exact hS1.2.2.2.2.2.2.2.1.trans (Only.of hb2)), (by first | exact hS1.2.2.2.2.2.2.2.2.below hb2 hS1.2.2.2.2.2.2.2.2.lt | exact hS1.2.2.2.2.2.2.2.2.trans (hb2.mono hS1.2.2.2.2.2.2.2.2.size) | exact hS1.2.2.2.2.2.2.2.2.trans (hb2.mono (by have := hS1.2.2.2.2.2.2.2.2.size; omega)) | exact (hb2.cell (cell_lt hS1.2.2.2.2.2.2.2.2)).trans hS1.2.2.2.2.2.2.2.2 | exact hS1.2.2.2.2.2.2.2.2.below hb2 (Nat.le_refl _) | exact hS1.2.2.2.2.2.2.2.2.low hb2 | exact hS1.2.2.2.2.2.2.2.2.below hb2 | exact hS1.2.2.2.2.2.2.2.2.trans (Only.of hb2))⟩ (fun hS2 => ?_)
  clear hK K
  have hg_2 : Blk (v1.alloc (.cells #[.int .i64 (a : Int), .int .i64 (b : Int)] 32)) v1.heap.size 32 #[.int .i64 (a : Int), .int .i64 (b : Int)] := Blk.new _ _ _
  have hlt_hF_hg := hS1.2.2.2.2.2.2.1.lt
  clear hb2 hS1
  generalize v1.alloc (.cells #[.int .i64 (a : Int), .int .i64 (b : Int)] 32) = v2 at *
  generalize v1.heap.size = g at *
  simp only [List.getElem_toArray, List.getElem_cons_zero, List.getElem_cons_succ, Act.put, List.setIfInBounds_toArray, List.set_cons_zero, List.set_cons_succ]
  refine wpAnyH_ready (rs := [7]) (by kernel_rfl) (by simp) ?_
  refine AllReadyH.cons rfl (fun K hK => ?_) AllReadyH.nil
  go_simp
  refine (horr _ g hg_2).mono ?_
  rintro e w' ⟨rfl, rfl⟩
  (try go_simp)
  refine hK.out _ _ hS2 (fun _ => ?_)
  clear hK K
  simp only [List.getElem_toArray, List.getElem_cons_zero, List.getElem_cons_succ, Act.put, List.setIfInBounds_toArray, List.set_cons_zero, List.set_cons_succ]
  refine wpAnyH_take (i := 8) (v := ?_) rfl (by kernel_rfl) (by kernel_rfl) (by kernel_rfl) (fun _ _ _ h => h) (Or.inl ⟨by rfl, ?_⟩) hS2 ?_
  rotate_left
  · (intro w hSw; (try dsimp only at hSw); go_simp; try with_reducible rfl)
  simp only [List.getElem_toArray, List.getElem_cons_zero, List.getElem_cons_succ, Act.put, List.setIfInBounds_toArray, List.set_cons_zero, List.set_cons_succ]
  refine wpAnyH_done (by kernel_rfl) ?_ _
  have k0 := hS2.1
  have k1 := hS2.2.1
  have k2 := hS2.2.2.1
  have k3 := hS2.2.2.2.1
  have k4 := hS2.2.2.2.2.1
  have k5 := hS2.2.2.2.2.2.1
  have hF := hS2.2.2.2.2.2.2.1
  have hE2 := hS2.2.2.2.2.2.2.2.1
  have hb2 := hS2.2.2.2.2.2.2.2.2
  clear hS2
  have hg := hg_2
  by_cases hr : r = 0
  · have hz : ((r : Int) != 0) = false := by rw [hr]; rfl
    have hlc : ∀ W, EdgB W oe ne St Ln Up W.heap.size → Calls Tryd.prog 27 #[.slice oe ne ce] W fun e w' => e = .returned (.agg #[Value.int .i64 (p.1 : Int), Value.int .i64 (p.2 : Int)]) ∧ Below W.heap.size W w' := hlc0
    have hE3 := hE2.mono hb2.size
    have HR := hide hr
    clear hr k0 k1 k2 k3
    go_wp2_with fail
    refine Cl.m (hlc _ hE3) ?_
    intro w4 hb4
    have hF4 := hF.below hb4 hF.lt
    have k54 := (hb4.cell (cell_lt k5)).trans k5
    have hb04 := hb2.trans (hb4.mono hb2.size)
    have hF5 := hF4.alloc (.cells #[Value.int .i64 (p.1 : Int), Value.int .i64 (p.2 : Int)] 34)
    have hP5 : Blk (w4.alloc (.cells #[Value.int .i64 (p.1 : Int), Value.int .i64 (p.2 : Int)] 34)) w4.heap.size 34 #[Value.int .i64 (p.1 : Int), Value.int .i64 (p.2 : Int)] := Blk.new _ _ _
    have hb05 : Below w.heap.size w (w4.alloc (.cells #[Value.int .i64 (p.1 : Int), Value.int .i64 (p.2 : Int)] 34)) := Bl.alloc hb04 _
    have k55 := ((Bl.alloc (Below.refl w4.heap.size w4) (.cells #[Value.int .i64 (p.1 : Int), Value.int .i64 (p.2 : Int)] 34)).cell (cell_lt k54)).trans k54
    have hgne := Nat.ne_of_lt hF4.lt
    clear hF hb4 k5 k54 hb2 hF4 hlc k4 hE2 hE3 hct hfd horr
    by_cases hp : p.1 = 0
    · have hpz : ((p.1 : Int) != 0) = false := by rw [hp]; rfl
      have HP := hide hp
      clear hp
      by_cases hn1 : bud < 0
      · obtain rfl := R3.out HR.out HP.out (Or.inl hn1)
        go_wp2_with (first | (refine wpList_store_row rfl 34 _ _ rfl (w.heap.size + 1) #[Value.int .i64 9, Value.int .i64 0] rfl rfl 34 _ hF5 (by kernel_rfl) rfl (by kernel_rfl) ?_))
        exact bodyPost_ret (results_cell_row rfl _ _ (w.heap.size + 1) 34 #[Value.int .i64 9, Value.int .i64 0] (0, 0) _ rfl (hF5.setRow _) Tryd.underlying34 rfl (by kernel_rfl)) rfl ⟨rfl, hb05.trans (below_setRow (Below.refl _ _) (by omega) _)⟩
      · by_cases hn2 : 1099511627776 < bud
        · obtain rfl := R3.out HR.out HP.out (Or.inr hn2)
          have q1 : (decide (bud < 0)) = false := decide_eq_false hn1
          go_wp2_with (first | (refine wpList_store_row rfl 34 _ _ rfl (w.heap.size + 1) #[Value.int .i64 9, Value.int .i64 0] rfl rfl 34 _ hF5 (by kernel_rfl) rfl (by kernel_rfl) ?_))
          exact bodyPost_ret (results_cell_row rfl _ _ (w.heap.size + 1) 34 #[Value.int .i64 9, Value.int .i64 0] (0, 0) _ rfl (hF5.setRow _) Tryd.underlying34 rfl (by kernel_rfl)) rfl ⟨rfl, hb05.trans (below_setRow (Below.refl _ _) (by omega) _)⟩
        · obtain rfl := R4.out HR.out HP.out (by omega)
          have q1 : (decide (bud < 0)) = false := decide_eq_false hn1
          have q2 : (decide (1099511627776 < bud)) = false := decide_eq_false hn2
          go_wp2_with (first | (refine wpList_store_row rfl 34 _ _ rfl (w.heap.size + 1) #[Value.int .i64 0, Value.int .i64 0] rfl rfl 34 _ hF5 (by kernel_rfl) rfl (by kernel_rfl) ?_))
          exact bodyPost_ret (results_cell_row rfl _ _ (w.heap.size + 1) 34 #[Value.int .i64 0, Value.int .i64 0] (0, 0) _ rfl (hF5.setRow _) Tryd.underlying34 rfl (by kernel_rfl)) rfl ⟨rfl, hb05.trans (below_setRow (Below.refl _ _) (by omega) _)⟩
    · obtain rfl := R2.out HR.out hp
      have hpz : ((R.1 : Int) != 0) = true := by rw [bne_iff_ne]; omega
      go_wp2_with (first | (refine wpList_store_row rfl 34 _ _ rfl (w.heap.size + 1) #[Value.int .i64 (R.1 : Int), Value.int .i64 (R.2 : Int)] rfl rfl 34 _ hF5 (by kernel_rfl) rfl (by kernel_rfl) ?_) | (refine wpList_load_row rfl 34 _ rfl w4.heap.size rfl _ #[Value.int .i64 (R.1 : Int), Value.int .i64 (R.2 : Int)] (0, 0) _ hP5 Tryd.underlying34 rfl (by kernel_rfl) ?_))
      exact bodyPost_ret (results_cell_row rfl _ _ (w.heap.size + 1) 34 #[Value.int .i64 (R.1 : Int), Value.int .i64 (R.2 : Int)] (0, 0) _ rfl (hF5.setRow _) Tryd.underlying34 rfl (by kernel_rfl)) rfl ⟨rfl, hb05.trans (below_setRow (Below.refl _ _) (by omega) _)⟩
  · obtain rfl := R1.out hr
    have hz : ((r : Int) != 0) = true := by rw [bne_iff_ne]; omega
    go_wp2_with (first | (refine wpList_store_row rfl 34 _ _ rfl (w.heap.size + 1) #[Value.int .i64 (r : Int), Value.int .i64 0] rfl rfl 34 _ hF (by kernel_rfl) rfl (by kernel_rfl) ?_))
    exact bodyPost_ret (results_cell_row rfl _ _ (w.heap.size + 1) 34 #[Value.int .i64 (r : Int), Value.int .i64 0] (0, 0) _ rfl (hF.setRow _) Tryd.underlying34 rfl (by kernel_rfl)) rfl ⟨rfl, hb2.trans (below_setRow (Below.refl _ _) (by omega) _)⟩
end Go.Proofs.YtdhdknjefjolpaaDoor
end
section
/-
  gannetref33.Check.
-/
namespace Go.Proofs.YtdhdknjefjolpaaDoor
set_option linter.unusedSimpArgs false
set_option linter.unusedVariables false
set_option maxRecDepth 10000
open Go.RowKit Go.Shelf Pl
set_option maxHeartbeats 4000000 in
theorem rsCheck_calls (o o0 o1 o2 oe : Option Addr) (n c l0 c0 l1 c1 l2 c2 ne ce : Nat) (bud : Int) (St : Nat → Int) (Ln : Nat → Nat) (Up : Nat → Bool) (w : World) (hn : n ≤ maxLen) (hE : EdgB w oe ne St Ln Up w.heap.size) :
    Calls Tryd.prog 10 #[.agg #[Value.slice o n c, Value.slice o0 l0 c0, Value.slice o1 l1 c1, Value.slice o2 l2 c2, Value.slice oe ne ce, Value.int .i64 bud]] w fun e w' => e = .returned (.agg (fltA (chkS n l0 l1 l2 ne St Ln bud))) ∧ Below w.heap.size w w' := by
  obtain ⟨a, ha, hct⟩ : ∃ a : Nat, (a = 0 ↔ ChkOk n) ∧ ((a = 0 ∨ a = 6) ∧ ∀ W : World, Calls Tryd.prog 28 #[.slice o n c] W fun e w' => e = .returned (.int .i64 (a : Int)) ∧ W = w') := by
    by_cases h : ChkOk n
    · exact ⟨0, ⟨fun _ => h, fun _ => rfl⟩, Or.inl rfl, fun W => rcCheck_ok n c o W h⟩
    · exact ⟨6, ⟨fun e => by omega, fun e => absurd e h⟩, Or.inr rfl, fun W => rcCheck_bad n c o W hn h⟩
  have hlc0 := fun W (h : EdgB W oe ne St Ln Up W.heap.size) => rlCheck_calls oe ne ce St Ln Up W h
  have hA1 : ¬ a = 0 → a = 6 ∧ chkA n l0 l1 l2 = 6 := fun h => ⟨hct.1.resolve_left h, by unfold chkA; rw [if_pos (fun g => h (ha.2 g))]⟩
  have hA2 : a = 0 → (10000 < l0 ∨ 10000 < l1 ∨ 10000 < l2) → chkA n l0 l1 l2 = 2 := fun h g => by unfold chkA; rw [if_neg (by simpa using ha.1 h), if_pos g]
  have hA3 : a = 0 → ¬ (10000 < l0 ∨ 10000 < l1 ∨ 10000 < l2) → chkA n l0 l1 l2 = 0 := fun h g => by unfold chkA; rw [if_neg (by simpa using ha.1 h), if_neg g]
  have hct := hct.2
  unfold chkS
  generalize chkA n l0 l1 l2 = r at *
  clear ha hn
  generalize chkV St Ln ne = p at *
  obtain ⟨R, hR⟩ : ∃ R, (if r ≠ 0 then (r, 0) else if p.1 ≠ 0 then p else if bud < 0 ∨ 1099511627776 < bud then (9, 0) else (0, 0) : Nat × Nat) = R := ⟨_, rfl⟩
  rw [hR]
  have R1 : Hid (r ≠ 0 → R = (r, 0)) := fun h => hR.symm.trans (if_pos h)
  have R2 : Hid (r = 0 → p.1 ≠ 0 → R = p) := fun h g => by rw [← hR, if_neg (by omega), if_pos g]
  have R3 : Hid (r = 0 → p.1 = 0 → (bud < 0 ∨ 1099511627776 < bud) → R = (9, 0)) := fun h g k => by rw [← hR, if_neg (by omega), if_neg (by omega), if_pos k]
  have R4 : Hid (r = 0 → p.1 = 0 → ¬ (bud < 0 ∨ 1099511627776 < bud) → R = (0, 0)) := fun h g k => by rw [← hR, if_neg (by omega), if_neg (by omega), if_neg k]
  clear hR
  have HA1 := hide hA1
  have HA2 := hide hA2
  have HA3 := hide hA3
  clear hA1 hA2 hA3
  have hS : Blk ((w.alloc (.cells #[Value.slice o n c, Value.slice o0 l0 c0, Value.slice o1 l1 c1, Value.slice o2 l2 c2, Value.slice oe ne ce, Value.int .i64 bud] 27)).alloc (.cells #[Value.int .i64 0, Value.int .i64 0] 34)) w.heap.size 27 #[Value.slice o n c, Value.slice o0 l0 c0, Value.slice o1 l1 c1, Value.slice o2 l2 c2, Value.slice oe ne ce, Value.int .i64 bud] := (Blk.new w 27 #[Value.slice o n c, Value.slice o0 l0 c0, Value.slice o1 l1 c1, Value.slice o2 l2 c2, Value.slice oe ne ce, Value.int .i64 bud]).alloc _
  have hF : Blk ((w.alloc (.cells #[Value.slice o n c, Value.slice o0 l0 c0, Value.slice o1 l1 c1, Value.slice o2 l2 c2, Value.slice oe ne ce, Value.int .i64 bud] 27)).alloc (.cells #[Value.int .i64 0, Value.int .i64 0] 34)) (w.heap.size + 1) 34 #[Value.int .i64 0, Value.int .i64 0] := by
    have h := Blk.new (w.alloc (.cells #[Value.slice o n c, Value.slice o0 l0 c0, Value.slice o1 l1 c1, Value.slice o2 l2 c2, Value.slice oe ne ce, Value.int .i64 bud] 27)) 34 #[Value.int .i64 0, Value.int .i64 0]
    rwa [show (w.alloc (.cells #[Value.slice o n c, Value.slice o0 l0 c0, Value.slice o1 l1 c1, Value.slice o2 l2 c2, Value.slice oe ne ce, Value.int .i64 bud] 27)).heap.size = w.heap.size + 1 by simp] at h
  have hb2 : Below w.heap.size w ((w.alloc (.cells #[Value.slice o n c, Value.slice o0 l0 c0, Value.slice o1 l1 c1, Value.slice o2 l2 c2, Value.slice oe ne ce, Value.int .i64 bud] 27)).alloc (.cells #[Value.int .i64 0, Value.int .i64 0] 34)) := Bl.alloc (Bl.alloc (Below.refl _ _) _) _
  have hE2 := hE.below hb2 (Nat.le_refl _)
  go_enter Tryd.func10, Tryd.ntmps10
  go_wp2_with fail
  refine Cl.p (hct _) ?_
  generalize (w.alloc (.cells #[Value.slice o n c, Value.slice o0 l0 c0, Value.slice o1 l1 c1, Value.slice o2 l2 c2, Value.slice oe ne ce, Value.int .i64 bud] 27)).alloc (.cells #[Value.int .i64 0, Value.int .i64 0] 34) = w2 at *
  have k0 : w2.cell? ⟨w.heap.size, 0, none⟩ = some (.slice o n c) := hS.cell 0
  have k1 : w2.cell? ⟨w.heap.size, 1, none⟩ = some (.slice o0 l0 c0) := hS.cell 1
  have k2 : w2.cell? ⟨w.heap.size, 2, none⟩ = some (.slice o1 l1 c1) := hS.cell 2
  have k3 : w2.cell? ⟨w.heap.size, 3, none⟩ = some (.slice o2 l2 c2) := hS.cell 3
  have k4 : w2.cell? ⟨w.heap.size, 4, none⟩ = some (.slice oe ne ce) := hS.cell 4
  have k5 : w2.cell? ⟨w.heap.size, 5, none⟩ = some (.int .i64 bud) := hS.cell 5
  clear hS hE
  by_cases ha : a = 0
  · have haz : ((a : Int) != 0) = false := by rw [ha]; rfl
    have hcase : (10000 < l0 ∨ (¬ 10000 < l0 ∧ 10000 < l1) ∨ (¬ 10000 < l0 ∧ ¬ 10000 < l1 ∧ 10000 < l2)) ∨ ¬ (10000 < l0 ∨ 10000 < l1 ∨ 10000 < l2) := by omega
    have HA := hide ha
    clear ha
    rcases hcase with h3 | h3
    · have hr := HA2.out HA.out (by omega)
      obtain rfl : R = (2, 0) := by have := R1.out (by omega); rw [hr] at this; exact this
      clear R1 R2 R3 R4 HA1 HA2 HA3 hr hlc0
      rcases h3 with g1 | ⟨g1, g2⟩ | ⟨g1, g2, g3⟩
      · have q1 : (10000 : Int) < (l0 : Int) := by omega
        go_wp2_with (refine wpList_store_row rfl 34 _ _ rfl (w.heap.size + 1) #[Value.int .i64 2, Value.int .i64 0] rfl rfl 34 _ hF (by kernel_rfl) rfl (by kernel_rfl) ?_)
        exact bodyPost_ret (results_cell_row rfl _ _ (w.heap.size + 1) 34 #[Value.int .i64 2, Value.int .i64 0] (0, 0) _ rfl (hF.setRow _) Tryd.underlying34 rfl (by kernel_rfl)) rfl ⟨rfl, hb2.trans (below_setRow (Below.refl _ _) (by omega) _)⟩
      · have q1 : (decide ((10000 : Int) < (l0 : Int))) = false := decide_eq_false (by omega)
        have q2 : (decide (10000 < l0)) = false := decide_eq_false g1
        have q3 : (10000 : Int) < (l1 : Int) := by omega
        go_wp2_with (refine wpList_store_row rfl 34 _ _ rfl (w.heap.size + 1) #[Value.int .i64 2, Value.int .i64 0] rfl rfl 34 _ hF (by kernel_rfl) rfl (by kernel_rfl) ?_)
        exact bodyPost_ret (results_cell_row rfl _ _ (w.heap.size + 1) 34 #[Value.int .i64 2, Value.int .i64 0] (0, 0) _ rfl (hF.setRow _) Tryd.underlying34 rfl (by kernel_rfl)) rfl ⟨rfl, hb2.trans (below_setRow (Below.refl _ _) (by omega) _)⟩
      · have q1 : (decide ((10000 : Int) < (l0 : Int))) = false := decide_eq_false (by omega)
        have q2 : (decide (10000 < l0)) = false := decide_eq_false g1
        have q3 : (decide ((10000 : Int) < (l1 : Int))) = false := decide_eq_false (by omega)
        have q4 : (decide (10000 < l1)) = false := decide_eq_false g2
        have q5 : (10000 : Int) < (l2 : Int) := by omega
        go_wp2_with (refine wpList_store_row rfl 34 _ _ rfl (w.heap.size + 1) #[Value.int .i64 2, Value.int .i64 0] rfl rfl 34 _ hF (by kernel_rfl) rfl (by kernel_rfl) ?_)
        exact bodyPost_ret (results_cell_row rfl _ _ (w.heap.size + 1) 34 #[Value.int .i64 2, Value.int .i64 0] (0, 0) _ rfl (hF.setRow _) Tryd.underlying34 rfl (by kernel_rfl)) rfl ⟨rfl, hb2.trans (below_setRow (Below.refl _ _) (by omega) _)⟩
    · have hr : r = 0 := HA3.out HA.out h3
      have q1 : (decide ((10000 : Int) < (l0 : Int))) = false := decide_eq_false (by omega)
      have q2 : (decide (10000 < l0)) = false := decide_eq_false (by omega)
      have q3 : (decide ((10000 : Int) < (l1 : Int))) = false := decide_eq_false (by omega)
      have q4 : (decide (10000 < l1)) = false := decide_eq_false (by omega)
      have q5 : (decide ((10000 : Int) < (l2 : Int))) = false := decide_eq_false (by omega)
      have q6 : (decide (10000 < l2)) = false := decide_eq_false (by omega)
      have hlc : ∀ W, EdgB W oe ne St Ln Up W.heap.size → Calls Tryd.prog 29 #[.slice oe ne ce] W fun e w' => e = .returned (.agg #[Value.int .i64 (p.1 : Int), Value.int .i64 (p.2 : Int)]) ∧ Below W.heap.size W w' := hlc0
      have hE3 := hE2.mono hb2.size
      have HR := hide hr
      clear hr h3 hlc0 HA1 HA2 HA3
      go_wp2_with fail
      refine Cl.m (hlc _ hE3) ?_
      intro w4 hb4
      clear q1 q2 q3 q4 q5 q6
      have hF4 := hF.below hb4 hF.lt
      have k54 := (hb4.cell (cell_lt k5)).trans k5
      have hb04 := hb2.trans (hb4.mono hb2.size)
      have hF5 := hF4.alloc (.cells #[Value.int .i64 (p.1 : Int), Value.int .i64 (p.2 : Int)] 34)
      have hP5 : Blk (w4.alloc (.cells #[Value.int .i64 (p.1 : Int), Value.int .i64 (p.2 : Int)] 34)) w4.heap.size 34 #[Value.int .i64 (p.1 : Int), Value.int .i64 (p.2 : Int)] := Blk.new _ _ _
      have hb05 : Below w.heap.size w (w4.alloc (.cells #[Value.int .i64 (p.1 : Int), Value.int .i64 (p.2 : Int)] 34)) := Bl.alloc hb04 _
      have k55 := ((Bl.alloc (Below.refl w4.heap.size w4) (.cells #[Value.int .i64 (p.1 : Int), Value.int .i64 (p.2 : Int)] 34)).cell (cell_lt k54)).trans k54
      have hgne := Nat.ne_of_lt hF4.lt
      clear hF hb4 k5 k54 hb2 hF4 hlc k4 hE2 hE3
      by_cases hp : p.1 = 0
      · have hpz : ((p.1 : Int) != 0) = false := by rw [hp]; rfl
        have HP := hide hp
        clear hp
        by_cases hn1 : bud < 0
        · obtain rfl := R3.out HR.out HP.out (Or.inl hn1)
          go_wp2_with (first | (refine wpList_store_row rfl 34 _ _ rfl (w.heap.size + 1) #[Value.int .i64 9, Value.int .i64 0] rfl rfl 34 _ hF5 (by kernel_rfl) rfl (by kernel_rfl) ?_))
          exact bodyPost_ret (results_cell_row rfl _ _ (w.heap.size + 1) 34 #[Value.int .i64 9, Value.int .i64 0] (0, 0) _ rfl (hF5.setRow _) Tryd.underlying34 rfl (by kernel_rfl)) rfl ⟨rfl, hb05.trans (below_setRow (Below.refl _ _) (by omega) _)⟩
        · by_cases hn2 : 1099511627776 < bud
          · obtain rfl := R3.out HR.out HP.out (Or.inr hn2)
            have q1 : (decide (bud < 0)) = false := decide_eq_false hn1
            go_wp2_with (first | (refine wpList_store_row rfl 34 _ _ rfl (w.heap.size + 1) #[Value.int .i64 9, Value.int .i64 0] rfl rfl 34 _ hF5 (by kernel_rfl) rfl (by kernel_rfl) ?_))
            exact bodyPost_ret (results_cell_row rfl _ _ (w.heap.size + 1) 34 #[Value.int .i64 9, Value.int .i64 0] (0, 0) _ rfl (hF5.setRow _) Tryd.underlying34 rfl (by kernel_rfl)) rfl ⟨rfl, hb05.trans (below_setRow (Below.refl _ _) (by omega) _)⟩
          · obtain rfl := R4.out HR.out HP.out (by omega)
            have q1 : (decide (bud < 0)) = false := decide_eq_false hn1
            have q2 : (decide (1099511627776 < bud)) = false := decide_eq_false hn2
            go_wp2_with (first | (refine wpList_store_row rfl 34 _ _ rfl (w.heap.size + 1) #[Value.int .i64 0, Value.int .i64 0] rfl rfl 34 _ hF5 (by kernel_rfl) rfl (by kernel_rfl) ?_))
            exact bodyPost_ret (results_cell_row rfl _ _ (w.heap.size + 1) 34 #[Value.int .i64 0, Value.int .i64 0] (0, 0) _ rfl (hF5.setRow _) Tryd.underlying34 rfl (by kernel_rfl)) rfl ⟨rfl, hb05.trans (below_setRow (Below.refl _ _) (by omega) _)⟩
      · obtain rfl := R2.out HR.out hp
        have hpz : ((R.1 : Int) != 0) = true := by rw [bne_iff_ne]; omega
        go_wp2_with (first | (refine wpList_store_row rfl 34 _ _ rfl (w.heap.size + 1) #[Value.int .i64 (R.1 : Int), Value.int .i64 (R.2 : Int)] rfl rfl 34 _ hF5 (by kernel_rfl) rfl (by kernel_rfl) ?_) | (refine wpList_load_row rfl 34 _ rfl w4.heap.size rfl _ #[Value.int .i64 (R.1 : Int), Value.int .i64 (R.2 : Int)] (0, 0) _ hP5 Tryd.underlying34 rfl (by kernel_rfl) ?_))
        exact bodyPost_ret (results_cell_row rfl _ _ (w.heap.size + 1) 34 #[Value.int .i64 (R.1 : Int), Value.int .i64 (R.2 : Int)] (0, 0) _ rfl (hF5.setRow _) Tryd.underlying34 rfl (by kernel_rfl)) rfl ⟨rfl, hb05.trans (below_setRow (Below.refl _ _) (by omega) _)⟩
  · obtain ⟨h6, hr⟩ := HA1.out ha
    obtain rfl : R = (6, 0) := by have := R1.out (by omega); rw [hr] at this; exact this
    subst h6
    clear R1 R2 R3 R4 HA1 HA2 HA3 hr hlc0
    go_wp2_with (refine wpList_store_row rfl 34 _ _ rfl (w.heap.size + 1) #[Value.int .i64 6, Value.int .i64 0] rfl rfl 34 _ hF (by kernel_rfl) rfl (by kernel_rfl) ?_)
    exact bodyPost_ret (results_cell_row rfl _ _ (w.heap.size + 1) 34 #[Value.int .i64 6, Value.int .i64 0] (0, 0) _ rfl (hF.setRow _) Tryd.underlying34 rfl (by kernel_rfl)) rfl ⟨rfl, hb2.trans (below_setRow (Below.refl _ _) (by omega) _)⟩
end Go.Proofs.YtdhdknjefjolpaaDoor
end
section
/-
  gannetref33.Same, of scripts that are alike.
-/
namespace Go.Proofs.YtdhdknjefjolpaaDoor
set_option linter.unusedSimpArgs false
set_option linter.unusedVariables false
set_option maxRecDepth 10000
open Go.RowKit Go.Shelf Pl
theorem run_neq_edge (x : Int) (y : Nat) (u : Bool) (w : World) (hy : True) : (binOp .neq 31 (.agg #[Value.int .i64 x, Value.int .u8 (y : Int), Value.bool u]) (.agg #[Value.int .i64 x, Value.int .u8 (y : Int), Value.bool u])).run Tryd.prog w = .ok (.bool false) w := by
  have hu : Tryd.prog.underlying 31 = some (.struct (Tryd.prog.fieldsOf 31)) := by kernel_rfl
  have hp : Tryd.prog.stoodInHeld 31 = false := by kernel_rfl
  have h8 : ∀ w, (isAgg 5).run Tryd.prog w = .ok false w := fun w => by simp [isAgg, run_underlying Tryd.underlying5]
  have h64 : ∀ w, (isAgg 2).run Tryd.prog w = .ok false w := fun w => by simp [isAgg, run_underlying Tryd.underlying2]
  have hb : ∀ w, (isAgg 4).run Tryd.prog w = .ok false w := fun w => by simp [isAgg, run_underlying Tryd.underlying4]
  rw [run_neq_struct, run_equalIn_agg w 9999 31 _ _ hu hp]
  simp only [Program.fieldsOf, Tryd.underlying31]
  simp [Op.eqFields, part, h8, hb, h64, run_equalIn_bool' _ _ _ _ _ Tryd.underlying4, run_equalIn_int _ _ 5 _ _ _ _ Tryd.underlying5, run_equalIn_int _ _ 2 _ _ _ _ Tryd.underlying2]
set_option maxRecDepth 100000 in
set_option maxHeartbeats 8000000 in
theorem same_calls (o o0 o1 o2 oe p p0 p1 p2 pe : Option Addr) (n c l0 c0 l1 c1 l2 c2 ne ce d d0 d1 d2 de : Nat) (bud : Int) (F F0 F1 F2 St : Nat → Int) (Ln : Nat → Nat) (Up : Nat → Bool) (w : World) (hn : n ≤ maxLen) (hn0 : l0 ≤ maxLen) (hn1 : l1 ≤ maxLen) (hn2 : l2 ≤ maxLen) (hne : ne ≤ maxLen)
    (f : NumsAt w .u8 o n F) (f0 : NumsAt w .u8 o0 l0 F0) (f1 : NumsAt w .u8 o1 l1 F1) (f2 : NumsAt w .u8 o2 l2 F2) (g : NumsAt w .u8 p n F) (g0 : NumsAt w .u8 p0 l0 F0) (g1 : NumsAt w .u8 p1 l1 F1) (g2 : NumsAt w .u8 p2 l2 F2)
    (e : EdgB w oe ne St Ln Up w.heap.size) (h : EdgB w pe ne St Ln Up w.heap.size) :
    Calls Tryd.prog 11 #[.agg #[Value.slice o n c, Value.slice o0 l0 c0, Value.slice o1 l1 c1, Value.slice o2 l2 c2, Value.slice oe ne ce, Value.int .i64 bud], .agg #[Value.slice p n d, Value.slice p0 l0 d0, Value.slice p1 l1 d1, Value.slice p2 l2 d2, Value.slice pe ne de, Value.int .i64 bud]] w fun e w' => e = .returned (.bool true) ∧ Below w.heap.size w w' := by
  obtain ⟨Q, hQ⟩ : ∃ Q : World → Prop, ∀ W, Q W ↔ (Blk W w.heap.size 27 #[Value.slice o n c, Value.slice o0 l0 c0, Value.slice o1 l1 c1, Value.slice o2 l2 c2, Value.slice oe ne ce, Value.int .i64 bud] ∧ Blk W (w.heap.size + 1) 27 #[Value.slice p n d, Value.slice p0 l0 d0, Value.slice p1 l1 d1, Value.slice p2 l2 d2, Value.slice pe ne de, Value.int .i64 bud] ∧ NumsAt W .u8 o n F ∧ NumsAt W .u8 o0 l0 F0 ∧ NumsAt W .u8 o1 l1 F1 ∧ NumsAt W .u8 o2 l2 F2 ∧ NumsAt W .u8 p n F ∧ NumsAt W .u8 p0 l0 F0 ∧ NumsAt W .u8 p1 l1 F1 ∧ NumsAt W .u8 p2 l2 F2 ∧ EdgB W oe ne St Ln Up w.heap.size ∧ EdgB W pe ne St Ln Up w.heap.size ∧ Below w.heap.size w W) := ⟨fun W => (Blk W w.heap.size 27 #[Value.slice o n c, Value.slice o0 l0 c0, Value.slice o1 l1 c1, Value.slice o2 l2 c2, Value.slice oe ne ce, Value.int .i64 bud] ∧ Blk W (w.heap.size + 1) 27 #[Value.slice p n d, Value.slice p0 l0 d0, Value.slice p1 l1 d1, Value.slice p2 l2 d2, Value.slice pe ne de, Value.int .i64 bud] ∧ NumsAt W .u8 o n F ∧ NumsAt W .u8 o0 l0 F0 ∧ NumsAt W .u8 o1 l1 F1 ∧ NumsAt W .u8 o2 l2 F2 ∧ NumsAt W .u8 p n F ∧ NumsAt W .u8 p0 l0 F0 ∧ NumsAt W .u8 p1 l1 F1 ∧ NumsAt W .u8 p2 l2 F2 ∧ EdgB W oe ne St Ln Up w.heap.size ∧ EdgB W pe ne St Ln Up w.heap.size ∧ Below w.heap.size w W), fun _ => Iff.rfl⟩
  have step : ∀ W W', Q W → Below W.heap.size W W' → Q W' := by
    intro W W' hW hb
    obtain ⟨x1, x2, x3, x4, x5, x6, x7, x8, x9, x10, x11, x12, x13⟩ := (hQ W).1 hW
    exact (hQ W').2 ⟨x1.below hb x1.lt, x2.below hb x2.lt, x3.below hb (Nat.le_refl _), x4.below hb (Nat.le_refl _), x5.below hb (Nat.le_refl _), x6.below hb (Nat.le_refl _), x7.below hb (Nat.le_refl _), x8.below hb (Nat.le_refl _), x9.below hb (Nat.le_refl _), x10.below hb (Nat.le_refl _), x11.low hb, x12.low hb, x13.trans (hb.mono x13.size)⟩
  have hX : Blk ((w.alloc (.cells #[Value.slice o n c, Value.slice o0 l0 c0, Value.slice o1 l1 c1, Value.slice o2 l2 c2, Value.slice oe ne ce, Value.int .i64 bud] 27)).alloc (.cells #[Value.slice p n d, Value.slice p0 l0 d0, Value.slice p1 l1 d1, Value.slice p2 l2 d2, Value.slice pe ne de, Value.int .i64 bud] 27)) w.heap.size 27 #[Value.slice o n c, Value.slice o0 l0 c0, Value.slice o1 l1 c1, Value.slice o2 l2 c2, Value.slice oe ne ce, Value.int .i64 bud] := (Blk.new w 27 #[Value.slice o n c, Value.slice o0 l0 c0, Value.slice o1 l1 c1, Value.slice o2 l2 c2, Value.slice oe ne ce, Value.int .i64 bud]).alloc _
  have hY : Blk ((w.alloc (.cells #[Value.slice o n c, Value.slice o0 l0 c0, Value.slice o1 l1 c1, Value.slice o2 l2 c2, Value.slice oe ne ce, Value.int .i64 bud] 27)).alloc (.cells #[Value.slice p n d, Value.slice p0 l0 d0, Value.slice p1 l1 d1, Value.slice p2 l2 d2, Value.slice pe ne de, Value.int .i64 bud] 27)) (w.heap.size + 1) 27 #[Value.slice p n d, Value.slice p0 l0 d0, Value.slice p1 l1 d1, Value.slice p2 l2 d2, Value.slice pe ne de, Value.int .i64 bud] := by
    have h := Blk.new (w.alloc (.cells #[Value.slice o n c, Value.slice o0 l0 c0, Value.slice o1 l1 c1, Value.slice o2 l2 c2, Value.slice oe ne ce, Value.int .i64 bud] 27)) 27 #[Value.slice p n d, Value.slice p0 l0 d0, Value.slice p1 l1 d1, Value.slice p2 l2 d2, Value.slice pe ne de, Value.int .i64 bud]
    rwa [show (w.alloc (.cells #[Value.slice o n c, Value.slice o0 l0 c0, Value.slice o1 l1 c1, Value.slice o2 l2 c2, Value.slice oe ne ce, Value.int .i64 bud] 27)).heap.size = w.heap.size + 1 by simp] at h
  have hb0 : Below w.heap.size w ((w.alloc (.cells #[Value.slice o n c, Value.slice o0 l0 c0, Value.slice o1 l1 c1, Value.slice o2 l2 c2, Value.slice oe ne ce, Value.int .i64 bud] 27)).alloc (.cells #[Value.slice p n d, Value.slice p0 l0 d0, Value.slice p1 l1 d1, Value.slice p2 l2 d2, Value.slice pe ne de, Value.int .i64 bud] 27)) := Bl.alloc (Bl.alloc (Below.refl _ _) _) _
  have le := Nat.le_refl w.heap.size
  have Qx := (hQ _).2 ⟨hX, hY, f.below hb0 le, f0.below hb0 le, f1.below hb0 le, f2.below hb0 le, g.below hb0 le, g0.below hb0 le, g1.below hb0 le, g2.below hb0 le, e.low hb0, h.low hb0, hb0⟩
  have HQ := hide hQ
  have ST := hide step
  clear hX hY hb0 f f0 f1 f2 g g0 g1 g2 e h le hQ step
  have hnn : ((ne : Int) != (ne : Int)) = false := bne_self_eq_false _
  have hbb : (bud != bud) = false := bne_self_eq_false _
  have HS := fun W (a b : Option Addr) (m x y : Nat) (G : Nat → Int) (h1 : NumsAt W .u8 a m G) (h2 : NumsAt W .u8 b m G) (hm : m ≤ maxLen) => refSame_calls a b m m x y G G W h1 h2 hm hm rfl (fun _ _ => rfl)
  go_enter Tryd.func11, Tryd.ntmps11
  go_wp2_with fail
  generalize (w.alloc (.cells #[Value.slice o n c, Value.slice o0 l0 c0, Value.slice o1 l1 c1, Value.slice o2 l2 c2, Value.slice oe ne ce, Value.int .i64 bud] 27)).alloc (.cells #[Value.slice p n d, Value.slice p0 l0 d0, Value.slice p1 l1 d1, Value.slice p2 l2 d2, Value.slice pe ne de, Value.int .i64 bud] 27) = v1 at *
  obtain ⟨hAx, hBx, fx, f0x, f1x, f2x, gx, g0x, g1x, g2x, ex, hx, bx⟩ := (HQ.out v1).1 Qx
  have a0x : v1.cell? ⟨w.heap.size, 0, none⟩ = some (.slice o n c) := hAx.cell 0
  have b0x : v1.cell? ⟨w.heap.size + 1, 0, none⟩ = some (.slice p n d) := hBx.cell 0
  have a1x : v1.cell? ⟨w.heap.size, 1, none⟩ = some (.slice o0 l0 c0) := hAx.cell 1
  have b1x : v1.cell? ⟨w.heap.size + 1, 1, none⟩ = some (.slice p0 l0 d0) := hBx.cell 1
  have a2x : v1.cell? ⟨w.heap.size, 2, none⟩ = some (.slice o1 l1 c1) := hAx.cell 2
  have b2x : v1.cell? ⟨w.heap.size + 1, 2, none⟩ = some (.slice p1 l1 d1) := hBx.cell 2
  have a3x : v1.cell? ⟨w.heap.size, 3, none⟩ = some (.slice o2 l2 c2) := hAx.cell 3
  have b3x : v1.cell? ⟨w.heap.size + 1, 3, none⟩ = some (.slice p2 l2 d2) := hBx.cell 3
  have a4x : v1.cell? ⟨w.heap.size, 4, none⟩ = some (.slice oe ne ce) := hAx.cell 4
  have b4x : v1.cell? ⟨w.heap.size + 1, 4, none⟩ = some (.slice pe ne de) := hBx.cell 4
  have a5x : v1.cell? ⟨w.heap.size, 5, none⟩ = some (.int .i64 bud) := hAx.cell 5
  have b5x : v1.cell? ⟨w.heap.size + 1, 5, none⟩ = some (.int .i64 bud) := hBx.cell 5
  clear hAx hBx
  refine Cl.m (HS v1 o p n c d F fx gx hn) ?_
  intro v2 hb1
  have Qj := ST.out v1 v2 Qx hb1
  clear fx f0x f1x f2x gx g0x g1x g2x ex hx bx a0x b0x a1x b1x a2x b2x a3x b3x a4x b4x a5x b5x
  clear Qx hb1
  obtain ⟨hAj, hBj, fj, f0j, f1j, f2j, gj, g0j, g1j, g2j, ej, hj, bj⟩ := (HQ.out v2).1 Qj
  have a0j : v2.cell? ⟨w.heap.size, 0, none⟩ = some (.slice o n c) := hAj.cell 0
  have b0j : v2.cell? ⟨w.heap.size + 1, 0, none⟩ = some (.slice p n d) := hBj.cell 0
  have a1j : v2.cell? ⟨w.heap.size, 1, none⟩ = some (.slice o0 l0 c0) := hAj.cell 1
  have b1j : v2.cell? ⟨w.heap.size + 1, 1, none⟩ = some (.slice p0 l0 d0) := hBj.cell 1
  have a2j : v2.cell? ⟨w.heap.size, 2, none⟩ = some (.slice o1 l1 c1) := hAj.cell 2
  have b2j : v2.cell? ⟨w.heap.size + 1, 2, none⟩ = some (.slice p1 l1 d1) := hBj.cell 2
  have a3j : v2.cell? ⟨w.heap.size, 3, none⟩ = some (.slice o2 l2 c2) := hAj.cell 3
  have b3j : v2.cell? ⟨w.heap.size + 1, 3, none⟩ = some (.slice p2 l2 d2) := hBj.cell 3
  have a4j : v2.cell? ⟨w.heap.size, 4, none⟩ = some (.slice oe ne ce) := hAj.cell 4
  have b4j : v2.cell? ⟨w.heap.size + 1, 4, none⟩ = some (.slice pe ne de) := hBj.cell 4
  have a5j : v2.cell? ⟨w.heap.size, 5, none⟩ = some (.int .i64 bud) := hAj.cell 5
  have b5j : v2.cell? ⟨w.heap.size + 1, 5, none⟩ = some (.int .i64 bud) := hBj.cell 5
  clear hAj hBj
  go_wp2_with fail
  refine Cl.m (HS v2 o0 p0 l0 c0 d0 F0 f0j g0j hn0) ?_
  intro v3 hb2
  have Qz := ST.out v2 v3 Qj hb2
  clear fj f0j f1j f2j gj g0j g1j g2j ej hj bj a0j b0j a1j b1j a2j b2j a3j b3j a4j b4j a5j b5j
  clear Qj hb2
  obtain ⟨hAz, hBz, fz, f0z, f1z, f2z, gz, g0z, g1z, g2z, ez, hz, bz⟩ := (HQ.out v3).1 Qz
  have a0z : v3.cell? ⟨w.heap.size, 0, none⟩ = some (.slice o n c) := hAz.cell 0
  have b0z : v3.cell? ⟨w.heap.size + 1, 0, none⟩ = some (.slice p n d) := hBz.cell 0
  have a1z : v3.cell? ⟨w.heap.size, 1, none⟩ = some (.slice o0 l0 c0) := hAz.cell 1
  have b1z : v3.cell? ⟨w.heap.size + 1, 1, none⟩ = some (.slice p0 l0 d0) := hBz.cell 1
  have a2z : v3.cell? ⟨w.heap.size, 2, none⟩ = some (.slice o1 l1 c1) := hAz.cell 2
  have b2z : v3.cell? ⟨w.heap.size + 1, 2, none⟩ = some (.slice p1 l1 d1) := hBz.cell 2
  have a3z : v3.cell? ⟨w.heap.size, 3, none⟩ = some (.slice o2 l2 c2) := hAz.cell 3
  have b3z : v3.cell? ⟨w.heap.size + 1, 3, none⟩ = some (.slice p2 l2 d2) := hBz.cell 3
  have a4z : v3.cell? ⟨w.heap.size, 4, none⟩ = some (.slice oe ne ce) := hAz.cell 4
  have b4z : v3.cell? ⟨w.heap.size + 1, 4, none⟩ = some (.slice pe ne de) := hBz.cell 4
  have a5z : v3.cell? ⟨w.heap.size, 5, none⟩ = some (.int .i64 bud) := hAz.cell 5
  have b5z : v3.cell? ⟨w.heap.size + 1, 5, none⟩ = some (.int .i64 bud) := hBz.cell 5
  clear hAz hBz
  go_wp2_with fail
  refine Cl.m (HS v3 o1 p1 l1 c1 d1 F1 f1z g1z hn1) ?_
  intro v4 hb3
  have Qu := ST.out v3 v4 Qz hb3
  clear fz f0z f1z f2z gz g0z g1z g2z ez hz bz a0z b0z a1z b1z a2z b2z a3z b3z a4z b4z a5z b5z
  clear Qz hb3
  obtain ⟨hAu, hBu, fu, f0u, f1u, f2u, gu, g0u, g1u, g2u, eu, hu, bu⟩ := (HQ.out v4).1 Qu
  have a0u : v4.cell? ⟨w.heap.size, 0, none⟩ = some (.slice o n c) := hAu.cell 0
  have b0u : v4.cell? ⟨w.heap.size + 1, 0, none⟩ = some (.slice p n d) := hBu.cell 0
  have a1u : v4.cell? ⟨w.heap.size, 1, none⟩ = some (.slice o0 l0 c0) := hAu.cell 1
  have b1u : v4.cell? ⟨w.heap.size + 1, 1, none⟩ = some (.slice p0 l0 d0) := hBu.cell 1
  have a2u : v4.cell? ⟨w.heap.size, 2, none⟩ = some (.slice o1 l1 c1) := hAu.cell 2
  have b2u : v4.cell? ⟨w.heap.size + 1, 2, none⟩ = some (.slice p1 l1 d1) := hBu.cell 2
  have a3u : v4.cell? ⟨w.heap.size, 3, none⟩ = some (.slice o2 l2 c2) := hAu.cell 3
  have b3u : v4.cell? ⟨w.heap.size + 1, 3, none⟩ = some (.slice p2 l2 d2) := hBu.cell 3
  have a4u : v4.cell? ⟨w.heap.size, 4, none⟩ = some (.slice oe ne ce) := hAu.cell 4
  have b4u : v4.cell? ⟨w.heap.size + 1, 4, none⟩ = some (.slice pe ne de) := hBu.cell 4
  have a5u : v4.cell? ⟨w.heap.size, 5, none⟩ = some (.int .i64 bud) := hAu.cell 5
  have b5u : v4.cell? ⟨w.heap.size + 1, 5, none⟩ = some (.int .i64 bud) := hBu.cell 5
  clear hAu hBu
  go_wp2_with fail
  refine Cl.m (HS v4 o2 p2 l2 c2 d2 F2 f2u g2u hn2) ?_
  intro v5 hb4
  have Qv := ST.out v4 v5 Qu hb4
  clear fu f0u f1u f2u gu g0u g1u g2u eu hu bu a0u b0u a1u b1u a2u b2u a3u b3u a4u b4u a5u b5u
  clear Qu hb4
  obtain ⟨hAv, hBv, fv, f0v, f1v, f2v, gv, g0v, g1v, g2v, ev, hv, bv⟩ := (HQ.out v5).1 Qv
  have a0v : v5.cell? ⟨w.heap.size, 0, none⟩ = some (.slice o n c) := hAv.cell 0
  have b0v : v5.cell? ⟨w.heap.size + 1, 0, none⟩ = some (.slice p n d) := hBv.cell 0
  have a1v : v5.cell? ⟨w.heap.size, 1, none⟩ = some (.slice o0 l0 c0) := hAv.cell 1
  have b1v : v5.cell? ⟨w.heap.size + 1, 1, none⟩ = some (.slice p0 l0 d0) := hBv.cell 1
  have a2v : v5.cell? ⟨w.heap.size, 2, none⟩ = some (.slice o1 l1 c1) := hAv.cell 2
  have b2v : v5.cell? ⟨w.heap.size + 1, 2, none⟩ = some (.slice p1 l1 d1) := hBv.cell 2
  have a3v : v5.cell? ⟨w.heap.size, 3, none⟩ = some (.slice o2 l2 c2) := hAv.cell 3
  have b3v : v5.cell? ⟨w.heap.size + 1, 3, none⟩ = some (.slice p2 l2 d2) := hBv.cell 3
  have a4v : v5.cell? ⟨w.heap.size, 4, none⟩ = some (.slice oe ne ce) := hAv.cell 4
  have b4v : v5.cell? ⟨w.heap.size + 1, 4, none⟩ = some (.slice pe ne de) := hBv.cell 4
  have a5v : v5.cell? ⟨w.heap.size, 5, none⟩ = some (.int .i64 bud) := hAv.cell 5
  have b5v : v5.cell? ⟨w.heap.size + 1, 5, none⟩ = some (.int .i64 bud) := hBv.cell 5
  clear hAv hBv
  go_wp2_with fail
  clear fv f0v f1v f2v gv g0v g1v g2v ev hv bv a0v b0v a1v b1v a2v b2v a3v b3v a4v b4v a5v b5v
  go_loopw [5] (fun v5 wr => ∃ k : Nat, k ≤ ne ∧ v5 = .int .i64 (k : Int) ∧ Q wr) (fun v5 _ => ne - (intOf v5).toNat)
  case atStart => exact ⟨0, by omega, rfl, Qv⟩
  case round =>
    obtain ⟨k, hk, rfl, Qr⟩ := hrel
    clear Qv
    have Qd := ST.out wr wr.drew Qr (Below.drew (Below.refl _ _))
    obtain ⟨hAr, hBr, fr, f0r, f1r, f2r, gr, g0r, g1r, g2r, er, hr, br⟩ := (HQ.out wr).1 Qr
    have a0r : wr.cell? ⟨w.heap.size, 0, none⟩ = some (.slice o n c) := hAr.cell 0
    have b0r : wr.cell? ⟨w.heap.size + 1, 0, none⟩ = some (.slice p n d) := hBr.cell 0
    have a1r : wr.cell? ⟨w.heap.size, 1, none⟩ = some (.slice o0 l0 c0) := hAr.cell 1
    have b1r : wr.cell? ⟨w.heap.size + 1, 1, none⟩ = some (.slice p0 l0 d0) := hBr.cell 1
    have a2r : wr.cell? ⟨w.heap.size, 2, none⟩ = some (.slice o1 l1 c1) := hAr.cell 2
    have b2r : wr.cell? ⟨w.heap.size + 1, 2, none⟩ = some (.slice p1 l1 d1) := hBr.cell 2
    have a3r : wr.cell? ⟨w.heap.size, 3, none⟩ = some (.slice o2 l2 c2) := hAr.cell 3
    have b3r : wr.cell? ⟨w.heap.size + 1, 3, none⟩ = some (.slice p2 l2 d2) := hBr.cell 3
    have a4r : wr.cell? ⟨w.heap.size, 4, none⟩ = some (.slice oe ne ce) := hAr.cell 4
    have b4r : wr.cell? ⟨w.heap.size + 1, 4, none⟩ = some (.slice pe ne de) := hBr.cell 4
    have a5r : wr.cell? ⟨w.heap.size, 5, none⟩ = some (.int .i64 bud) := hAr.cell 5
    have b5r : wr.cell? ⟨w.heap.size + 1, 5, none⟩ = some (.int .i64 bud) := hBr.cell 5
    clear hAr hBr
    rcases Nat.lt_or_ge k ne with hlt | hge
    · obtain ⟨bA, oA, rfl, _, x0, x1, x2⟩ := er k hlt
      obtain ⟨bB, oB, rfl, _, y0, y1, y2⟩ := hr k hlt
      have k1 : (k : Int) < (ne : Int) := by omega
      have hne2 : ne ≤ 9223372036854775807 := by unfold maxLen at hne; omega
      have hneq := fun W => run_neq_edge (St k) (Ln k) (Up k) W trivial
      clear fr f0r f1r f2r gr g0r g1r g2r er hr HS
      go_wp2_with fail
      refine wp_region_held_drew (S := fun W => W.cell? ⟨w.heap.size, 4, none⟩ = some (.slice (some ⟨bA, oA, none⟩) ne ce) ∧ W.cell? ⟨w.heap.size + 1, 4, none⟩ = some (.slice (some ⟨bB, oB, none⟩) ne de) ∧ W.cell? ⟨bA, oA + k * 3, none⟩ = some (.int .i64 (St k)) ∧ W.cell? ⟨bA, oA + k * 3 + 1, none⟩ = some (.int .u8 (Ln k : Int)) ∧ W.cell? ⟨bA, oA + k * 3 + 2, none⟩ = some (.bool (Up k)) ∧ W.cell? ⟨bB, oB + k * 3, none⟩ = some (.int .i64 (St k)) ∧ W.cell? ⟨bB, oB + k * 3 + 1, none⟩ = some (.int .u8 (Ln k : Int)) ∧ W.cell? ⟨bB, oB + k * 3 + 2, none⟩ = some (.bool (Up k)) ∧ Q W) (by kernel_rfl) ⟨(by first | exact a4r.drew | exact a4r | exact Below.drew a4r), (by first | exact b4r.drew | exact b4r | exact Below.drew b4r), (by first | exact x0.drew | exact x0 | exact Below.drew x0), (by first | exact x1.drew | exact x1 | exact Below.drew x1), (by first | exact x2.drew | exact x2 | exact Below.drew x2), (by first | exact y0.drew | exact y0 | exact Below.drew y0), (by first | exact y1.drew | exact y1 | exact Below.drew y1), (by first | exact y2.drew | exact y2 | exact Below.drew y2), (by first | exact Qd.drew | exact Qd | exact Below.drew Qd)⟩ (fun hS0 => ?_)
      clear a4r b4r x0 x1 x2 y0 y1 y2 Qd
      change wpAnyH _ _ _ _ _ 11 #[false, false, false, false, false, false, false, false, false, false, false] _ _
      generalize wr.drew = v0 at *
      refine wpAnyH_take (i := 0) (v := ?_) rfl (by kernel_rfl) (by kernel_rfl) (by kernel_rfl) (fun _ _ _ h => h) (Or.inl ⟨by rfl, ?_⟩) hS0 ?_
      rotate_left
      · (intro w hSw; (try dsimp only at hSw); go_simp; try with_reducible rfl)
      simp only [List.getElem_toArray, List.getElem_cons_zero, List.getElem_cons_succ, Act.put, List.setIfInBounds_toArray, List.set_cons_zero, List.set_cons_succ]
      refine wpAnyH_take (i := 1) (v := ?_) rfl (by kernel_rfl) (by kernel_rfl) (by kernel_rfl) (fun _ _ _ h => h) (Or.inl ⟨by rfl, ?_⟩) hS0 ?_
      rotate_left
      · (intro w hSw; (try dsimp only at hSw); go_simp; try with_reducible rfl)
      simp only [List.getElem_toArray, List.getElem_cons_zero, List.getElem_cons_succ, Act.put, List.setIfInBounds_toArray, List.set_cons_zero, List.set_cons_succ]
      refine wpAnyH_take (i := 2) (v := ?_) rfl (by kernel_rfl) (by kernel_rfl) (by kernel_rfl) (fun _ _ _ h => h) (Or.inl ⟨by rfl, ?_⟩) hS0 ?_
      rotate_left
      · (intro w hSw; (try dsimp only at hSw); go_simp; try with_reducible rfl)
      simp only [List.getElem_toArray, List.getElem_cons_zero, List.getElem_cons_succ, Act.put, List.setIfInBounds_toArray, List.set_cons_zero, List.set_cons_succ]
      refine wpAnyH_take (i := 3) (v := ?_) rfl (by kernel_rfl) (by kernel_rfl) (by kernel_rfl) (fun _ _ _ h => h) (Or.inl ⟨by rfl, ?_⟩) hS0 ?_
      rotate_left
      · (intro w hSw; (try dsimp only at hSw); go_simp; try with_reducible rfl)
      simp only [List.getElem_toArray, List.getElem_cons_zero, List.getElem_cons_succ, Act.put, List.setIfInBounds_toArray, List.set_cons_zero, List.set_cons_succ]
      refine wpAnyH_take (i := 4) (v := ?_) rfl (by kernel_rfl) (by kernel_rfl) (by kernel_rfl) (fun _ _ _ h => h) (Or.inl ⟨by rfl, ?_⟩) hS0 ?_
      rotate_left
      · (intro w hSw; (try dsimp only at hSw); go_simp; try with_reducible rfl)
      simp only [List.getElem_toArray, List.getElem_cons_zero, List.getElem_cons_succ, Act.put, List.setIfInBounds_toArray, List.set_cons_zero, List.set_cons_succ]
      refine wpAnyH_take (i := 5) (v := ?_) rfl (by kernel_rfl) (by kernel_rfl) (by kernel_rfl) (fun _ _ _ h => h) (Or.inl ⟨by rfl, ?_⟩) hS0 ?_
      rotate_left
      · (intro w hSw; (try dsimp only at hSw); go_simp; try with_reducible rfl)
      simp only [List.getElem_toArray, List.getElem_cons_zero, List.getElem_cons_succ, Act.put, List.setIfInBounds_toArray, List.set_cons_zero, List.set_cons_succ]
      refine wpAnyH_take (i := 6) (v := ?_) rfl (by kernel_rfl) (by kernel_rfl) (by kernel_rfl) (fun _ _ _ h => h) (Or.inl ⟨by rfl, ?_⟩) hS0 ?_
      rotate_left
      · (intro w hSw; (try dsimp only at hSw); go_simp; try with_reducible rfl)
      simp only [List.getElem_toArray, List.getElem_cons_zero, List.getElem_cons_succ, Act.put, List.setIfInBounds_toArray, List.set_cons_zero, List.set_cons_succ]
      refine wpAnyH_take (i := 7) (v := ?_) rfl (by kernel_rfl) (by kernel_rfl) (by kernel_rfl) (fun _ _ _ h => h) (Or.inl ⟨by rfl, ?_⟩) hS0 ?_
      rotate_left
      · (intro w hSw; (try dsimp only at hSw); go_simp; try with_reducible rfl)
      simp only [List.getElem_toArray, List.getElem_cons_zero, List.getElem_cons_succ, Act.put, List.setIfInBounds_toArray, List.set_cons_zero, List.set_cons_succ]
      refine wpAnyH_take (i := 8) (v := ?_) rfl (by kernel_rfl) (by kernel_rfl) (by kernel_rfl) (fun _ _ _ h => h) (Or.inl ⟨by rfl, ?_⟩) hS0 ?_
      rotate_left
      · (intro w hSw; (try dsimp only at hSw); go_simp; try with_reducible rfl)
      simp only [List.getElem_toArray, List.getElem_cons_zero, List.getElem_cons_succ, Act.put, List.setIfInBounds_toArray, List.set_cons_zero, List.set_cons_succ]
      refine wpAnyH_take (i := 9) (v := ?_) rfl (by kernel_rfl) (by kernel_rfl) (by kernel_rfl) (fun _ _ _ h => h) (Or.inl ⟨by rfl, ?_⟩) hS0 ?_
      rotate_left
      · (intro w hSw; (try dsimp only at hSw); go_simp; try with_reducible rfl)
      simp only [List.getElem_toArray, List.getElem_cons_zero, List.getElem_cons_succ, Act.put, List.setIfInBounds_toArray, List.set_cons_zero, List.set_cons_succ]
      refine wpAnyH_take (i := 10) (v := ?_) rfl (by kernel_rfl) (by kernel_rfl) (by kernel_rfl) (fun _ _ _ h => h) (Or.inl ⟨by rfl, ?_⟩) hS0 ?_
      rotate_left
      · (intro w hSw; (try dsimp only at hSw); go_simp; try with_reducible rfl)
      simp only [List.getElem_toArray, List.getElem_cons_zero, List.getElem_cons_succ, Act.put, List.setIfInBounds_toArray, List.set_cons_zero, List.set_cons_succ]
      refine wpAnyH_done (by kernel_rfl) ?_ _
      have a4r := hS0.1
      have b4r := hS0.2.1
      have x0 := hS0.2.2.1
      have x1 := hS0.2.2.2.1
      have x2 := hS0.2.2.2.2.1
      have y0 := hS0.2.2.2.2.2.1
      have y1 := hS0.2.2.2.2.2.2.1
      have y2 := hS0.2.2.2.2.2.2.2.1
      have Qd := hS0.2.2.2.2.2.2.2.2
      clear hS0
      go_wp2_with fail
      refine ⟨⟨k + 1, by omega, by go_num, Qd⟩, ?_⟩
      simp [intOf] <;> omega
    · obtain rfl : k = ne := by omega
      have k2 : (decide ((k : Int) < (k : Int))) = false := decide_eq_false (by omega)
      clear Qd HS
      go_wp2_with fail
      go_ret
      exact ⟨rfl, br⟩
end Go.Proofs.YtdhdknjefjolpaaDoor
end
section
/-
  slices.Clone of edges.
-/
namespace Go.Proofs.YtdhdknjefjolpaaDoor
set_option linter.unusedSimpArgs false
set_option linter.unusedVariables false
set_option maxRecDepth 10000
open Go.RowKit Go.Shelf Pl
theorem infoEd : (Tryd.prog.info? 31).map (fun i => (i.zero, i.size, i.bytes)) = some (some (.agg #[.int .i64 0, .int .u8 0, .bool false]), 3, 16) := by kernel_rfl
/-- Edges in a row. -/
def edR (St : Nat → Int) (Ln : Nat → Nat) (Up : Nat → Bool) (i : Nat) : List Value := [.int .i64 (St i), .int .u8 (Ln i : Int), .bool (Up i)]
def edL (St : Nat → Int) (Ln : Nat → Nat) (Up : Nat → Bool) (n : Nat) : List Value := (List.range n).flatMap (edR St Ln Up)
theorem edL_snoc (St : Nat → Int) (Ln : Nat → Nat) (Up : Nat → Bool) (n : Nat) : edL St Ln Up (n + 1) = edL St Ln Up n ++ edR St Ln Up n := by simp [edL, List.range_succ]
theorem edL_len (St : Nat → Int) (Ln : Nat → Nat) (Up : Nat → Bool) : ∀ n, (edL St Ln Up n).length = n * 3
  | 0 => rfl
  | n + 1 => by rw [edL_snoc, List.length_append, edL_len St Ln Up n]; show n * 3 + 3 = _; omega
theorem edL_get (St : Nat → Int) (Ln : Nat → Nat) (Up : Nat → Bool) : ∀ n i r, i < n → r < 3 → (edL St Ln Up n)[i * 3 + r]? = (edR St Ln Up i)[r]?
  | 0, i, r, h, _ => by omega
  | n + 1, i, r, h, hr => by
    rw [edL_snoc]
    rcases Nat.lt_or_ge i n with g | g
    · rw [List.getElem?_append_left (by rw [edL_len]; omega)]
      exact edL_get St Ln Up n i r g hr
    · obtain rfl : i = n := by omega
      rw [List.getElem?_append_right (by rw [edL_len]; omega), edL_len, show i * 3 + r - i * 3 = r by omega]
theorem edL_one (St : Nat → Int) (Ln : Nat → Nat) (Up : Nat → Bool) : ∀ n, ∀ u ∈ edL St Ln Up n, u.oneCell' = true
  | 0, u, h => by cases h
  | n + 1, u, h => by
    rw [edL_snoc] at h
    rcases List.mem_append.1 h with h | h
    · exact edL_one St Ln Up n u h
    · simp only [edR, List.mem_cons, List.not_mem_nil, or_false] at h
      rcases h with rfl | rfl | rfl <;> rfl
theorem edL_cells {w : World} {b o n : Nat} {St : Nat → Int} {Ln : Nat → Nat} {Up : Nat → Bool} {B : Nat} (h : EdgB w (some ⟨b, o, none⟩) n St Ln Up B) (j : Nat) (u : Value) (hu : (edL St Ln Up n)[j]? = some u) : w.cell? ⟨b, o + j, none⟩ = some u := by
  have hj : j < n * 3 := by
    have := (List.getElem?_eq_some_iff.1 hu).1
    rwa [edL_len] at this
  obtain ⟨i, r, rfl, hi, hr⟩ : ∃ i r, j = i * 3 + r ∧ i < n ∧ r < 3 := ⟨j / 3, j % 3, by omega, by omega, by omega⟩
  rw [edL_get St Ln Up n i r hi hr] at hu
  obtain ⟨b', o', e, _, h0, h1, h2⟩ := h i hi
  injection e with e
  injection e with e1 e2
  subst e1 e2
  match r, hr, hu with
  | 0, _, hu => obtain rfl := Option.some.inj hu; exact h0
  | 1, _, hu => obtain rfl := Option.some.inj hu; exact h1
  | 2, _, hu => obtain rfl := Option.some.inj hu; exact h2
set_option maxHeartbeats 4000000 in
theorem edClone_calls (o : Option Addr) (n c : Nat) (St : Nat → Int) (Ln : Nat → Nat) (Up : Nat → Bool) (w : World) (hn : n ≤ 8796093021952) (hE : EdgB w o n St Ln Up w.heap.size) :
    Calls Tryd.prog 22 #[.slice o n c] w fun e w' => ∃ v, e = .returned v ∧ w'.ownsRow w.heap.size 31 3 v n (edL St Ln Up n) ∧ Below w.heap.size w w' := by
  obtain ⟨i0, hi, hz0, hz1, hz2⟩ := info_parts infoEd
  have hnil := fun W a l c => run_eql_slice_nil W 25 31 a l c Tryd.underlying25
  have hnil2 := fun W a l c => run_equalIn_slice_nil W 9999 25 31 a l c Tryd.underlying25
  cases o with
  | none =>
    have hn0 : n = 0 := by
      rcases Nat.eq_zero_or_pos n with h | h
      · exact h
      · obtain ⟨_, _, h, _⟩ := hE 0 h; cases h
    subst hn0
    go_enter Tryd.func22, Tryd.ntmps22
    go_wp2_with fail
    go_ret
    exact ⟨_, rfl, World.ownsRow_nil _ _ _ _, by (repeat (first | exact Below.refl _ _ | assumption | refine Below.drew ?_ | refine Bl.alloc ?_ _ | refine below_drewN ?_ _ | refine Bl.chain ?_ (by assumption) (Nat.le_refl _)))⟩
  | some a =>
    have hspn : n = 0 ∨ a.spot = none := by
      rcases Nat.eq_zero_or_pos n with h | h
      · exact Or.inl h
      · obtain ⟨b, off, e, _⟩ := hE 0 h
        injection e with e
        exact Or.inr (by rw [e])
    have HS := hide hspn
    clear hspn
    have hown := World.ownsRow_lit w (base := w.heap.size) (e := 31) (size := 3) #[] 0 (Nat.le_refl _) (by decide) rfl
    go_enter Tryd.func22, Tryd.ntmps22
    go_wp2_with (at_builtin; refine wpList_append_own _ rfl _ _ 25 rfl w.heap.size 31 i0 (.agg #[.int .i64 0, .int .u8 0, .bool false]) 3 16 Tryd.underlying25 hi hz0 hz1 hz2 rfl (by decide) _ _ _ rfl hown _ n c (edL St Ln Up n) rfl ?c0 ?c1 ?c2 ?c3 ?c4 ?c5 ?_)
    case c0 => exact edL_len St Ln Up n
    case c1 =>
      intro j u hu
      rcases HS.out with h0 | h0
      · subst h0
        exact absurd hu (by simp [edL])
      obtain ⟨b, f, sp⟩ := a
      obtain rfl : sp = none := h0
      rw [add_plain]
      have h := edL_cells hE j u hu
      exact (World.cell?_alloc_lt w _ ⟨b, f + j, none⟩ (cell_lt h)).trans h
    case c2 => exact edL_one St Ln Up n
    case c3 => unfold maxLen; omega
    case c4 => omega
    intro v1 w1 hown1 hgrow1 _
    have hbf : Below w.heap.size w w1 := (Bl.alloc (Below.refl _ _) _).grown hgrow1 (by simp) (fun k hk => (hown.lt k hk).1)
    obtain ⟨hl, hv | ⟨g, cap, cur, rfl, hr⟩⟩ := hown1
    · obtain ⟨rfl, rfl⟩ := hv
      go_wp2_with fail
      go_ret
      exact ⟨_, rfl, ⟨hl, Or.inl ⟨rfl, rfl⟩⟩, hbf⟩
    · go_wp2_with fail
      go_ret
      exact ⟨_, rfl, ⟨hl, Or.inr ⟨g, cap, cur, rfl, hr⟩⟩, hbf⟩
end Go.Proofs.YtdhdknjefjolpaaDoor
end
section
/-
  script.Until: the closure; slices.IndexFunc, DeleteFunc of edges.
-/
namespace Go.Proofs.YtdhdknjefjolpaaDoor
set_option linter.unusedSimpArgs false
set_option linter.unusedVariables false
set_option maxRecDepth 10000
open Go.RowKit Go.Shelf Pl
theorem until1_calls (s t : Int) (y : Nat) (u : Bool) (q : Nat) (w : World) (hc : w.cell? ⟨q, 0, none⟩ = some (.int .i64 t)) :
    Calls Tryd.prog 23 #[.agg #[.int .i64 s, .int .u8 (y : Int), .bool u], .pointer (some ⟨q, 0, none⟩)] w fun e w' => e = .returned (.bool (decide (t < s))) ∧ w.alloc (.cells #[.int .i64 s, .int .u8 (y : Int), .bool u] 31) = w' := by
  have hb : Below w.heap.size w (w.alloc (.cells #[.int .i64 s, .int .u8 (y : Int), .bool u] 31)) := Bl.alloc (Below.refl _ _) _
  have hc1 := (hb.cell (p := ⟨q, 0, none⟩) (cell_lt hc)).trans hc
  clear hb hc
  go_enter Tryd.func23, Tryd.ntmps23
  go_wp2_with fail
  go_ret
  exact ⟨rfl, rfl⟩
theorem edge_range {w : World} {b f n i : Nat} {St : Nat → Int} {Ln : Nat → Nat} {Up : Nat → Bool} {B : Nat} (h : EdgB w (some ⟨b, f, none⟩) n St Ln Up B) (hi : i < n) : w.rangeAt b (f + i * 3) (edR St Ln Up i) := fun j u hu => by
  obtain ⟨b', o', e, _, h0, h1, h2⟩ := h i hi
  injection e with e
  injection e with e1 e2
  subst e1 e2
  match j, hu with
  | 0, hu => obtain rfl := Option.some.inj hu; exact h0
  | 1, hu => obtain rfl := Option.some.inj hu; exact h1
  | 2, hu => obtain rfl := Option.some.inj hu; exact h2
  | j + 3, hu => cases hu
set_option maxHeartbeats 4000000 in
theorem edIndex_calls (o : Option Addr) (n c q : Nat) (t : Int) (St : Nat → Int) (Ln : Nat → Nat) (Up : Nat → Bool) (w : World) (hn : n ≤ maxLen) (hE : EdgB w o n St Ln Up w.heap.size) (hq : w.cell? ⟨q, 0, none⟩ = some (.int .i64 t)) :
    Calls Tryd.prog 52 #[.slice o n c, .func (.func 23) #[] #[.pointer (some ⟨q, 0, none⟩)]] w
      fun e w' => (∃ k, k < n ∧ t < St k ∧ (∀ j, j < k → ¬ t < St j) ∧ e = .returned (.int .i64 (k : Int)) ∧ Below w.heap.size w w') ∨ ((∀ j, j < n → ¬ t < St j) ∧ e = .returned (.int .i64 (-1)) ∧ Below w.heap.size w w') := by
  go_enter Tryd.func52, Tryd.ntmps52
  go_wp2_with fail
  go_loopw [8] (fun v8 wr => ∃ k : Nat, k ≤ n ∧ v8 = .int .i64 (k : Int) ∧ (∀ j, j < k → ¬ t < St j) ∧ Below w.heap.size w wr) (fun v8 _ => n - (intOf v8).toNat)
  case atStart => exact ⟨0, by omega, rfl, fun j h => by omega, Below.refl _ _⟩
  case round =>
    obtain ⟨k, hk, rfl, hall, hb⟩ := hrel
    rcases Nat.lt_or_ge k n with hlt | hge
    · obtain ⟨b, f, rfl, _, _⟩ := hE k hlt
      have hr := edge_range (hE.low hb) hlt
      unfold edR at hr
      have hqr := (hb.cell (cell_lt hq)).trans hq
      have hu := until1_calls (St k) t (Ln k) (Up k) q wr hqr
      have k1 : (k : Int) < (n : Int) := by omega
      have hne2 : n ≤ 9223372036854775807 := by unfold maxLen at hn; omega
      have HA := hide hall
      have HE := hide hE
      clear hall hE hqr
      go_wp2_with (refine wpList_load_mid rfl 31 _ rfl b (f + k * 3) rfl [Value.int .i64 (St k), Value.int .u8 (Ln k : Int), Value.bool (Up k)] _ hr Tryd.underlying31 rfl (by kernel_rfl) ?_)
      have hb1 : Below w.heap.size w (wr.alloc (.cells #[.int .i64 (St k), .int .u8 (Ln k : Int), .bool (Up k)] 31)) := Bl.alloc hb _
      by_cases hd : t < St k
      · rw [decide_eq_true hd] at hu
        have HD := hide hd
        clear hd
        refine hu.mono ?_
        rintro e w' ⟨rfl, rfl⟩
        go_wp2_with fail
        go_ret
        exact Or.inl ⟨k, hlt, HD.out, HA.out, rfl, hb1⟩
      · rw [decide_eq_false hd] at hu
        have HD := hide hd
        clear hd
        refine hu.mono ?_
        rintro e w' ⟨rfl, rfl⟩
        go_wp2_with fail
        refine ⟨⟨k + 1, by omega, by go_num, fun j hj => ?_, hb1⟩, ?_⟩
        · rcases Nat.lt_or_ge j k with g | g
          · have := HA.out j g
            omega
          · obtain rfl : j = k := by omega
            have := HD.out
            omega
        · simp [intOf] <;> omega
    · obtain rfl : k = n := by omega
      have k2 : (decide ((k : Int) < (k : Int))) = false := decide_eq_false (by omega)
      have HA := hide hall
      clear hall
      go_wp2_with fail
      go_ret
      exact Or.inr ⟨HA.out, rfl, hb⟩
end Go.Proofs.YtdhdknjefjolpaaDoor
end
section
/-
  slices.DeleteFunc of edges.
-/
namespace Go.Proofs.YtdhdknjefjolpaaDoor
set_option linter.unusedSimpArgs false
set_option linter.unusedVariables false
set_option maxRecDepth 10000
open Go.RowKit Go.Shelf Pl
/-- The places of what stays. -/
def kp (t : Int) (St : Nat → Int) (n : Nat) : List Nat := (List.range n).filter fun i => !decide (t < St i)
theorem kp_snoc (t : Int) (St : Nat → Int) (n : Nat) : kp t St (n + 1) = kp t St n ++ (if t < St n then [] else [n]) := by
  unfold kp
  rw [List.range_succ, List.filter_append]
  by_cases h : t < St n <;> simp [h]
theorem kp_len (t : Int) (St : Nat → Int) : ∀ n, (kp t St n).length ≤ n
  | 0 => Nat.le_refl _
  | n + 1 => by
    rw [kp_snoc, List.length_append]
    have := kp_len t St n
    split <;> simp <;> omega
theorem kp_all (t : Int) (St : Nat → Int) : ∀ n, (∀ j, j < n → ¬ t < St j) → kp t St n = List.range n
  | 0, _ => rfl
  | n + 1, h => by rw [kp_snoc, kp_all t St n (fun j hj => h j (by omega)), if_neg (h n (by omega)), List.range_succ]
/-- Which edge stays at a place. -/
def kpF (t : Int) (St : Nat → Int) (n : Nat) (i : Nat) : Nat := (kp t St n).getD i 0
theorem run_clear_edges (w : World) (ty : TypeId) (b o n c : Nat) (hn : 0 < n) (hc : ∀ j, j < n * 3 → (w.cell? ⟨b, o + j, none⟩).isSome = true) (hf : ∀ j, j < n * 3 → w.frozen? ⟨b, o + j, none⟩ = false) :
    (Builtin.clear_ #[25] ty #[.slice (some ⟨b, o, none⟩) n c]).run Tryd.prog w = .ok (.tuple #[]) (w.setCells b o (edL (fun _ => 0) (fun _ => 0) (fun _ => false) n)) := by
  obtain ⟨i0, hi, hz0, hz1, hz2⟩ := info_parts infoEd
  have hzc : (Builtin.zeroCells #[Value.int .i64 0, Value.int .u8 0, Value.bool false] n).toList = edL (fun _ => 0) (fun _ => 0) (fun _ => false) n := by
    apply List.ext_getElem?
    intro j
    rcases Nat.lt_or_ge j (n * 3) with h | h
    · obtain ⟨i, r, rfl, hi', hr⟩ : ∃ i r, j = i * 3 + r ∧ i < n ∧ r < 3 := ⟨j / 3, j % 3, by omega, by omega, by omega⟩
      rw [edL_get _ _ _ n i r hi' hr]
      have e : (i * 3 + r) % 3 = r := by omega
      have hz : (Builtin.zeroCells #[Value.int .i64 0, Value.int .u8 0, Value.bool false] n).toList[i * 3 + r]? = some (#[Value.int .i64 0, Value.int .u8 0, Value.bool false][r]!) := by
        simp [Builtin.zeroCells, h, e]
      rw [hz]
      match r, hr with
      | 0, _ => rfl
      | 1, _ => rfl
      | 2, _ => rfl
    · rw [List.getElem?_eq_none (by simp [Builtin.zeroCells]; omega), List.getElem?_eq_none (by rw [edL_len]; omega)]
  have hst := run_storeCells_cells (P := Tryd.prog) b o (edL (fun _ => 0) (fun _ => 0) (fun _ => false) n) 0 w (by simpa [edL_len] using hc) (by simpa [edL_len] using hf) (edL_one _ _ _ n)
  simp only [Nat.add_zero] at hst
  obtain ⟨m, rfl⟩ : ∃ m, n = m + 1 := ⟨n - 1, by omega⟩
  have hzv : (zeroValue 31).run Tryd.prog w = .ok (.agg #[Value.int .i64 0, Value.int .u8 0, Value.bool false]) w := by simp [zeroValue, typeInfo, hi, hz0]
  have hcs : (Value.agg #[Value.int .i64 0, Value.int .u8 0, Value.bool false]).cells = #[Value.int .i64 0, Value.int .u8 0, Value.bool false] := rfl
  simp [Builtin.clear_, run_underlying Tryd.underlying25, hzv, hcs, hzc, hst]
/-- Cells of a row that is owned, some turned. -/
theorem own_setCells {base n size g cap : Nat} {e : TypeId} : ∀ (vs : List Value) (o : Nat) (w : World) (xs : List Value), w.ownsRow base e size (.slice (some ⟨g, 0, none⟩) n cap) n xs → o + vs.length ≤ n * size →
    ∃ ys, (w.setCells g o vs).ownsRow base e size (.slice (some ⟨g, 0, none⟩) n cap) n ys ∧ ∀ j, ys[j]? = if o ≤ j ∧ j < o + vs.length then vs[j - o]? else xs[j]?
  | [], o, w, xs, h, _ => ⟨xs, h, fun j => by rw [if_neg (by simp)]⟩
  | v :: r, o, w, xs, h, hl => by
    rw [List.length_cons] at hl
    have h1 := own_set h (i := o) (by omega) v
    obtain ⟨ys, h2, h3⟩ := own_setCells r (o + 1) _ _ h1 (by omega)
    refine ⟨ys, h2, fun j => ?_⟩
    rw [h3 j, List.length_cons]
    have hx := h.1
    by_cases e : j = o
    · subst e
      rw [if_neg (by omega), if_pos (by omega), Nat.sub_self, List.getElem?_cons_zero, List.getElem?_set_self (by omega)]
    · by_cases e2 : o + 1 ≤ j ∧ j < o + 1 + r.length
      · rw [if_pos e2, if_pos (by omega), show j - o = (j - (o + 1)) + 1 by omega, List.getElem?_cons_succ]
      · rw [if_neg e2, if_neg (by omega), List.getElem?_set_ne (fun e' => e e'.symm)]
theorem own_less {w : World} {base n m size g cap : Nat} {e : TypeId} {xs : List Value} (h : w.ownsRow base e size (.slice (some ⟨g, 0, none⟩) n cap) n xs) (hm : m ≤ n) :
    w.ownsRow base e size (.slice (some ⟨g, 0, none⟩) m cap) m (xs.take (m * size)) := by
  obtain ⟨hl, h | ⟨g', cap', cur, hv, hb, hh, h1, h2, h3, h4⟩⟩ := h
  · cases h.1
  · cases hv
    have hle : m * size ≤ n * size := Nat.mul_le_mul_right _ hm
    refine ⟨by rw [List.length_take]; omega, Or.inr ⟨g, cap, cur, rfl, hb, hh, by omega, h2, h3, ?_⟩⟩
    rw [← h4, List.take_take, Nat.min_eq_left hle]
theorem only_setCells {S : Nat → Prop} {a : World} {g : Nat} (hg : S g) : ∀ (vs : List Value) (o : Nat) (b : World), Only S a b → Only S a (b.setCells g o vs)
  | [], _, _, h => h
  | v :: r, o, b, h => only_setCells hg r (o + 1) _ (h.setCell ⟨g, o, none⟩ hg v)
theorem own_range {w : World} {base n g cap : Nat} {St : Nat → Int} {Ln : Nat → Nat} {Up : Nat → Bool} (h : w.ownsRow base 31 3 (.slice (some ⟨g, 0, none⟩) n cap) n (edL St Ln Up n)) {i : Nat} (hi : i < n) : w.rangeAt g (i * 3) (edR St Ln Up i) := fun j u hu => by
  have hj : j < 3 := (List.getElem?_eq_some_iff.1 hu).1
  exact (own_cell h (by rw [edL_get _ _ _ n i j hi hj]; exact hu)).1
theorem own_there {w : World} {base n g cap : Nat} {St : Nat → Int} {Ln : Nat → Nat} {Up : Nat → Bool} (h : w.ownsRow base 31 3 (.slice (some ⟨g, 0, none⟩) n cap) n (edL St Ln Up n)) {o m : Nat} (hi : o + m ≤ n * 3) : w.there g o m := fun j hj => by
  obtain ⟨u, hu⟩ : ∃ u, (edL St Ln Up n)[o + j]? = some u := ⟨_, List.getElem?_eq_getElem (by rw [edL_len]; omega)⟩
  have := own_cell h hu
  exact ⟨by rw [this.1]; rfl, this.2⟩
/-- An edge copied forward. -/
theorem own_copy {w : World} {base n g cap : Nat} {St : Nat → Int} {Ln : Nat → Nat} {Up : Nat → Bool} {M : Nat → Nat} {i j : Nat} (h : w.ownsRow base 31 3 (.slice (some ⟨g, 0, none⟩) n cap) n (edL (fun x => St (M x)) (fun x => Ln (M x)) (fun x => Up (M x)) n)) (hj : j < n) :
    (w.setCells g (j * 3) (edR St Ln Up i)).ownsRow base 31 3 (.slice (some ⟨g, 0, none⟩) n cap) n (edL (fun x => St (if x = j then i else M x)) (fun x => Ln (if x = j then i else M x)) (fun x => Up (if x = j then i else M x)) n) := by
  obtain ⟨ys, h1, h2⟩ := own_setCells (edR St Ln Up i) (j * 3) w _ h (by show j * 3 + 3 ≤ n * 3; omega)
  have e : ys = edL (fun x => St (if x = j then i else M x)) (fun x => Ln (if x = j then i else M x)) (fun x => Up (if x = j then i else M x)) n := by
    apply List.ext_getElem?
    intro k
    rw [h2 k]
    show (if j * 3 ≤ k ∧ k < j * 3 + 3 then _ else _) = _
    rcases Nat.lt_or_ge k (n * 3) with hk | hk
    · obtain ⟨a, r, rfl, ha, hr⟩ : ∃ a r, k = a * 3 + r ∧ a < n ∧ r < 3 := ⟨k / 3, k % 3, by omega, by omega, by omega⟩
      rw [edL_get _ _ _ n a r ha hr, edL_get _ _ _ n a r ha hr]
      by_cases e : a = j
      · subst e
        rw [if_pos (by omega), show a * 3 + r - a * 3 = r by omega]
        simp [edR]
      · rw [if_neg (by omega)]
        simp [edR, e]
    · rw [if_neg (by omega), List.getElem?_eq_none (by rw [edL_len]; omega), List.getElem?_eq_none (by rw [edL_len]; omega)]
  rw [← e]
  exact h1
end Go.Proofs.YtdhdknjefjolpaaDoor
end
