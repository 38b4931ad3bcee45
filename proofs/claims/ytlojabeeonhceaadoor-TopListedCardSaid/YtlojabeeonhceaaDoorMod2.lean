/-
  Package modes: word, Behind, whole, Distance, Target.
-/
import Derived.Test.YtlojabeeonhceaaDoorMod1
namespace Go.Proofs.YtlojabeeonhceaaDoor
set_option linter.unusedSimpArgs false
set_option linter.unusedVariables false
set_option maxRecDepth 10000
open Go.RowKit Go.Shelf Pl
/-- Bytes of a slice, by place. -/
def Byt (w : World) (b o n : Nat) (B : Nat → Nat) : Prop := ∀ i, i < n → w.cell? ⟨b, o + i, none⟩ = some (.int .u8 (B i : Int)) ∧ B i < 256
theorem Byt.low {w w' : World} {b o n : Nat} {B : Nat → Nat} (h : Byt w b o n B) (hb : Below w.heap.size w w') : Byt w' b o n B := fun i hi => ⟨(hb.cell (cell_lt (h i hi).1)).trans (h i hi).1, (h i hi).2⟩
theorem word_calls (b o n c : Nat) (B : Nat → Nat) (w : World) (hB : Byt w b o n B) (hn : 2 ≤ n) :
    Calls Tryd.prog 38 #[.slice (some ⟨b, o, none⟩) n c] w fun e w' => e = .returned (.int .u16 ((B 0 + 256 * B 1 : Nat) : Int)) ∧ Below w.heap.size w w' := by
  obtain ⟨h0, l0⟩ := hB 0 (by omega)
  obtain ⟨h1, l1⟩ := hB 1 (by omega)
  rw [Nat.add_zero] at h0
  have hw : ∀ W : World, Calls Tryd.prog 46 #[.int .u8 (B 0 : Int), .int .u8 (B 1 : Int)] W fun e w' => e = .returned (.int .u16 ((B 0 + 256 * B 1 : Nat) : Int)) ∧ W = w' := fun W => octWord_calls (B 0) (B 1) W l0 l1
  have i0 : (0 : Int) < (n : Int) := by omega
  have i1 : (1 : Int) < (n : Int) := by omega
  have j0 : 0 < n := by omega
  have j1 : 1 < n := by omega
  have hb0 : Below w.heap.size w w := Below.refl _ _
  clear hB hn
  go_enter Tryd.func38, Tryd.ntmps38
  go_wp2_with fail
  refine wp_region_held_drew (S := fun W => W.cell? ⟨b, o, none⟩ = some (.int .u8 (B 0 : Int)) ∧ W.cell? ⟨b, o + 1, none⟩ = some (.int .u8 (B 1 : Int)) ∧ Below w.heap.size w W) (by kernel_rfl) ⟨(by first | exact h0.drew | exact h0 | exact Below.drew h0), (by first | exact h1.drew | exact h1 | exact Below.drew h1), (by first | exact hb0.drew | exact hb0 | exact Below.drew hb0)⟩ (fun hS0 => ?_)
  clear h0 h1 hb0
  change wpAnyH _ _ _ _ _ 8 #[false, false, false, false, false, false, false, false] _ _
  generalize w.drew = v0 at *
  refine wpAnyH_take (i := 0) (v := ?_) rfl (by kernel_rfl) (by kernel_rfl) (by kernel_rfl) (fun _ _ _ h => h) (Or.inl ⟨by rfl, ?_⟩) hS0 ?_
  rotate_left
  · (intro w hSw; (try dsimp only at hSw); go_simp; try with_reducible rfl)
  simp only [List.getElem_toArray, List.getElem_cons_zero, List.getElem_cons_succ, Act.put, List.setIfInBounds_toArray, List.set_cons_zero, List.set_cons_succ]
  refine wpAnyH_take (i := 1) (v := ?_) rfl (by kernel_rfl) (by kernel_rfl) (by kernel_rfl) (fun _ _ _ h => h) (Or.inl ⟨by rfl, ?_⟩) hS0 ?_
  rotate_left
  · (intro w hSw; (try dsimp only at hSw); go_simp; try with_reducible rfl)
  simp only [List.getElem_toArray, List.getElem_cons_zero, List.getElem_cons_succ, Act.put, List.setIfInBounds_toArray, List.set_cons_zero, List.set_cons_succ]
  refine wpAnyH_take (i := 2) (v := ?_) rfl (by kernel_rfl) (by kernel_rfl) (by kernel_rfl) (fun _ _ _ h => h) (Or.inl ⟨by rfl, ?_⟩) hS0 ?_
  rotate_left
  · (intro w hSw; (try dsimp only at hSw); go_simp; try with_reducible rfl)
  simp only [List.getElem_toArray, List.getElem_cons_zero, List.getElem_cons_succ, Act.put, List.setIfInBounds_toArray, List.set_cons_zero, List.set_cons_succ]
  refine wpAnyH_take (i := 3) (v := ?_) rfl (by kernel_rfl) (by kernel_rfl) (by kernel_rfl) (fun _ _ _ h => h) (Or.inl ⟨by rfl, ?_⟩) hS0 ?_
  rotate_left
  · (intro w hSw; (try dsimp only at hSw); go_simp; try with_reducible rfl)
  simp only [List.getElem_toArray, List.getElem_cons_zero, List.getElem_cons_succ, Act.put, List.setIfInBounds_toArray, List.set_cons_zero, List.set_cons_succ]
  refine wpAnyH_take (i := 4) (v := ?_) rfl (by kernel_rfl) (by kernel_rfl) (by kernel_rfl) (fun _ _ _ h => h) (Or.inl ⟨by rfl, ?_⟩) hS0 ?_
  rotate_left
  · (intro w hSw; (try dsimp only at hSw); go_simp; try with_reducible rfl)
  simp only [List.getElem_toArray, List.getElem_cons_zero, List.getElem_cons_succ, Act.put, List.setIfInBounds_toArray, List.set_cons_zero, List.set_cons_succ]
  refine wpAnyH_take (i := 5) (v := ?_) rfl (by kernel_rfl) (by kernel_rfl) (by kernel_rfl) (fun _ _ _ h => h) (Or.inl ⟨by rfl, ?_⟩) hS0 ?_
  rotate_left
  · (intro w hSw; (try dsimp only at hSw); go_simp; try with_reducible rfl)
  simp only [List.getElem_toArray, List.getElem_cons_zero, List.getElem_cons_succ, Act.put, List.setIfInBounds_toArray, List.set_cons_zero, List.set_cons_succ]
  refine wpAnyH_ready (rs := [6]) (by kernel_rfl) (by simp) ?_
  refine AllReadyH.cons rfl (fun K hK => ?_) AllReadyH.nil
  go_simp
  refine (hw _).mono ?_
  rintro e w' ⟨rfl, rfl⟩
  (try go_simp)
  refine hK.out _ _ hS0 (fun _ => ?_)
  clear hK K
  simp only [List.getElem_toArray, List.getElem_cons_zero, List.getElem_cons_succ, Act.put, List.setIfInBounds_toArray, List.set_cons_zero, List.set_cons_succ]
  refine wpAnyH_take (i := 7) (v := ?_) rfl (by kernel_rfl) (by kernel_rfl) (by kernel_rfl) (fun _ _ _ h => h) (Or.inl ⟨by rfl, ?_⟩) hS0 ?_
  rotate_left
  · (intro w hSw; (try dsimp only at hSw); go_simp; try with_reducible rfl)
  simp only [List.getElem_toArray, List.getElem_cons_zero, List.getElem_cons_succ, Act.put, List.setIfInBounds_toArray, List.set_cons_zero, List.set_cons_succ]
  refine wpAnyH_done (by kernel_rfl) ?_ _
  have h0 := hS0.1
  have h1 := hS0.2.1
  have hb0 := hS0.2.2
  clear hS0
  go_wp2_with fail
  go_ret
  exact ⟨rfl, hb0⟩
theorem behindM_calls (m : Nat) (w : World) (hm : m < 20) : Calls Tryd.prog 63 #[.int .u8 (m : Int)] w fun e w' => e = .returned (.int .i64 (behM m)) ∧ w = w' := by
  have h : m = 0 ∨ m = 1 ∨ m = 2 ∨ m = 3 ∨ m = 4 ∨ m = 5 ∨ m = 6 ∨ m = 7 ∨ m = 8 ∨ m = 9 ∨ m = 10 ∨ m = 11 ∨ m = 12 ∨ m = 13 ∨ m = 14 ∨ m = 15 ∨ m = 16 ∨ m = 17 ∨ m = 18 ∨ m = 19 := by omega
  rcases h with rfl | rfl | rfl | rfl | rfl | rfl | rfl | rfl | rfl | rfl | rfl | rfl | rfl | rfl | rfl | rfl | rfl | rfl | rfl | rfl
  all_goals
    go_enter Tryd.func63, Tryd.ntmps63
    go_wp2_with fail
    go_ret
    exact ⟨rfl, rfl⟩
theorem whole_calls (m n c : Nat) (a : Option Addr) (w : World) (hm : m < 20) (hn : (n : Int) = behM m) : Calls Tryd.prog 56 #[.int .u8 (m : Int), .slice a n c] w fun e w' => e = .returned (.bool true) ∧ w = w' := by
  have hb := behindM_calls m w hm
  rw [← hn] at hb
  have i : ((n : Int) == (n : Int)) = true := beq_self_eq_true _
  clear hn
  go_enter Tryd.func56, Tryd.ntmps56
  go_wp2_with fail
  refine Cl.p hb ?_
  go_wp2_with fail
  go_ret
  exact ⟨rfl, rfl⟩
end Go.Proofs.YtlojabeeonhceaaDoor
