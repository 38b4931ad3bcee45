/-
  irq: who asks; Disable and Due of a controller that may be none.
-/
import Derived.Deep.RegionHeld3
import Derived.Test.YtemfdkoipeedeaaIrq
namespace Go.Proofs.Ytemfdkoipeedeaa
set_option linter.unusedSimpArgs false
set_option linter.unusedVariables false
set_option maxRecDepth 10000
open Go.RowKit Go.Shelf Pl
attribute [local go_sem] Oper.semAt_some

/-- A controller, or none. -/
def QV (w : World) (o : Option Addr) (d : Nat) (u : Bool) : Prop := (o = none ∧ d = 0 ∧ u = false) ∨ ∃ g, o = some ⟨g, 0, none⟩ ∧ IB w g d u
theorem QV.below {w w' : World} {o : Option Addr} {d : Nat} {u : Bool} {m : Nat} (h : QV w o d u) (hb : Below m w w') (hm : w.heap.size ≤ m) : QV w' o d u := by
  rcases h with h | ⟨g, e, h⟩
  · exact .inl h
  · exact .inr ⟨g, e, Blk.below h hb (Nat.lt_of_lt_of_le (Blk.lt h) hm)⟩
theorem QV.alloc {w : World} {o : Option Addr} {d : Nat} {u : Bool} (h : QV w o d u) (x : Obj) : QV (w.alloc x) o d u := by
  rcases h with h | ⟨g, e, h⟩
  · exact .inl h
  · exact .inr ⟨g, e, Blk.alloc h x⟩
theorem QV.drew {w : World} {o : Option Addr} {d : Nat} {u : Bool} (h : QV w o d u) : QV w.drew o d u := h
theorem qvDisable_calls (o : Option Addr) (d : Nat) (u : Bool) (w : World) (hI : QV w o d u) : Calls Try.prog 79 #[.pointer o] w fun e w' => e = .returned (.int .u8 (d : Int)) ∧ w = w' := by
  rcases hI with ⟨rfl, rfl, rfl⟩ | ⟨g, rfl, hI⟩
  · go_enter Try.func79, Try.ntmps79
    go_wp2_with fail
    go_ret
    exact ⟨rfl, rfl⟩
  · exact iqDisable_calls g d u w hI
theorem qvDue_calls (o : Option Addr) (d : Nat) (u : Bool) (w : World) (hI : QV w o d u) : Calls Try.prog 87 #[.pointer o] w fun e w' => e = .returned (.bool u) ∧ w = w' := by
  rcases hI with ⟨rfl, rfl, rfl⟩ | ⟨g, rfl, hI⟩
  · go_enter Try.func87, Try.ntmps87
    go_wp2_with fail
    go_ret
    exact ⟨rfl, rfl⟩
  · exact iqDue_calls g d u w hI
/-- The six who may ask. -/
def askA (r m u i j : Bool) : Array Value := #[.bool false, .bool r, .bool m, .bool u, .bool i, .bool j]
theorem iqAsks_calls (o : Option Addr) (d : Nat) (u r m i j : Bool) (w : World) (hI : QV w o d u) : Calls Try.prog 83 #[.pointer o, .agg #[.bool r, .bool m, .bool i, .bool j]] w fun e w' => e = .returned (.agg (askA r m u i j)) ∧ Below w.heap.size w w' := by
  unfold askA
  go_enter Try.func83, Try.ntmps83
  have hb0 : Below w.heap.size w ((w.alloc (.cells #[.bool r, .bool m, .bool i, .bool j] 96)).alloc (.cells #[.bool false, .bool false, .bool false, .bool false, .bool false, .bool false] 154)) := by (repeat (first | exact Below.refl _ _ | assumption | refine Below.drew ?_ | refine Bl.alloc ?_ _ | refine below_drewN ?_ _ | refine Bl.chain ?_ (by assumption) (Nat.le_refl _)))
  have hU : Blk ((w.alloc (.cells #[.bool r, .bool m, .bool i, .bool j] 96)).alloc (.cells #[.bool false, .bool false, .bool false, .bool false, .bool false, .bool false] 154)) w.heap.size 96 #[.bool r, .bool m, .bool i, .bool j] := (Blk.new w _ _).alloc _
  have hV : Blk ((w.alloc (.cells #[.bool r, .bool m, .bool i, .bool j] 96)).alloc (.cells #[.bool false, .bool false, .bool false, .bool false, .bool false, .bool false] 154)) (w.heap.size + 1) 154 #[.bool false, .bool false, .bool false, .bool false, .bool false, .bool false] := Blk.newAt (by simp)
  have hQ : QV ((w.alloc (.cells #[.bool r, .bool m, .bool i, .bool j] 96)).alloc (.cells #[.bool false, .bool false, .bool false, .bool false, .bool false, .bool false] 154)) o d u := (hI.alloc _).alloc _
  go_wp2_with fail
  generalize (w.alloc (.cells #[.bool r, .bool m, .bool i, .bool j] 96)).alloc (.cells #[.bool false, .bool false, .bool false, .bool false, .bool false, .bool false] 154) = W at *
  have y0 : W.drew.cell? ⟨w.heap.size, 0, none⟩ = some (.bool r) := hU.cell 0
  have y1 : W.drew.cell? ⟨w.heap.size, 1, none⟩ = some (.bool m) := hU.cell 1
  have y2 : W.drew.cell? ⟨w.heap.size, 2, none⟩ = some (.bool i) := hU.cell 2
  have y3 : W.drew.cell? ⟨w.heap.size, 3, none⟩ = some (.bool j) := hU.cell 3
  refine wp_region_held_drew (S := fun w' => w'.cell? ⟨w.heap.size, 0, none⟩ = some (.bool r) ∧ w'.cell? ⟨w.heap.size, 1, none⟩ = some (.bool m) ∧ w'.cell? ⟨w.heap.size, 2, none⟩ = some (.bool i) ∧ w'.cell? ⟨w.heap.size, 3, none⟩ = some (.bool j)) (by kernel_rfl) ⟨y0, y1, y2, y3⟩ (fun hHeld => ?_)
  change wpAnyH _ _ _ _ _ 12 #[false, false, false, false, false, false, false, false, false, false, false, false] _ _
  refine wpAnyH_take (i := 0) (v := ?_) rfl (by kernel_rfl) (by kernel_rfl) (by kernel_rfl) (fun _ _ _ h => h) (Or.inl ⟨by rfl, ?_⟩) (by assumption) ?_
  rotate_left
  · (intro w hSw; (try dsimp only at hSw); go_simp; try with_reducible rfl)
  simp only [List.getElem_toArray, List.getElem_cons_zero, List.getElem_cons_succ, Act.put, List.setIfInBounds_toArray, List.set_cons_zero, List.set_cons_succ]
  refine wpAnyH_take (i := 1) (v := ?_) rfl (by kernel_rfl) (by kernel_rfl) (by kernel_rfl) (fun _ _ _ h => h) (Or.inl ⟨by rfl, ?_⟩) (by assumption) ?_
  rotate_left
  · (intro w hSw; (try dsimp only at hSw); go_simp; try with_reducible rfl)
  simp only [List.getElem_toArray, List.getElem_cons_zero, List.getElem_cons_succ, Act.put, List.setIfInBounds_toArray, List.set_cons_zero, List.set_cons_succ]
  refine wpAnyH_take (i := 2) (v := ?_) rfl (by kernel_rfl) (by kernel_rfl) (by kernel_rfl) (fun _ _ _ h => h) (Or.inl ⟨by rfl, ?_⟩) (by assumption) ?_
  rotate_left
  · (intro w hSw; (try dsimp only at hSw); go_simp; try with_reducible rfl)
  simp only [List.getElem_toArray, List.getElem_cons_zero, List.getElem_cons_succ, Act.put, List.setIfInBounds_toArray, List.set_cons_zero, List.set_cons_succ]
  refine wpAnyH_take (i := 3) (v := ?_) rfl (by kernel_rfl) (by kernel_rfl) (by kernel_rfl) (fun _ _ _ h => h) (Or.inl ⟨by rfl, ?_⟩) (by assumption) ?_
  rotate_left
  · (intro w hSw; (try dsimp only at hSw); go_simp; try with_reducible rfl)
  simp only [List.getElem_toArray, List.getElem_cons_zero, List.getElem_cons_succ, Act.put, List.setIfInBounds_toArray, List.set_cons_zero, List.set_cons_succ]
  refine wpAnyH_take (i := 4) (v := ?_) rfl (by kernel_rfl) (by kernel_rfl) (by kernel_rfl) (fun _ _ _ h => h) (Or.inl ⟨by rfl, ?_⟩) (by assumption) ?_
  rotate_left
  · (intro w hSw; (try dsimp only at hSw); go_simp; try with_reducible rfl)
  simp only [List.getElem_toArray, List.getElem_cons_zero, List.getElem_cons_succ, Act.put, List.setIfInBounds_toArray, List.set_cons_zero, List.set_cons_succ]
  refine wpAnyH_take (i := 6) (v := ?_) rfl (by kernel_rfl) (by kernel_rfl) (by kernel_rfl) (fun _ _ _ h => h) (Or.inl ⟨by rfl, ?_⟩) (by assumption) ?_
  rotate_left
  · (intro w hSw; (try dsimp only at hSw); go_simp; try with_reducible rfl)
  simp only [List.getElem_toArray, List.getElem_cons_zero, List.getElem_cons_succ, Act.put, List.setIfInBounds_toArray, List.set_cons_zero, List.set_cons_succ]
  refine wpAnyH_take (i := 7) (v := ?_) rfl (by kernel_rfl) (by kernel_rfl) (by kernel_rfl) (fun _ _ _ h => h) (Or.inl ⟨by rfl, ?_⟩) (by assumption) ?_
  rotate_left
  · (intro w hSw; (try dsimp only at hSw); go_simp; try with_reducible rfl)
  simp only [List.getElem_toArray, List.getElem_cons_zero, List.getElem_cons_succ, Act.put, List.setIfInBounds_toArray, List.set_cons_zero, List.set_cons_succ]
  refine wpAnyH_take (i := 8) (v := ?_) rfl (by kernel_rfl) (by kernel_rfl) (by kernel_rfl) (fun _ _ _ h => h) (Or.inl ⟨by rfl, ?_⟩) (by assumption) ?_
  rotate_left
  · (intro w hSw; (try dsimp only at hSw); go_simp; try with_reducible rfl)
  simp only [List.getElem_toArray, List.getElem_cons_zero, List.getElem_cons_succ, Act.put, List.setIfInBounds_toArray, List.set_cons_zero, List.set_cons_succ]
  refine wpAnyH_take (i := 9) (v := ?_) rfl (by kernel_rfl) (by kernel_rfl) (by kernel_rfl) (fun _ _ _ h => h) (Or.inl ⟨by rfl, ?_⟩) (by assumption) ?_
  rotate_left
  · (intro w hSw; (try dsimp only at hSw); go_simp; try with_reducible rfl)
  simp only [List.getElem_toArray, List.getElem_cons_zero, List.getElem_cons_succ, Act.put, List.setIfInBounds_toArray, List.set_cons_zero, List.set_cons_succ]
  refine wpAnyH_ready (rs := [5]) (by kernel_rfl) (by simp) ?_
  refine AllReadyH.cons rfl (fun K hK => ?_) AllReadyH.nil
  go_simp
  go_at_call 87
  refine (qvDue_calls o d u W.drew hQ).mono ?_
  rintro e w' ⟨rfl, rfl⟩
  try go_simp
  refine hK.out _ _ ⟨y0, y1, y2, y3⟩ (fun hHeld => ?_)
  clear hK K
  simp only [List.getElem_toArray, List.getElem_cons_zero, List.getElem_cons_succ, Act.put, List.setIfInBounds_toArray, List.set_cons_zero, List.set_cons_succ]
  refine wpAnyH_take (i := 10) (v := ?_) rfl (by kernel_rfl) (by kernel_rfl) (by kernel_rfl) (fun _ _ _ h => h) (Or.inl ⟨by rfl, ?_⟩) (by assumption) ?_
  rotate_left
  · (intro w hSw; (try dsimp only at hSw); go_simp; try with_reducible rfl)
  simp only [List.getElem_toArray, List.getElem_cons_zero, List.getElem_cons_succ, Act.put, List.setIfInBounds_toArray, List.set_cons_zero, List.set_cons_succ]
  refine wpAnyH_ready (rs := [11]) (by kernel_rfl) (by simp) ?_
  refine AllReadyH.cons rfl (fun K hK => ?_) AllReadyH.nil
  clear hHeld
  have v0 : W.cell? ⟨w.heap.size + 1, 0, none⟩ = some (.bool false) := hV.cell 0
  have f0 : W.frozen? ⟨w.heap.size + 1, 0, none⟩ = false := hV.frozen 0
  have v1 : W.cell? ⟨w.heap.size + 1, 1, none⟩ = some (.bool false) := hV.cell 1
  have f1 : W.frozen? ⟨w.heap.size + 1, 1, none⟩ = false := hV.frozen 1
  have v2 : W.cell? ⟨w.heap.size + 1, 2, none⟩ = some (.bool false) := hV.cell 2
  have f2 : W.frozen? ⟨w.heap.size + 1, 2, none⟩ = false := hV.frozen 2
  have v3 : W.cell? ⟨w.heap.size + 1, 3, none⟩ = some (.bool false) := hV.cell 3
  have f3 : W.frozen? ⟨w.heap.size + 1, 3, none⟩ = false := hV.frozen 3
  have v4 : W.cell? ⟨w.heap.size + 1, 4, none⟩ = some (.bool false) := hV.cell 4
  have f4 : W.frozen? ⟨w.heap.size + 1, 4, none⟩ = false := hV.frozen 4
  have v5 : W.cell? ⟨w.heap.size + 1, 5, none⟩ = some (.bool false) := hV.cell 5
  have f5 : W.frozen? ⟨w.heap.size + 1, 5, none⟩ = false := hV.frozen 5
  go_simp
  have hB6 := (((((hV.set_ 0 (.bool false)).set_ 1 (.bool r)).set_ 2 (.bool m)).set_ 3 (.bool u)).set_ 4 (.bool i)).set_ 5 (.bool j)
  have hO6 : Only (fun k => k = w.heap.size + 1) W ((((((W.setCell ⟨w.heap.size + 1, 0, none⟩ (.bool false)).setCell ⟨w.heap.size + 1, 1, none⟩ (.bool r)).setCell ⟨w.heap.size + 1, 2, none⟩ (.bool m)).setCell ⟨w.heap.size + 1, 3, none⟩ (.bool u)).setCell ⟨w.heap.size + 1, 4, none⟩ (.bool i)).setCell ⟨w.heap.size + 1, 5, none⟩ (.bool j)) :=
    by (repeat (refine Only.setCell ?_ _ (by rfl) _)); exact Only.refl _ _
  have hU6 := hU.only hO6 (by omega)
  generalize (((((W.setCell ⟨w.heap.size + 1, 0, none⟩ (.bool false)).setCell ⟨w.heap.size + 1, 1, none⟩ (.bool r)).setCell ⟨w.heap.size + 1, 2, none⟩ (.bool m)).setCell ⟨w.heap.size + 1, 3, none⟩ (.bool u)).setCell ⟨w.heap.size + 1, 4, none⟩ (.bool i)).setCell ⟨w.heap.size + 1, 5, none⟩ (.bool j) = W6 at *
  have hB6' : Blk W6 (w.heap.size + 1) 154 (askA r m u i j) := hB6
  refine hK.out _ _ ⟨hU6.cell 0, hU6.cell 1, hU6.cell 2, hU6.cell 3⟩ (fun hHeld => ?_)
  clear hK K hHeld
  refine wpAnyH_done (by kernel_rfl) ?_ _
  go_wp2_with fail
  refine bodyPost_ret (results_cell_row rfl _ _ (w.heap.size + 1) 154 (askA r m u i j) (0, 0) _ rfl hB6' Try.underlying154 rfl (by kernel_rfl)) rfl ⟨rfl, Below.drew ?_⟩
  exact hb0.trans (hO6.below hb0.size (fun k e => by omega))
end Go.Proofs.Ytemfdkoipeedeaa
