/-
  Package mmu: Reset, Last, Banks, Of, New, Clone, Phys, Zero, Stack, Port; nil receivers.
-/
import Derived.Test.YtemfdkoipeedeaaMmu2
namespace Go.Proofs.Ytemfdkoipeedeaa
set_option linter.unusedSimpArgs false
set_option linter.unusedVariables false
set_option maxRecDepth 10000
open Go.RowKit Pl

theorem mmOf_calls (l : Nat) (A : Nat → Nat) (w : World) :
    Calls Try.prog 5 #[.agg (bk8 A), .int .u8 (l : Int)] w fun e w' => ∃ g, e = .returned (.pointer (some ⟨g, 0, none⟩)) ∧ MB w' g A l ∧ w.heap.size ≤ g ∧ Below w.heap.size w w' := by
  unfold bk8
  go_enter Try.func5, Try.ntmps5
  go_wp2_with fail
  go_ret
  refine ⟨w.heap.size + 1, rfl, ?_, by omega, by (repeat (first | exact Below.refl _ _ | assumption | refine Below.drew ?_ | refine Bl.alloc ?_ _ | refine below_drewN ?_ _ | refine Bl.chain ?_ (by assumption) (Nat.le_refl _)))⟩
  unfold MB
  exact Blk.newAt (by simp)
theorem bk8_get (A : Nat → Nat) (n : Nat) (h : n < 8) : (bk8 A)[n]? = some (.int .u8 (A n : Int)) := by
  match n, h with
  | 0, _ | 1, _ | 2, _ | 3, _ | 4, _ | 5, _ | 6, _ | 7, _ => rfl
def zero8 (A : Nat → Nat) : Bool := (List.range 8).all fun i => (A i : Int) == 0
theorem zero8_yes {A : Nat → Nat} (h : zero8 A = true) : ∀ i, i < 8 → A i = 0 := fun i hi => by
  unfold zero8 at h
  rw [List.all_eq_true] at h
  have := h i (List.mem_range.2 hi)
  rw [beq_iff_eq] at this
  omega
theorem bk8_zero {A : Nat → Nat} (h : ∀ i, i < 8 → A i = 0) : bk8 A = #[.int .u8 0, .int .u8 0, .int .u8 0, .int .u8 0, .int .u8 0, .int .u8 0, .int .u8 0, .int .u8 0] := by
  unfold bk8
  rw [h 0 (by omega), h 1 (by omega), h 2 (by omega), h 3 (by omega), h 4 (by omega), h 5 (by omega), h 6 (by omega), h 7 (by omega)]
  rfl
set_option maxHeartbeats 4000000 in
theorem mmBanks_calls (g l : Nat) (A : Nat → Nat) (w : World) (hM : MB w g A l) :
    Calls Try.prog 28 #[.pointer (some ⟨g, 0, none⟩)] w fun e w' => e = .returned (.agg (bk8 A)) ∧ Below w.heap.size w w' := by
  have hg := hM.lt
  have c := fun (W : World) (hW : MB W g A l) (n : Nat) (hn : n < 8) => MB.get hW n hn
  have heq : ∀ W, (binOp .eql 22 (.agg (bk8 A)) (.agg #[.int .u8 0, .int .u8 0, .int .u8 0, .int .u8 0, .int .u8 0, .int .u8 0, .int .u8 0, .int .u8 0])).run Try.prog W = .ok (.bool (zero8 A)) W := fun W =>
    run_eql_ints 22 5 8 .u8 Try.underlying22 Try.underlying5 (fun _ => by kernel_rfl) (fun i => (A i : Int)) (fun _ => 0) W
  have hM1 : MB (w.alloc (.cells #[.int .u8 0, .int .u8 0, .int .u8 0, .int .u8 0, .int .u8 0, .int .u8 0, .int .u8 0, .int .u8 0] 22)) g A l := Blk.alloc hM _
  have c0 := c _ hM1 0 (by omega)
  have c1 := c _ hM1 1 (by omega)
  have c2 := c _ hM1 2 (by omega)
  have c3 := c _ hM1 3 (by omega)
  have c4 := c _ hM1 4 (by omega)
  have c5 := c _ hM1 5 (by omega)
  have c6 := c _ hM1 6 (by omega)
  have c7 := c _ hM1 7 (by omega)
  clear c
  by_cases hz : zero8 A = true
  · have hb := bk8_zero (zero8_yes hz)
    rw [hz] at heq
    unfold bk8 at heq
    have HB := hide hb
    clear hb
    go_enter Try.func28, Try.ntmps28
    go_wp2_with fail
    refine bodyPost_ret (results_cell_row rfl _ _ w.heap.size 22 #[.int .u8 0, .int .u8 0, .int .u8 0, .int .u8 0, .int .u8 0, .int .u8 0, .int .u8 0, .int .u8 0] (0, 0) _ rfl (heap_alloc_new w _) Try.underlying22 rfl (by kernel_rfl)) rfl ⟨by rw [HB.out], (Below.refl _ _).alloc (Nat.le_refl _) _⟩
  · have hz : zero8 A = false := by simpa using hz
    rw [hz] at heq
    unfold bk8 at heq
    go_enter Try.func28, Try.ntmps28
    go_wp2_with fail
    refine bodyPost_ret (results_cell_row rfl _ _ w.heap.size 22 (bk8 A) (0, 0) _ rfl (heap_alloc_new w _) Try.underlying22 rfl (by kernel_rfl)) rfl ⟨rfl, (Below.refl _ _).alloc (Nat.le_refl _) _⟩
theorem mmPhys_calls (g l a : Nat) (A : Nat → Nat) (w : World) (ha : a < 65536) (hA : ∀ i, i < 8 → A i < 256) (hM : MB w g A l) :
    Calls Try.prog 9 #[.pointer (some ⟨g, 0, none⟩), .int .u16 (a : Int)] w fun e w' => e = .returned (.int .u32 (adr (A (a / 8192)) a : Nat)) ∧ Below w.heap.size w w' := by
  have hq : a / 8192 < 8 := by omega
  have hx : ∀ W, (Instr.index 22 (.agg (bk8 A)) (.int .u16 ((a : Int) / 8192))).run Try.prog W = .ok (.int .u8 (A (a / 8192) : Int)) W := fun W => by
    have h := run_index_row 22 5 8 Try.underlying22 (fun _ => by kernel_rfl) (fun _ => by kernel_rfl) (bk8 A) .u16 (a / 8192) hq (.int .u8 (A (a / 8192) : Int)) (bk8_get A _ hq) W
    rwa [show ((a / 8192 : Nat) : Int) = (a : Int) / 8192 from by omega] at h
  go_enter Try.func9, Try.ntmps9
  (go_wp2_with fail; refine Cl.m (mmBanks_calls g l A _ hM) ?_; intro w1 hb1)
  go_wp2_with fail
  refine Cl.p (phAddr_calls (A (a / 8192)) a _ (hA _ hq) ha) ?_
  go_wp2_with fail
  go_ret
  exact ⟨rfl, by (repeat (first | exact Below.refl _ _ | assumption | refine Below.drew ?_ | refine Bl.alloc ?_ _ | refine below_drewN ?_ _ | refine Bl.chain ?_ (by assumption) (Nat.le_refl _)))⟩
def prt (n : Nat) : Nat := [2088960, 2088962, 2088963].getD n 0
end Go.Proofs.Ytemfdkoipeedeaa
