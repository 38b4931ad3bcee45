/-
  Package mmu: Reset, Last, Banks, Of, New, Clone, Phys, Zero, Stack, Port; nil receivers.
-/
import Derived.Test.YtjaibacpojpfhaaMmu2
namespace Go.Proofs.Ytjaibacpojpfhaa
open Go.RowKit Pl

theorem mmReset_calls (g l : Nat) (A : Nat → Nat) (w : World) (hM : MB w g A l) :
    Calls Try.prog 26 #[.pointer (some ⟨g, 0, none⟩)] w fun e w' => (∃ v, e = .returned v) ∧ MB w' g (updn A 7 0) l ∧ Only (fun j => j = g) w w' := by
  have y0 : w.cell? ⟨g, 7, none⟩ = some (.int .u8 (A 7 : Int)) := MB.get hM 7 (by omega)
  have y1 : w.frozen? ⟨g, 7, none⟩ = false := Blk.frozen hM 7
  go_enter Try.func26, Try.ntmps26
  go_wp2_with fail
  go_end0
  exact ⟨⟨_, rfl⟩, MB.set hM 7 0 (by omega), Only.setCell (S := fun j => j = g) (Only.refl _ _) ⟨g, 7, none⟩ rfl _⟩
theorem mmLast_calls (g l : Nat) (A : Nat → Nat) (w : World) (hM : MB w g A l) :
    Calls Try.prog 12 #[.pointer (some ⟨g, 0, none⟩)] w fun e w' => e = .returned (.int .u8 (l : Int)) ∧ w = w' := by
  have y0 : w.cell? ⟨g, 8, none⟩ = some (.int .u8 (l : Int)) := Blk.cell hM 8
  go_enter Try.func12, Try.ntmps12
  go_wp2_with fail
  go_ret
  exact ⟨rfl, rfl⟩
theorem mmOf_calls (l : Nat) (A : Nat → Nat) (w : World) :
    Calls Try.prog 8 #[.agg (bk8 A), .int .u8 (l : Int)] w fun e w' => ∃ g, e = .returned (.pointer (some ⟨g, 0, none⟩)) ∧ MB w' g A l ∧ w.heap.size ≤ g ∧ Below w.heap.size w w' := by
  unfold bk8
  go_enter Try.func8, Try.ntmps8
  go_wp2_with fail
  go_ret
  refine ⟨w.heap.size + 1, rfl, ?_, by omega, by (repeat (first | exact Below.refl _ _ | assumption | refine Below.drew ?_ | refine Bl.alloc ?_ _ | refine below_drewN ?_ _ | refine Bl.chain ?_ (by assumption) (Nat.le_refl _)))⟩
  unfold MB
  exact Blk.newAt (by simp)
theorem mmNew_calls (w : World) :
    Calls Try.prog 25 #[] w fun e w' => ∃ g, e = .returned (.pointer (some ⟨g, 0, none⟩)) ∧ Below w.heap.size w w' := by
  go_enter Try.func25, Try.ntmps25
  go_wp2_with fail
  go_ret
  exact ⟨_, rfl, by (repeat (first | exact Below.refl _ _ | assumption | refine Below.drew ?_ | refine Bl.alloc ?_ _ | refine below_drewN ?_ _ | refine Bl.chain ?_ (by assumption) (Nat.le_refl _)))⟩
theorem bk8_get (A : Nat → Nat) (n : Nat) (h : n < 8) : (bk8 A)[n]? = some (.int .u8 (A n : Int)) := by
  match n, h with
  | 0, _ | 1, _ | 2, _ | 3, _ | 4, _ | 5, _ | 6, _ | 7, _ => rfl
def zero8 (A : Nat → Nat) : Bool := (List.range 8).all fun i => (A i : Int) == 0
theorem zero8_yes {A : Nat → Nat} (h : zero8 A = true) : ∀ i, i < 8 → A i = 0 := fun i hi => by
  unfold zero8 at h
  rw [List.all_eq_true] at h
  have := h i (List.mem_range.2 hi)
  rw [beq_iff_eq] at this
  omega
theorem bk8_zero {A : Nat → Nat} (h : ∀ i, i < 8 → A i = 0) : bk8 A = #[.int .u8 0, .int .u8 0, .int .u8 0, .int .u8 0, .int .u8 0, .int .u8 0, .int .u8 0, .int .u8 0] := by
  unfold bk8
  rw [h 0 (by omega), h 1 (by omega), h 2 (by omega), h 3 (by omega), h 4 (by omega), h 5 (by omega), h 6 (by omega), h 7 (by omega)]
  rfl
set_option maxHeartbeats 4000000 in
theorem mmBanks_calls (g l : Nat) (A : Nat → Nat) (w : World) (hM : MB w g A l) :
    Calls Try.prog 11 #[.pointer (some ⟨g, 0, none⟩)] w fun e w' => e = .returned (.agg (bk8 A)) ∧ Below w.heap.size w w' := by
  have hg := hM.lt
  have c := fun (W : World) (hW : MB W g A l) (n : Nat) (hn : n < 8) => MB.get hW n hn
  have heq : ∀ W, (binOp .eql 22 (.agg (bk8 A)) (.agg #[.int .u8 0, .int .u8 0, .int .u8 0, .int .u8 0, .int .u8 0, .int .u8 0, .int .u8 0, .int .u8 0])).run Try.prog W = .ok (.bool (zero8 A)) W := fun W =>
    run_eql_ints 22 5 8 .u8 Try.underlying22 Try.underlying5 (fun _ => by kernel_rfl) (fun i => (A i : Int)) (fun _ => 0) W
  have hM1 : MB (w.alloc (.cells #[.int .u8 0, .int .u8 0, .int .u8 0, .int .u8 0, .int .u8 0, .int .u8 0, .int .u8 0, .int .u8 0] 22)) g A l := Blk.alloc hM _
  have c0 := c _ hM1 0 (by omega)
  have c1 := c _ hM1 1 (by omega)
  have c2 := c _ hM1 2 (by omega)
  have c3 := c _ hM1 3 (by omega)
  have c4 := c _ hM1 4 (by omega)
  have c5 := c _ hM1 5 (by omega)
  have c6 := c _ hM1 6 (by omega)
  have c7 := c _ hM1 7 (by omega)
  clear c
  by_cases hz : zero8 A = true
  · have hb := bk8_zero (zero8_yes hz)
    rw [hz] at heq
    unfold bk8 at heq
    have HB := hide hb
    clear hb
    go_enter Try.func11, Try.ntmps11
    go_wp2_with fail
    refine bodyPost_ret (results_cell_row rfl _ _ w.heap.size 22 #[.int .u8 0, .int .u8 0, .int .u8 0, .int .u8 0, .int .u8 0, .int .u8 0, .int .u8 0, .int .u8 0] (0, 0) _ rfl (heap_alloc_new w _) Try.underlying22 rfl (by kernel_rfl)) rfl ⟨by rw [HB.out], (Below.refl _ _).alloc (Nat.le_refl _) _⟩
  · have hz : zero8 A = false := by simpa using hz
    rw [hz] at heq
    unfold bk8 at heq
    go_enter Try.func11, Try.ntmps11
    go_wp2_with fail
    refine bodyPost_ret (results_cell_row rfl _ _ w.heap.size 22 (bk8 A) (0, 0) _ rfl (heap_alloc_new w _) Try.underlying22 rfl (by kernel_rfl)) rfl ⟨rfl, (Below.refl _ _).alloc (Nat.le_refl _) _⟩
set_option maxHeartbeats 4000000 in
theorem mmClone_calls (g l : Nat) (A : Nat → Nat) (w : World) (hM : MB w g A l) :
    Calls Try.prog 10 #[.pointer (some ⟨g, 0, none⟩)] w fun e w' => ∃ g', e = .returned (.pointer (some ⟨g', 0, none⟩)) ∧ MB w' g' A l ∧ w.heap.size ≤ g' ∧ Below w.heap.size w w' := by
  have hMd : MB w.drew g A l := hM
  have c0 := MB.get hMd 0 (by omega)
  have c1 := MB.get hMd 1 (by omega)
  have c2 := MB.get hMd 2 (by omega)
  have c3 := MB.get hMd 3 (by omega)
  have c4 := MB.get hMd 4 (by omega)
  have c5 := MB.get hMd 5 (by omega)
  have c6 := MB.get hMd 6 (by omega)
  have c7 := MB.get hMd 7 (by omega)
  have c8 : w.drew.cell? ⟨g, 8, none⟩ = some (.int .u8 (l : Int)) := Blk.cell hMd 8
  have hO := mmOf_calls l A w.drew
  unfold bk8 at hO
  go_enter Try.func10, Try.ntmps10
  go_wp2_with fail
  go_region_law (go_simp; go_at_call 8; refine hO.mono ?_; rintro e w1 ⟨g1, rfl, hM1, hg1, hb1⟩)
  all_goals
    go_wp2_with fail
    go_ret
    exact ⟨g1, rfl, hM1, hg1, (Below.drew (Below.refl w.heap.size w)).trans hb1⟩
theorem mmZero_calls (b : Nat) (w : World) (hb : b < 256) : Calls Try.prog 21 #[.int .u8 (b : Int)] w fun e w' => e = .returned (.int .u16 ((8192 + b : Nat) : Int)) ∧ w = w' := by
  go_enter Try.func21, Try.ntmps21
  go_wp2_with fail
  go_ret
  refine ⟨ret_int ?_, rfl⟩
  rw [show (8192 : Int) = ((8192 : Nat) : Int) from rfl, u16_or_nat _ _ (by omega) (by omega)]
  congr 1
  exact (Nat.two_pow_add_eq_or_of_lt (i := 13) (b := b) (by show b < 2 ^ 13; omega) 1).symm
theorem mmStack_calls (b : Nat) (w : World) (hb : b < 256) : Calls Try.prog 22 #[.int .u8 (b : Int)] w fun e w' => e = .returned (.int .u16 ((8448 + b : Nat) : Int)) ∧ w = w' := by
  go_enter Try.func22, Try.ntmps22
  go_wp2_with fail
  go_ret
  refine ⟨ret_int ?_, rfl⟩
  rw [show (8448 : Int) = ((8448 : Nat) : Int) from rfl, u16_or_nat _ _ (by omega) (by omega)]
  congr 1
  exact (Nat.two_pow_add_eq_or_of_lt (i := 8) (b := b) (by show b < 2 ^ 8; omega) 33).symm
theorem mmPhys_calls (g l a : Nat) (A : Nat → Nat) (w : World) (ha : a < 65536) (hA : ∀ i, i < 8 → A i < 256) (hM : MB w g A l) :
    Calls Try.prog 15 #[.pointer (some ⟨g, 0, none⟩), .int .u16 (a : Int)] w fun e w' => e = .returned (.int .u32 (adr (A (a / 8192)) a : Nat)) ∧ Below w.heap.size w w' := by
  have hq : a / 8192 < 8 := by omega
  have hx : ∀ W, (Instr.index 22 (.agg (bk8 A)) (.int .u16 ((a : Int) / 8192))).run Try.prog W = .ok (.int .u8 (A (a / 8192) : Int)) W := fun W => by
    have h := run_index_row 22 5 8 Try.underlying22 (fun _ => by kernel_rfl) (fun _ => by kernel_rfl) (bk8 A) .u16 (a / 8192) hq (.int .u8 (A (a / 8192) : Int)) (bk8_get A _ hq) W
    rwa [show ((a / 8192 : Nat) : Int) = (a : Int) / 8192 from by omega] at h
  go_enter Try.func15, Try.ntmps15
  (go_wp2_with fail; refine Cl.m (mmBanks_calls g l A _ hM) ?_; intro w1 hb1)
  go_wp2_with fail
  refine Cl.p (phAddr_calls (A (a / 8192)) a _ (hA _ hq) ha) ?_
  go_wp2_with fail
  go_ret
  exact ⟨rfl, by (repeat (first | exact Below.refl _ _ | assumption | refine Below.drew ?_ | refine Bl.alloc ?_ _ | refine below_drewN ?_ _ | refine Bl.chain ?_ (by assumption) (Nat.le_refl _)))⟩
def prt (n : Nat) : Nat := [2088960, 2088962, 2088963].getD n 0
set_option maxHeartbeats 4000000 in
theorem mmPort_calls (n : Int) (w : World) :
    Calls Try.prog 20 #[.int .i64 n] w fun e w' => e = .returned (.tuple #[.int .u32 (if n < 0 ∨ 2 < n then 0 else (prt n.toNat : Int)), .bool (decide (0 ≤ n ∧ n ≤ 2))]) ∧ Below w.heap.size w w' := by
  by_cases h0 : n < 0
  · rw [if_pos (Or.inl h0), decide_eq_false (by omega)]
    go_enter Try.func20, Try.ntmps20
    go_wp2_with fail
    go_ret2
    exact ⟨rfl, by (repeat (first | exact Below.refl _ _ | assumption | refine Below.drew ?_ | refine Bl.alloc ?_ _ | refine below_drewN ?_ _ | refine Bl.chain ?_ (by assumption) (Nat.le_refl _)))⟩
  · have i0 : (decide (n < 0)) = false := by rw [decide_eq_false_iff_not]; exact h0
    by_cases h1 : 2 < n
    · have i1 : (3 : Int) ≤ n := by omega
      rw [if_pos (Or.inr h1), decide_eq_false (by omega)]
      clear h0 h1
      go_enter Try.func20, Try.ntmps20
      go_wp2_with fail
      go_ret2
      exact ⟨rfl, by (repeat (first | exact Below.refl _ _ | assumption | refine Below.drew ?_ | refine Bl.alloc ?_ _ | refine below_drewN ?_ _ | refine Bl.chain ?_ (by assumption) (Nat.le_refl _)))⟩
    · rw [if_neg (by omega), decide_eq_true (by omega)]
      have hn : n = 0 ∨ n = 1 ∨ n = 2 := by omega
      clear i0 h0 h1
      rcases hn with rfl | rfl | rfl
      · go_enter Try.func20, Try.ntmps20
        (go_wp2_with fail; refine Cl.p (phAddr_calls 255 0 _ (by omega) (by omega)) ?_)
        go_wp2_with fail
        go_ret2
        exact ⟨rfl, by (repeat (first | exact Below.refl _ _ | assumption | refine Below.drew ?_ | refine Bl.alloc ?_ _ | refine below_drewN ?_ _ | refine Bl.chain ?_ (by assumption) (Nat.le_refl _)))⟩
      · go_enter Try.func20, Try.ntmps20
        (go_wp2_with fail; refine Cl.p (phAddr_calls 255 2 _ (by omega) (by omega)) ?_)
        go_wp2_with fail
        go_ret2
        exact ⟨rfl, by (repeat (first | exact Below.refl _ _ | assumption | refine Below.drew ?_ | refine Bl.alloc ?_ _ | refine below_drewN ?_ _ | refine Bl.chain ?_ (by assumption) (Nat.le_refl _)))⟩
      · go_enter Try.func20, Try.ntmps20
        (go_wp2_with fail; refine Cl.p (phAddr_calls 255 3 _ (by omega) (by omega)) ?_)
        go_wp2_with fail
        go_ret2
        exact ⟨rfl, by (repeat (first | exact Below.refl _ _ | assumption | refine Below.drew ?_ | refine Bl.alloc ?_ _ | refine below_drewN ?_ _ | refine Bl.chain ?_ (by assumption) (Nat.le_refl _)))⟩
end Go.Proofs.Ytjaibacpojpfhaa
