/-
  timer: as far as TopPads goes.
-/
import Derived.Test.YtemfdkoipeedeaaPort3
import Derived.Test.YtemfdkoipeedeaaObit
namespace Go.Proofs.Ytemfdkoipeedeaa
set_option linter.unusedSimpArgs false
set_option linter.unusedVariables false
set_option maxRecDepth 10000
open Go.RowKit

theorem and127_all : ∀ b : Nat, b < 256 → bits .and .u8 (b : Int) 127 = ((b % 128 : Nat) : Int) := by decide +kernel
/-- A timer. -/
def TB (w : World) (t R C : Nat) (on : Bool) (L : Int) : Prop := Blk w t 102 #[.int .u8 (R : Int), .int .u8 (C : Int), .bool on, .int .i64 L]
theorem tmNew_calls (w : World) :
    Calls Try.prog 18 #[] w fun e w' => ∃ t, e = .returned (.pointer (some ⟨t, 0, none⟩)) ∧ TB w' t 0 0 false 3072 ∧ w.heap.size ≤ t ∧ Below w.heap.size w w' := by
  go_enter Try.func18, Try.ntmps18
  go_wp2_with fail
  go_ret
  exact ⟨w.heap.size, rfl, Blk.new _ _ _, Nat.le_refl _, by (repeat (first | exact Below.refl _ _ | assumption | refine Below.drew ?_ | refine Bl.alloc ?_ _ | refine below_drewN ?_ _ | refine Bl.chain ?_ (by assumption) (Nat.le_refl _)))⟩
theorem tmIs_calls (t R C : Nat) (on : Bool) (w : World) (hT : TB w t R C on 3072) :
    Calls Try.prog 72 #[.pointer (some ⟨t, 0, none⟩)] w fun e w' => e = .returned (.bool true) ∧ w = w' := by
  have c0 : w.cell? ⟨t, 0, none⟩ = some (.int .u8 (R : Int)) := Blk.cell hT 0
  have c1 : w.cell? ⟨t, 1, none⟩ = some (.int .u8 (C : Int)) := Blk.cell hT 1
  have c2 : w.cell? ⟨t, 2, none⟩ = some (.bool on) := Blk.cell hT 2
  have c3 : w.cell? ⟨t, 3, none⟩ = some (.int .i64 3072) := Blk.cell hT 3
  go_enter Try.func72, Try.ntmps72
  go_wp2_with fail
  go_ret
  exact ⟨rfl, rfl⟩
theorem tmWrite0_calls (t R C b : Nat) (on : Bool) (w : World) (hb : b < 256) (hT : TB w t R C on 3072) :
    Calls Try.prog 58 #[.pointer (some ⟨t, 0, none⟩), .int .i64 0, .int .u8 (b : Int)] w fun e w' => (∃ v, e = .returned v) ∧ TB w' t (b % 128) C on 3072 ∧ Only (fun k => k = t) w w' := by
  have f0 : w.frozen? ⟨t, 0, none⟩ = false := Blk.frozen hT 0
  have c0 : w.cell? ⟨t, 0, none⟩ = some (.int .u8 (R : Int)) := Blk.cell hT 0
  have a0 := and127_all b hb
  go_enter Try.func58, Try.ntmps58
  (go_wp2_with fail; refine Cl.p (tmIs_calls t R C on _ hT) ?_)
  go_wp2_with fail
  go_end0
  exact ⟨⟨_, rfl⟩, Blk.set_ hT 0 (.int .u8 ((b % 128 : Nat) : Int)), Only.setCell (S := fun k => k = t) (Only.refl _ _) ⟨t, 0, none⟩ rfl _⟩
theorem tmWrite1_calls (t R C : Nat) (w : World) (hT : TB w t R C false 3072) :
    Calls Try.prog 58 #[.pointer (some ⟨t, 0, none⟩), .int .i64 1, .int .u8 1] w fun e w' => (∃ v, e = .returned v) ∧ TB w' t R R true 3072 ∧ Only (fun k => k = t) w w' := by
  have f1 : w.frozen? ⟨t, 1, none⟩ = false := Blk.frozen hT 1
  have f2 : w.frozen? ⟨t, 2, none⟩ = false := Blk.frozen hT 2
  have f3 : w.frozen? ⟨t, 3, none⟩ = false := Blk.frozen hT 3
  have c0 : w.cell? ⟨t, 0, none⟩ = some (.int .u8 (R : Int)) := Blk.cell hT 0
  have c1 : w.cell? ⟨t, 1, none⟩ = some (.int .u8 (C : Int)) := Blk.cell hT 1
  have c2 : w.cell? ⟨t, 2, none⟩ = some (.bool false) := Blk.cell hT 2
  have c3 : w.cell? ⟨t, 3, none⟩ = some (.int .i64 3072) := Blk.cell hT 3
  have a0 : bits .and .u8 1 1 = 1 := by decide
  go_enter Try.func58, Try.ntmps58
  (go_wp2_with fail; refine Cl.p (tmIs_calls t R C false _ hT) ?_)
  go_wp2_with fail
  go_end0
  exact ⟨⟨_, rfl⟩, Blk.set_ (Blk.set_ (Blk.set_ hT 1 (.int .u8 (R : Int))) 3 (.int .i64 3072)) 2 (.bool true), Only.setCell (S := fun k => k = t) (Only.setCell (S := fun k => k = t) (Only.setCell (S := fun k => k = t) (Only.refl _ _) ⟨t, 1, none⟩ rfl _) ⟨t, 3, none⟩ rfl _) ⟨t, 2, none⟩ rfl _⟩
theorem tmTicks_calls (t R : Nat) (n L : Int) (w : World) (hR : R < 256) (hn : n = 3 * (R : Int) + 3) (hT : TB w t R R true L) :
    Calls Try.prog 73 #[.pointer (some ⟨t, 0, none⟩), .int .i64 n] w fun e w' => e = .returned (.int .i64 3) ∧ TB w' t R R true L ∧ Only (fun k => k = t) w w' := by
  have c0 : w.cell? ⟨t, 0, none⟩ = some (.int .u8 (R : Int)) := Blk.cell hT 0
  have c1 : w.cell? ⟨t, 1, none⟩ = some (.int .u8 (R : Int)) := Blk.cell hT 1
  have y0 : w.drew.cell? ⟨t, 0, none⟩ = some (.int .u8 (R : Int)) := c0
  have y1 : w.drew.cell? ⟨t, 1, none⟩ = some (.int .u8 (R : Int)) := c1
  have y2 : w.drew.frozen? ⟨t, 1, none⟩ = false := Blk.frozen hT 1
  have i1 : (decide (n ≤ (R : Int))) = false := by rw [decide_eq_false_iff_not]; omega
  have i2 : n - ((R : Int) + 1) = 2 * ((R : Int) + 1) := by omega
  have i3 : (2 * ((R : Int) + 1)).tmod ((R : Int) + 1) = 0 := by
    rw [Int.tmod_eq_emod_of_nonneg (by omega)]
    exact Int.mul_emod_left _ _
  have i4 : (2 * ((R : Int) + 1)).tdiv ((R : Int) + 1) = 2 := Int.mul_tdiv_cancel _ (by omega)
  have i5 : ((R : Int) + 1 == 0) = false := by rw [beq_eq_false_iff_ne]; omega
  have e3 : ((R : Int) - (3 * (R : Int) + 3) % ((R : Int) + 1)) % 256 = (R : Int) := by
    rw [show 3 * (R : Int) + 3 = 3 * ((R : Int) + 1) from by omega, Int.mul_emod_left]
    omega
  have e4 : wrap64 ((3 * (R : Int) + 3 - ((R : Int) + 1)) / ((R : Int) + 1) + 1) = 3 := by
    rw [show 3 * (R : Int) + 3 - ((R : Int) + 1) = 2 * ((R : Int) + 1) from by omega, Int.mul_ediv_cancel _ (by omega)]
    unfold wrap64
    omega
  have E3 := hide e3
  have E4 := hide e4
  clear e4
  clear e3
  go_enter Try.func73, Try.ntmps73
  go_wp2_with fail
  go_region
  all_goals
    go_wp2_with fail
    go_ret
    rw [E3.out]
    refine ⟨?_, Blk.drew (Blk.set_ hT 1 (.int .u8 (R : Int))), (Only.setCell (S := fun k => k = t) (Only.refl _ _) ⟨t, 1, none⟩ rfl _).drew⟩
    show Ending.returned (.int .i64 (wrap64 ((3 * (R : Int) + 3 - ((R : Int) + 1)) / ((R : Int) + 1) + 1))) = _
    rw [E4.out]
theorem tmGo_calls (t R : Nat) (n : Int) (w : World) (hR : R < 256) (hn : n = 9216 * ((R : Int) + 1)) (hT : TB w t R R true 3072) :
    Calls Try.prog 53 #[.pointer (some ⟨t, 0, none⟩), .int .i64 n] w fun e w' => e = .returned (.int .i64 3) ∧ TB w' t R R true 3072 ∧ Only (fun k => k = t) w w' := by
  have c0 : w.cell? ⟨t, 0, none⟩ = some (.int .u8 (R : Int)) := Blk.cell hT 0
  have c2 : w.cell? ⟨t, 2, none⟩ = some (.bool true) := Blk.cell hT 2
  have c3 : w.cell? ⟨t, 3, none⟩ = some (.int .i64 3072) := Blk.cell hT 3
  have f3 : w.frozen? ⟨t, 3, none⟩ = false := Blk.frozen hT 3
  have i1 : (decide (n ≤ 0)) = false := by rw [decide_eq_false_iff_not]; omega
  have i2 : (decide (n < 3072)) = false := by rw [decide_eq_false_iff_not]; omega
  obtain ⟨m, hm⟩ : ∃ m, n - 3072 = m := ⟨_, rfl⟩
  have i3 : m.tmod 3072 = 0 := by rw [Int.tmod_eq_emod_of_nonneg (by omega)]; omega
  have i4 : m.tdiv 3072 = 3 * (R : Int) + 2 := by rw [Int.tdiv_eq_ediv_of_nonneg (by omega)]; omega
  have b1 : 0 ≤ m := by omega
  have b2 : m ≤ 9000000 := by omega
  have Hn := hide hn
  clear hn
  have hT' : TB (w.setCell ⟨t, 3, none⟩ (.int .i64 3072)) t R R true 3072 := Blk.set_ hT 3 (.int .i64 3072)
  have ho' : Only (fun k => k = t) w (w.setCell ⟨t, 3, none⟩ (.int .i64 3072)) := Only.setCell (S := fun k => k = t) (Only.refl _ _) ⟨t, 3, none⟩ rfl _
  go_enter Try.func53, Try.ntmps53
  (go_wp2_with fail; refine Cl.p (tmIs_calls t R R true _ hT) ?_)
  go_wp2_with fail
  have Hn' := Hn.out
  refine (tmTicks_calls t R _ 3072 _ hR ?_ hT').mono ?_
  · omega
  rintro e w3 ⟨rfl, hT3, ho3⟩
  go_wp2_with fail
  go_ret
  exact ⟨rfl, hT3, ho'.trans ho3⟩
end Go.Proofs.Ytemfdkoipeedeaa
