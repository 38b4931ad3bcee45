/-
  Package burst: nil receivers, a step behind the end, no such kind.
-/
import Derived.Test.YticdlgbpbfcmaaaBst2
import Derived.Test.YticdlgbpbfcmaaaBst4
namespace Go.Proofs.Yticdlgbpbfcmaaa
open Go.RowKit

theorem mvAtNoK_calls (k f t : Nat) (w : World) (hk : 5 ≤ k) :
    Calls Try.prog 19 #[.int .u8 (k : Int), .int .u16 (f : Int), .int .u16 (t : Int), .int .i64 0] w fun e w' => e = .returned (.tuple #[.agg #[.int .u16 0, .int .u16 0], .bool false]) ∧ Below w.heap.size w w' := by
  have hk' : (5 : Int) ≤ (k : Int) := by omega
  go_enter Try.func19, Try.ntmps19
  go_wp2_with fail
  refine bodyPost_ret (results_ct rfl rfl (heap_alloc_new w _) Try.underlying48 rfl (by kernel_rfl)) rfl ⟨rfl, (Below.refl _ _).alloc (Nat.le_refl _) _⟩
theorem bsNewNoK_calls (k f t l : Nat) (w : World) (hk : 5 ≤ k) :
    Calls Try.prog 6 #[.int .u8 (k : Int), .int .u16 (f : Int), .int .u16 (t : Int), .int .u16 (l : Int)] w fun e w' => e = .returned (.tuple #[.pointer none, .int .i64 12]) ∧ Below w.heap.size w w' := by
  go_enter Try.func6, Try.ntmps6
  go_wp2_with fail
  refine Cl.m (mvAtNoK_calls k f t _ hk) ?_
  intro w1 hb1
  go_wp2_with fail
  go_ret2
  exact ⟨rfl, by (repeat (first | exact Below.refl _ _ | assumption | refine Below.drew ?_ | refine Bl.alloc ?_ _ | refine below_drewN ?_ _ | refine Bl.chain ?_ (by assumption) (Nat.le_refl _)))⟩
theorem bsStepD_calls (g k f t N ph dt v : Nat) (w : World) (hN : N ≤ 65536) (hB : BB w g k f t N N ph dt) :
    Calls Try.prog 8 #[.pointer (some ⟨g, 0, none⟩), .int .u8 (v : Int)] w fun e w' => (∃ v, e = .returned v) ∧ Below w.heap.size w w' := by
  have hD := bsDone_calls g k f t N N ph dt w hN (Nat.le_refl _) hB
  rw [decide_eq_true rfl] at hD
  go_enter Try.func8, Try.ntmps8
  go_wp2_with fail
  refine Cl.m hD ?_
  intro w1 hb1
  go_wp2_with fail
  refine bodyPost_ret (results_none rfl _ _ _) rfl ?_
  exact ⟨⟨_, rfl⟩, hb1⟩
theorem qStepD_calls (h k f t l a dt v : Nat) (w : World) (hl : l < 65536) (ha : a ≤ 393216) (hd : 6 * cnt l ≤ a) (hV : VB w h k f t l a dt) :
    Calls Try.prog 9 #[.pointer (some ⟨h, 0, none⟩), .int .u8 (v : Int)] w fun e w' => (∃ v, e = .returned v) ∧ Below w.heap.size w w' := by
  have hD := qDone_calls h k f t l a dt w hl ha hV
  rw [decide_eq_true hd] at hD
  clear hd
  go_enter Try.func9, Try.ntmps9
  go_wp2_with fail
  refine Cl.m hD ?_
  intro w1 hb1
  go_wp2_with fail
  refine bodyPost_ret (results_none rfl _ _ _) rfl ?_
  exact ⟨⟨_, rfl⟩, hb1⟩
theorem nilLeft_calls (w : World) : Calls Try.prog 17 #[.pointer none] w fun e w' => e = .returned (.int .i64 0) ∧ w = w' := by
  go_enter Try.func17, Try.ntmps17
  go_wp2_with fail
  go_ret
  exact ⟨rfl, rfl⟩
theorem nilDone_calls (w : World) : Calls Try.prog 11 #[.pointer none] w fun e w' => e = .returned (.bool true) ∧ w = w' := by
  go_enter Try.func11, Try.ntmps11
  (go_wp2_with fail; refine Cl.p (nilLeft_calls _) ?_)
  go_wp2_with fail
  go_ret
  exact ⟨rfl, rfl⟩
theorem nilStep_calls (v : Int) (w : World) : Calls Try.prog 8 #[.pointer none, .int .u8 v] w fun e w' => (∃ v, e = .returned v) ∧ w = w' := by
  go_enter Try.func8, Try.ntmps8
  (go_wp2_with fail; refine Cl.p (nilDone_calls _) ?_)
  go_wp2_with fail
  refine bodyPost_ret (results_none rfl _ _ _) rfl ?_
  exact ⟨⟨_, rfl⟩, rfl⟩
theorem nilNext_calls (w : World) : Calls Try.prog 12 #[.pointer none] w fun e w' => e = .returned (.tuple #[.int .u8 2, .int .u16 0]) ∧ w = w' := by
  go_enter Try.func12, Try.ntmps12
  (go_wp2_with fail; refine Cl.p (nilDone_calls _) ?_)
  go_wp2_with fail
  go_ret2
  exact ⟨rfl, rfl⟩
theorem nilPhase_calls (w : World) : Calls Try.prog 18 #[.pointer none] w fun e w' => e = .returned (.int .i64 0) ∧ w = w' := by
  go_enter Try.func18, Try.ntmps18
  go_wp2_with fail
  go_ret
  exact ⟨rfl, rfl⟩
theorem nilData_calls (w : World) : Calls Try.prog 13 #[.pointer none] w fun e w' => e = .returned (.int .u8 0) ∧ w = w' := by
  go_enter Try.func13, Try.ntmps13
  go_wp2_with fail
  go_ret
  exact ⟨rfl, rfl⟩
theorem nilClone_calls (w : World) : Calls Try.prog 10 #[.pointer none] w fun e w' => e = .returned (.pointer none) ∧ w = w' := by
  go_enter Try.func10, Try.ntmps10
  go_wp2_with fail
  go_ret
  exact ⟨rfl, rfl⟩
end Go.Proofs.Yticdlgbpbfcmaaa
