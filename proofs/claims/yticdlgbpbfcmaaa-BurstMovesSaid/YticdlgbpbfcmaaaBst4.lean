/-
  gannetref31: Done, Next, Step.
-/
import Derived.Test.YticdlgbpbfcmaaaBst2
namespace Go.Proofs.Yticdlgbpbfcmaaa
open Go.RowKit

def VB (w : World) (h k f t l at_ dt : Nat) : Prop := Blk w h 32 #[.int .u8 (k : Int), .int .u16 (f : Int), .int .u16 (t : Int), .int .u16 (l : Int), .int .i64 (at_ : Int), .int .u8 (dt : Int)]
theorem qDone_calls (h k f t l a dt : Nat) (w : World) (hl : l < 65536) (ha : a ≤ 393216) (hV : VB w h k f t l a dt) :
    Calls Try.prog 23 #[.pointer (some ⟨h, 0, none⟩)] w fun e w' => e = .returned (.bool (decide (6 * cnt l ≤ a))) ∧ Below w.heap.size w w' := by
  have c3 : w.cell? ⟨h, 3, none⟩ = some (.int .u16 (l : Int)) := hV.cell 3
  have c4 : w.cell? ⟨h, 4, none⟩ = some (.int .i64 (a : Int)) := hV.cell 4
  have hb := cnt_b l hl
  have hC := fun W => rCount_calls l W hl
  generalize cnt l = N at *
  by_cases hd : 6 * N ≤ a
  · have hd' : (6 : Int) * (N : Int) ≤ (a : Int) := by omega
    rw [decide_eq_true hd]
    clear hd
    go_enter Try.func23, Try.ntmps23
    go_wp2_with fail
    go_quiet ((go_at_call 22; first | exact quiet_left (hC _) | exact quiet_add_left (hC _)))
    go_wp2_with fail
    go_ret
    exact ⟨ret_bool (by first | rfl | (rw [decide_eq_true_eq]; omega)), by (repeat (first | exact Below.refl _ _ | assumption | refine Below.drew ?_ | refine Bl.alloc ?_ _ | refine below_drewN ?_ _ | refine Bl.chain ?_ (by assumption) (Nat.le_refl _)))⟩
  · have hd' : (decide ((6 : Int) * (N : Int) ≤ (a : Int))) = false := by rw [decide_eq_false_iff_not]; omega
    rw [decide_eq_false hd]
    clear hd
    go_enter Try.func23, Try.ntmps23
    go_wp2_with fail
    go_quiet ((go_at_call 22; first | exact quiet_left (hC _) | exact quiet_add_left (hC _)))
    go_wp2_with fail
    go_ret
    exact ⟨ret_bool (by first | rfl | exact hd'), by (repeat (first | exact Below.refl _ _ | assumption | refine Below.drew ?_ | refine Bl.alloc ?_ _ | refine below_drewN ?_ _ | refine Bl.chain ?_ (by assumption) (Nat.le_refl _)))⟩
theorem qNextD_calls (h k f t l a dt : Nat) (w : World) (hl : l < 65536) (ha : a ≤ 393216) (hd : 6 * cnt l ≤ a) (hV : VB w h k f t l a dt) :
    Calls Try.prog 21 #[.pointer (some ⟨h, 0, none⟩)] w fun e w' => e = .returned (.tuple #[.int .u8 2, .int .u16 0]) ∧ Below w.heap.size w w' := by
  have hD := qDone_calls h k f t l a dt w hl ha hV
  rw [decide_eq_true hd] at hD
  clear hd
  go_enter Try.func21, Try.ntmps21
  go_wp2_with fail
  refine Cl.m hD ?_
  intro w1 hb1
  go_wp2_with fail
  go_ret2
  exact ⟨rfl, by (repeat (first | exact Below.refl _ _ | assumption | refine Below.drew ?_ | refine Bl.alloc ?_ _ | refine below_drewN ?_ _ | refine Bl.chain ?_ (by assumption) (Nat.le_refl _)))⟩
set_option maxHeartbeats 4000000 in
theorem qNext_calls (h k f t l a n ph dt : Nat) (w : World) (hk : k < 5) (hf : f < 65536) (ht : t < 65536) (hl : l < 65536) (ha : a = 6 * n + ph) (hph : ph < 6) (hn : n < cnt l) (hV : VB w h k f t l a dt) :
    Calls Try.prog 21 #[.pointer (some ⟨h, 0, none⟩)] w fun e w' => e = .returned (.tuple #[.int .u8 (accV ph : Nat), .int .u16 (adV k f t n ph : Nat)]) ∧ Below w.heap.size w w' := by
  have hb := cnt_b l hl
  have hD := qDone_calls h k f t l a dt w hl (by omega) hV
  rw [decide_eq_false (by omega)] at hD
  have hn6 : n < 65536 := by omega
  have hA := fun x W hx => rAt_calls k f t n x W hx hk hf ht hn6
  have v1 : (a : Int) / 6 = (n : Int) := by omega
  have v2 : (a : Int) % 6 = (ph : Int) := by omega
  have hp : ph = 0 ∨ ph = 1 ∨ ph = 2 ∨ ph = 3 ∨ ph = 4 ∨ ph = 5 := by omega
  have ha2 : a ≤ 393216 := by omega
  clear ha
  have e0 : accV ph = [2, 3, 2, 2, 4, 2].getD ph 0 := rfl
  rcases hp with rfl | rfl | rfl | rfl | rfl | rfl
  all_goals
    clear e0
    go_enter Try.func21, Try.ntmps21
    go_wp2_with fail
    refine Cl.m hD ?_
    intro w1 hb1
    have hV1 := hV.below hb1 hV.lt
    have c0 : w1.cell? ⟨h, 0, none⟩ = some (.int .u8 (k : Int)) := hV1.cell 0
    have c1 : w1.cell? ⟨h, 1, none⟩ = some (.int .u16 (f : Int)) := hV1.cell 1
    have c2 : w1.cell? ⟨h, 2, none⟩ = some (.int .u16 (t : Int)) := hV1.cell 2
    have c4 : w1.cell? ⟨h, 4, none⟩ = some (.int .i64 (a : Int)) := hV1.cell 4
    go_wp2_with fail
    go_quiet ((go_at_call 28; first | exact quiet_left (hA _ _ rfl) | exact quiet_add_left (hA _ _ rfl) | exact quiet_left (hA _ _ (by omega)) | exact quiet_add_left (hA _ _ (by omega))))
    go_wp2_with fail
    go_ret2
    exact ⟨rfl, by (repeat (first | exact Below.refl _ _ | assumption | refine Below.drew ?_ | refine Bl.alloc ?_ _ | refine below_drewN ?_ _ | refine Bl.chain ?_ (by assumption) (Nat.le_refl _)))⟩
set_option maxHeartbeats 4000000 in
theorem qStep_calls (h k f t l a n ph dt v : Nat) (w : World) (hl : l < 65536) (ha : a = 6 * n + ph) (hph : ph < 6) (hn : n < cnt l) (hV : VB w h k f t l a dt) :
    Calls Try.prog 9 #[.pointer (some ⟨h, 0, none⟩), .int .u8 (v : Int)] w fun e w' => (∃ v, e = .returned v) ∧ VB w' h k f t l (a + 1) (stD ph v dt) ∧ Only (fun j => j = h) w w' := by
  have hb := cnt_b l hl
  have hD := qDone_calls h k f t l a dt w hl (by omega) hV
  rw [decide_eq_false (by omega)] at hD
  have v2 : (a : Int) % 6 = (ph : Int) := by omega
  have hp : ph = 0 ∨ ph = 1 ∨ ph = 2 ∨ ph = 3 ∨ ph = 4 ∨ ph = 5 := by omega
  have ha2 : a ≤ 393216 := by omega
  clear ha
  rcases hp with rfl | rfl | rfl | rfl | rfl | rfl
  all_goals
    go_enter Try.func9, Try.ntmps9
    go_wp2_with fail
    refine Cl.m hD ?_
    intro w1 hb1
    have hV1 := hV.below hb1 hV.lt
    have c4 : w1.cell? ⟨h, 4, none⟩ = some (.int .i64 (a : Int)) := hV1.cell 4
    have c5 : w1.cell? ⟨h, 5, none⟩ = some (.int .u8 (dt : Int)) := hV1.cell 5
    have f4 := hV1.frozen 4
    have f5 := hV1.frozen 5
    have ho1 : Only (fun j => j = h) w w1 := Only.of hb1
    have s1 := fun (o : Nat) (X : Value) => Only.setCell (S := fun j => j = h) ho1 ⟨h, o, none⟩ rfl X
    have s2 := fun (o o2 : Nat) (X Y : Value) => Only.setCell (S := fun j => j = h) (s1 o X) ⟨h, o2, none⟩ rfl Y
    have S1 := hide s1
    have S2 := hide s2
    clear s1 s2
    go_wp2_with fail
    go_end0
    first
      | exact ⟨⟨_, rfl⟩, hV1.set_ 4 (.int .i64 ((a : Int) + 1)), S1.out _ _⟩
      | exact ⟨⟨_, rfl⟩, (hV1.set_ 5 _).set_ 4 (.int .i64 ((a : Int) + 1)), S2.out _ _ _ _⟩
end Go.Proofs.Yticdlgbpbfcmaaa
