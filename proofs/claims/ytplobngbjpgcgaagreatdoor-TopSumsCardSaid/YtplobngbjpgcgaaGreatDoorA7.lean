/-
  The texts Tim, Chk06, Bphys of the proof of TopSums, as one file (they are merged by a program).
-/
import Derived.Test.YtplobngbjpgcgaaGreatDoorA6
import Derived.Test.YtplobngbjpgcgaaGreatDoorA1
section
/-
  timer: as far as TopPads goes.
-/
namespace Go.Proofs.YtplobngbjpgcgaaGreatDoor
set_option linter.unusedSimpArgs false
set_option linter.unusedVariables false
set_option maxRecDepth 10000
open Go.RowKit

/-- A timer. -/
def TB (w : World) (t R C : Nat) (on : Bool) (L : Int) : Prop := Blk w t 151 #[.int .u8 (R : Int), .int .u8 (C : Int), .bool on, .int .i64 L]
theorem tmNew_calls (w : World) :
    Calls Tryz.prog 33 #[] w fun e w' => ∃ t, e = .returned (.pointer (some ⟨t, 0, none⟩)) ∧ TB w' t 0 0 false 3072 ∧ w.heap.size ≤ t ∧ Below w.heap.size w w' := by
  go_enter Tryz.func33, Tryz.ntmps33
  go_wp2_with fail
  go_ret
  exact ⟨w.heap.size, rfl, Blk.new _ _ _, Nat.le_refl _, by (repeat (first | exact Below.refl _ _ | assumption | refine Below.drew ?_ | refine Bl.alloc ?_ _ | refine below_drewN ?_ _ | refine Bl.chain ?_ (by assumption) (Nat.le_refl _)))⟩
theorem tmIs_calls (t R C : Nat) (on : Bool) (w : World) (hT : TB w t R C on 3072) :
    Calls Tryz.prog 219 #[.pointer (some ⟨t, 0, none⟩)] w fun e w' => e = .returned (.bool true) ∧ w = w' := by
  have c0 : w.cell? ⟨t, 0, none⟩ = some (.int .u8 (R : Int)) := Blk.cell hT 0
  have c1 : w.cell? ⟨t, 1, none⟩ = some (.int .u8 (C : Int)) := Blk.cell hT 1
  have c2 : w.cell? ⟨t, 2, none⟩ = some (.bool on) := Blk.cell hT 2
  have c3 : w.cell? ⟨t, 3, none⟩ = some (.int .i64 3072) := Blk.cell hT 3
  go_enter Tryz.func219, Tryz.ntmps219
  go_wp2_with fail
  go_ret
  exact ⟨rfl, rfl⟩
end Go.Proofs.YtplobngbjpgcgaaGreatDoor
end
section
/-
  feed.Check and what it calls.
-/
namespace Go.Proofs.YtplobngbjpgcgaaGreatDoor
set_option linter.unusedSimpArgs false
set_option linter.unusedVariables false
set_option maxRecDepth 10000
open Go.RowKit

def ixV (l0 l1 l2 : Nat) : Int := if 10000 < l0 then 0 else if 10000 < l1 then 1 else if 10000 < l2 then 2 else -1
theorem fdLong1_calls (o : Option Addr) (n c : Nat) (w : World) :
    Calls Tryz.prog 139 #[.slice o n c] w fun e w' => e = .returned (.bool (decide ((10000 : Int) < (n : Int)))) ∧ w = w' := by
  go_enter Tryz.func139, Tryz.ntmps139
  go_wp2_with fail
  go_ret
  exact ⟨rfl, rfl⟩
theorem fdIndex_calls (g : Nat) (o0 o1 o2 : Option Addr) (l0 l1 l2 c0 c1 c2 : Nat) (w : World)
    (h0 : w.cell? ⟨g, 0, none⟩ = some (.slice o0 l0 c0)) (h1 : w.cell? ⟨g, 1, none⟩ = some (.slice o1 l1 c1)) (h2 : w.cell? ⟨g, 2, none⟩ = some (.slice o2 l2 c2)) :
    Calls Tryz.prog 175 #[.slice (some ⟨g, 0, none⟩) 3 3, .func (.func 139) #[] #[]] w fun e w' => e = .returned (.int .i64 (ixV l0 l1 l2)) ∧ w = w' := by
  have hr : (10000 < l0 → ixV l0 l1 l2 = 0) ∧ (¬ 10000 < l0 → 10000 < l1 → ixV l0 l1 l2 = 1) ∧ (¬ 10000 < l0 → ¬ 10000 < l1 → 10000 < l2 → ixV l0 l1 l2 = 2) ∧ (¬ 10000 < l0 → ¬ 10000 < l1 → ¬ 10000 < l2 → ixV l0 l1 l2 = -1) := by
    unfold ixV
    refine ⟨fun h => if_pos h, fun h h' => by rw [if_neg h, if_pos h'], fun h h' h'' => by rw [if_neg h, if_neg h', if_pos h''], fun h h' h'' => by rw [if_neg h, if_neg h', if_neg h'']⟩
  have Hr := hide hr
  clear hr
  go_enter Tryz.func175, Tryz.ntmps175
  go_wp2_with fail
  go_loop [5, 8] (fun _ i => ∃ k : Nat, k ≤ 3 ∧ i = .int .i64 (k : Int) ∧ (0 < k → ¬ 10000 < l0) ∧ (1 < k → ¬ 10000 < l1) ∧ (2 < k → ¬ 10000 < l2)) (fun _ i => 3 - (intOf i).toNat)
  case atStart => exact ⟨0, by omega, rfl, by omega, by omega, by omega⟩
  case round =>
    obtain ⟨k, hk, rfl, q0, q1, q2⟩ := hrel
    have Q0 := hide q0
    have Q1 := hide q1
    have Q2 := hide q2
    clear q0 q1 q2
    have hk3 : k = 0 ∨ k = 1 ∨ k = 2 ∨ k = 3 := by omega
    rcases hk3 with rfl | rfl | rfl | rfl
    · by_cases hb : 10000 < l0
      · have hb' : (decide ((10000 : Int) < (l0 : Int))) = true := by rw [decide_eq_true_eq]; omega
        have E := hide (Hr.out.1 hb)
        clear hb
        (go_wp2_with fail; refine Cl.p (fdLong1_calls o0 l0 c0 _) ?_)
        go_wp2_with fail
        go_ret
        exact ⟨ret_int E.out.symm, rfl⟩
      · have hb' : (decide ((10000 : Int) < (l0 : Int))) = false := by rw [decide_eq_false_iff_not]; omega
        (go_wp2_with fail; refine Cl.p (fdLong1_calls o0 l0 c0 _) ?_)
        go_wp2_with fail
        go_round
        case rel => exact ⟨1, by omega, rfl, fun _ => hb, by omega, by omega⟩
        case measure => simp [intOf]
    · have n0 := Q0.out (by omega)
      by_cases hb : 10000 < l1
      · have hb' : (decide ((10000 : Int) < (l1 : Int))) = true := by rw [decide_eq_true_eq]; omega
        have E := hide (Hr.out.2.1 n0 hb)
        clear hb n0
        (go_wp2_with fail; refine Cl.p (fdLong1_calls o1 l1 c1 _) ?_)
        go_wp2_with fail
        go_ret
        exact ⟨ret_int E.out.symm, rfl⟩
      · have hb' : (decide ((10000 : Int) < (l1 : Int))) = false := by rw [decide_eq_false_iff_not]; omega
        (go_wp2_with fail; refine Cl.p (fdLong1_calls o1 l1 c1 _) ?_)
        go_wp2_with fail
        go_round
        case rel => exact ⟨2, by omega, rfl, fun _ => n0, fun _ => hb, by omega⟩
        case measure => simp [intOf]
    · have n0 := Q0.out (by omega)
      have n1 := Q1.out (by omega)
      by_cases hb : 10000 < l2
      · have hb' : (decide ((10000 : Int) < (l2 : Int))) = true := by rw [decide_eq_true_eq]; omega
        have E := hide (Hr.out.2.2.1 n0 n1 hb)
        clear hb n0 n1
        (go_wp2_with fail; refine Cl.p (fdLong1_calls o2 l2 c2 _) ?_)
        go_wp2_with fail
        go_ret
        exact ⟨ret_int E.out.symm, rfl⟩
      · have hb' : (decide ((10000 : Int) < (l2 : Int))) = false := by rw [decide_eq_false_iff_not]; omega
        (go_wp2_with fail; refine Cl.p (fdLong1_calls o2 l2 c2 _) ?_)
        go_wp2_with fail
        go_round
        case rel => exact ⟨3, by omega, rfl, fun _ => n0, fun _ => n1, fun _ => hb⟩
        case measure => simp [intOf]
    · have E := hide (Hr.out.2.2.2 (Q0.out (by omega)) (Q1.out (by omega)) (Q2.out (by omega)))
      go_wp2_with fail
      go_ret
      exact ⟨ret_int E.out.symm, rfl⟩
theorem ixV_nn (l0 l1 l2 : Nat) : (decide ((0 : Int) ≤ ixV l0 l1 l2)) = decide (10000 < l0 ∨ 10000 < l1 ∨ 10000 < l2) := by
  rw [decide_eq_decide]
  unfold ixV
  repeat (first | omega | split)
theorem fdContains_calls (g : Nat) (o0 o1 o2 : Option Addr) (l0 l1 l2 c0 c1 c2 : Nat) (w : World)
    (h0 : w.cell? ⟨g, 0, none⟩ = some (.slice o0 l0 c0)) (h1 : w.cell? ⟨g, 1, none⟩ = some (.slice o1 l1 c1)) (h2 : w.cell? ⟨g, 2, none⟩ = some (.slice o2 l2 c2)) :
    Calls Tryz.prog 138 #[.slice (some ⟨g, 0, none⟩) 3 3, .func (.func 139) #[] #[]] w fun e w' => e = .returned (.bool (decide (10000 < l0 ∨ 10000 < l1 ∨ 10000 < l2))) ∧ w = w' := by
  have hx := ixV_nn l0 l1 l2
  have hc := fun W a b c => fdIndex_calls g o0 o1 o2 l0 l1 l2 c0 c1 c2 W a b c
  generalize ixV l0 l1 l2 = q at *
  generalize decide (10000 < l0 ∨ 10000 < l1 ∨ 10000 < l2) = bb at *
  go_enter Tryz.func138, Tryz.ntmps138
  (go_wp2_with fail; refine Cl.p (hc _ h0 h1 h2) ?_)
  go_wp2_with fail
  go_ret
  first | exact ⟨rfl, rfl⟩ | exact ⟨ret_bool hx, rfl⟩
theorem fdLong_calls (g : Nat) (o0 o1 o2 : Option Addr) (l0 l1 l2 c0 c1 c2 : Nat) (w : World)
    (h0 : w.cell? ⟨g, 0, none⟩ = some (.slice o0 l0 c0)) (h1 : w.cell? ⟨g, 1, none⟩ = some (.slice o1 l1 c1)) (h2 : w.cell? ⟨g, 2, none⟩ = some (.slice o2 l2 c2)) :
    Calls Tryz.prog 79 #[.slice (some ⟨g, 0, none⟩) 3 3] w fun e w' => e = .returned (.bool (decide (10000 < l0 ∨ 10000 < l1 ∨ 10000 < l2))) ∧ w = w' := by
  have hc := fun W a b c => fdContains_calls g o0 o1 o2 l0 l1 l2 c0 c1 c2 W a b c
  generalize decide (10000 < l0 ∨ 10000 < l1 ∨ 10000 < l2) = bb at *
  go_enter Tryz.func79, Tryz.ntmps79
  (go_wp2_with fail; refine Cl.p (hc _ h0 h1 h2) ?_)
  go_wp2_with fail
  go_ret
  exact ⟨rfl, rfl⟩
theorem fdCheck_calls (o0 o1 o2 : Option Addr) (l0 l1 l2 c0 c1 c2 : Nat) (w : World) :
    Calls Tryz.prog 31 #[.agg #[.slice o0 l0 c0, .slice o1 l1 c1, .slice o2 l2 c2]] w fun e w' => e = .returned (.int .i64 (if 10000 < l0 ∨ 10000 < l1 ∨ 10000 < l2 then 2 else 0)) ∧ Below w.heap.size w w' := by
  have hl := fun g W a b c => fdLong_calls g o0 o1 o2 l0 l1 l2 c0 c1 c2 W a b c
  by_cases hb : 10000 < l0 ∨ 10000 < l1 ∨ 10000 < l2
  · rw [if_pos hb]
    rw [decide_eq_true hb] at hl
    clear hb
    go_enter Tryz.func31, Tryz.ntmps31
    go_wp2_with fail
    refine Cl.p (hl (w.heap.size + 1) _ (by simp [go_sem]) (by simp [go_sem]) (by simp [go_sem])) ?_
    go_wp2_with fail
    go_ret
    exact ⟨rfl, by (repeat (first | exact Below.refl _ _ | assumption | refine Below.drew ?_ | refine Bl.alloc ?_ _ | refine below_drewN ?_ _ | refine Bl.chain ?_ (by assumption) (Nat.le_refl _)))⟩
  · rw [if_neg hb]
    rw [decide_eq_false hb] at hl
    clear hb
    go_enter Tryz.func31, Tryz.ntmps31
    go_wp2_with fail
    refine Cl.p (hl (w.heap.size + 1) _ (by simp [go_sem]) (by simp [go_sem]) (by simp [go_sem])) ?_
    go_wp2_with fail
    go_ret
    exact ⟨rfl, by (repeat (first | exact Below.refl _ _ | assumption | refine Below.drew ?_ | refine Bl.alloc ?_ _ | refine below_drewN ?_ _ | refine Bl.chain ?_ (by assumption) (Nat.le_refl _)))⟩
end Go.Proofs.YtplobngbjpgcgaaGreatDoor
end
section
/-
  Plain facts on physical addresses.
-/
namespace Go.Proofs.YtplobngbjpgcgaaGreatDoor.Pl
set_option linter.unusedSimpArgs false
set_option linter.unusedVariables false
set_option maxRecDepth 10000

def bnk (a : Nat) : Nat := a / 8192 % 256
theorem bnk_lt (a : Nat) : bnk a < 256 := Nat.mod_lt _ (by omega)
/-- Where an address is: by its bank, and its place in it. -/
def whO (o : Nat) : Nat := if o < 1024 then 3 else if o < 2048 then 4 else if o < 3072 then 5 else if o < 4096 then 6 else if o < 5120 then 7 else if o < 6144 then 8 else 2
def whB (b o : Nat) : Nat := if b < 128 then 0 else if 248 ≤ b ∧ b ≤ 251 then 1 else if b = 255 then whO o else 2
def whr (a : Nat) : Nat := whB (bnk a) (a % 8192)
/-- The address of a bank's place. -/
def adr (b o : Nat) : Nat := b * 8192 + o % 8192
theorem adr_or (b o : Nat) : (b * 8192) ||| (o % 8192) = adr b o := by
  have h := Nat.two_pow_add_eq_or_of_lt (i := 13) (b := o % 8192) (by show o % 8192 < 2 ^ 13; omega) b
  unfold adr
  rw [show b * 8192 = 2 ^ 13 * b from by omega]
  exact h.symm
theorem and_8191 (o : Nat) : o &&& 8191 = o % 8192 := Nat.and_two_pow_sub_one_eq_mod o 13
theorem bnk_adr (b o : Nat) (hb : b < 256) : bnk (adr b o) = b := by unfold bnk adr; omega
theorem off_adr (b o : Nat) : adr b o % 8192 = o % 8192 := by unfold adr; omega
theorem adr_back (a : Nat) : adr (bnk a) (a % 8192) = a % 2097152 := by unfold adr bnk; omega
end Go.Proofs.YtplobngbjpgcgaaGreatDoor.Pl
end
