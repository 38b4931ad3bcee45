/-
  Package irq, but Choose and Status; kinds as an iterator.
-/
import Derived.RangeFuncNested
import Derived.RangeFuncBound
import Derived.RangeFuncCalls
import Derived.RangeFuncLeaves
import Derived.Shelf.Abstract
import Derived.Shelf.RegionOpen
import Derived.WalkKit
import Derived.OwnWalkIn
import Derived.TacticsInMore
import Derived.LoopNIn
import Derived.LoopIn
import Derived.Test.YtemfdkoipeedeaaRnd
import Derived.Test.YtemfdkoipeedeaaOct
import Derived.Test.YtemfdkoipeedeaaOnly
import Derived.Test.YtemfdkoipeedeaaRet
namespace Go.Proofs.Ytemfdkoipeedeaa
set_option linter.unusedSimpArgs false
set_option linter.unusedVariables false
set_option maxRecDepth 10000
open Go.RowKit Go.Shelf Pl
attribute [local go_sem] Oper.semAt_some

theorem blk_own {β : Type} (g : Nat) (t : TypeId) (F : β → Array Value) : Own (fun s W => Blk W g t (F s)) := fun s X Y row hs hg hrow =>
  (hg.block g hs.lt (fun e => by
    obtain ⟨o, ho, hcl⟩ := hrow g e.symm
    rw [show X.heap[g]? = _ from hs] at ho
    cases ho
    cases hcl)).trans hs
/-- A controller. -/
def IB (w : World) (g d : Nat) (u : Bool) : Prop := Blk w g 106 #[.int .u8 (d : Int), .bool u]
theorem iqNew_calls (w : World) : Calls Try.prog 20 #[] w fun e w' => ∃ g, e = .returned (.pointer (some ⟨g, 0, none⟩)) ∧ IB w' g 0 false ∧ w.heap.size ≤ g ∧ Below w.heap.size w w' := by
  go_enter Try.func20, Try.ntmps20
  go_wp2_with fail
  go_ret
  exact ⟨_, rfl, Blk.new _ _ _, Nat.le_refl _, by (repeat (first | exact Below.refl _ _ | assumption | refine Below.drew ?_ | refine Bl.alloc ?_ _ | refine below_drewN ?_ _ | refine Bl.chain ?_ (by assumption) (Nat.le_refl _)))⟩
theorem iqDisable_calls (g d : Nat) (u : Bool) (w : World) (hI : IB w g d u) : Calls Try.prog 79 #[.pointer (some ⟨g, 0, none⟩)] w fun e w' => e = .returned (.int .u8 (d : Int)) ∧ w = w' := by
  have c0 : w.cell? ⟨g, 0, none⟩ = some (.int .u8 (d : Int)) := Blk.cell hI 0
  go_enter Try.func79, Try.ntmps79
  go_wp2_with fail
  go_ret
  exact ⟨rfl, rfl⟩
theorem iqDue_calls (g d : Nat) (u : Bool) (w : World) (hI : IB w g d u) : Calls Try.prog 87 #[.pointer (some ⟨g, 0, none⟩)] w fun e w' => e = .returned (.bool u) ∧ w = w' := by
  have c1 : w.cell? ⟨g, 1, none⟩ = some (.bool u) := Blk.cell hI 1
  go_enter Try.func87, Try.ntmps87
  go_wp2_with fail
  go_ret
  exact ⟨rfl, rfl⟩
theorem iqOver_calls (g d : Nat) (u : Bool) (w : World) (hI : IB w g d u) : Calls Try.prog 54 #[.pointer (some ⟨g, 0, none⟩)] w fun e w' => (∃ v, e = .returned v) ∧ IB w' g d true ∧ Only (fun j => j = g) w w' := by
  have c1 : w.cell? ⟨g, 1, none⟩ = some (.bool u) := Blk.cell hI 1
  have f1 : w.frozen? ⟨g, 1, none⟩ = false := Blk.frozen hI 1
  go_enter Try.func54, Try.ntmps54
  go_wp2_with fail
  go_end0
  exact ⟨⟨_, rfl⟩, Blk.set_ hI 1 _, Only.setCell (S := fun j => j = g) (Only.refl _ _) ⟨g, 1, none⟩ rfl _⟩
/-- What a write to a register leaves. -/
def wrD (reg : Int) (b d : Nat) : Nat := if reg = 2 then b % 8 else d
def wrU (reg : Int) (u : Bool) : Bool := if reg = 3 then false else u
theorem iqWrite_calls (g d b : Nat) (u : Bool) (reg : Int) (w : World) (hb : b < 256) (hI : IB w g d u) : Calls Try.prog 61 #[.pointer (some ⟨g, 0, none⟩), .int .i64 reg, .int .u8 (b : Int)] w fun e w' => (∃ v, e = .returned v) ∧ IB w' g (wrD reg b d) (wrU reg u) ∧ Only (fun j => j = g) w w' := by
  have c0 : w.cell? ⟨g, 0, none⟩ = some (.int .u8 (d : Int)) := Blk.cell hI 0
  have f0 : w.frozen? ⟨g, 0, none⟩ = false := Blk.frozen hI 0
  have c1 : w.cell? ⟨g, 1, none⟩ = some (.bool u) := Blk.cell hI 1
  have f1 : w.frozen? ⟨g, 1, none⟩ = false := Blk.frozen hI 1
  by_cases h2 : reg = 2
  · have e1 : wrD reg b d = b % 8 := if_pos h2
    have e2 : wrU reg u = u := if_neg (by omega)
    have ha : bits .and .u8 (b : Int) 7 = ((b % 8 : Nat) : Int) := by
      rw [show (7 : Int) = ((7 : Nat) : Int) from rfl, u8_and_nat b 7 hb (by omega)]
      congr 1
      exact Nat.and_two_pow_sub_one_eq_mod b 3
    rw [e1, e2]
    clear e1 e2
    subst h2
    generalize b % 8 = m at *
    go_enter Try.func61, Try.ntmps61
    go_wp2_with fail
    go_end0
    exact ⟨⟨_, rfl⟩, Blk.set_ hI 0 _, Only.setCell (S := fun j => j = g) (Only.refl _ _) ⟨g, 0, none⟩ rfl _⟩
  · have i2 : (reg == 2) = false := by rw [beq_eq_false_iff_ne]; exact h2
    by_cases h3 : reg = 3
    · have e1 : wrD reg b d = d := if_neg h2
      have e2 : wrU reg u = false := if_pos h3
      rw [e1, e2]
      clear e1 e2 h2
      subst h3
      go_enter Try.func61, Try.ntmps61
      go_wp2_with fail
      go_end0
      exact ⟨⟨_, rfl⟩, Blk.set_ hI 1 _, Only.setCell (S := fun j => j = g) (Only.refl _ _) ⟨g, 1, none⟩ rfl _⟩
    · have i3 : (reg == 3) = false := by rw [beq_eq_false_iff_ne]; exact h3
      have e1 : wrD reg b d = d := if_neg h2
      have e2 : wrU reg u = u := if_neg h3
      rw [e1, e2]
      clear e1 e2 h2 h3
      go_enter Try.func61, Try.ntmps61
      go_wp2_with fail
      go_end0
      exact ⟨⟨_, rfl⟩, hI, Only.refl _ _⟩
def kBit (k : Nat) : Int := if k < 3 ∨ 5 < k then -1 else 5 - (k : Int)
theorem iqBit_calls (k : Nat) (w : World) : Calls Try.prog 85 #[.int .u8 (k : Int)] w fun e w' => e = .returned (.int .i64 (kBit k)) ∧ w = w' := by
  by_cases h : k < 3
  · have e : kBit k = -1 := if_pos (Or.inl h)
    have i1 : (k : Int) < 3 := by omega
    rw [e]
    clear e h
    go_enter Try.func85, Try.ntmps85
    go_wp2_with fail
    go_ret
    exact ⟨rfl, rfl⟩
  · have i1 : (decide ((k : Int) < 3)) = false := by rw [decide_eq_false_iff_not]; omega
    by_cases h2 : 5 < k
    · have e : kBit k = -1 := if_pos (Or.inr h2)
      have i2 : (5 : Int) < (k : Int) := by omega
      rw [e]
      clear e h h2
      go_enter Try.func85, Try.ntmps85
      go_wp2_with fail
      go_ret
      exact ⟨rfl, rfl⟩
    · have e : kBit k = 5 - (k : Int) := if_neg (by omega)
      have i2 : (decide ((5 : Int) < (k : Int))) = false := by rw [decide_eq_false_iff_not]; omega
      have i3 : (k : Int) ≤ 5 := by omega
      rw [e]
      clear e h h2
      go_enter Try.func85, Try.ntmps85
      go_wp2_with fail
      go_ret
      exact ⟨rfl, rfl⟩
/-- A kind that may ask. -/
abbrev Kd := { x : Nat // 1 ≤ x ∧ x ≤ 5 }
def kL : Nat → List Kd
  | 0 => []
  | j + 1 => kL j ++ (if h : j < 5 then [⟨j + 1, by omega, by omega⟩] else [])
theorem kL_succ (j : Nat) (h : j < 5) : kL (j + 1) = kL j ++ [⟨j + 1, by omega, by omega⟩] := by
  show kL j ++ _ = _
  rw [dif_pos h]
theorem kL_len : ∀ j, (kL j).length ≤ j
  | 0 => Nat.le_refl _
  | j + 1 => by
    have := kL_len j
    unfold kL
    rw [List.length_append]
    split <;> simp <;> omega
theorem kL_pre : ∀ (d j : Nat), kL j <+: kL (j + d)
  | 0, j => List.prefix_refl _
  | d + 1, j => (kL_pre d j).trans (by rw [show j + (d + 1) = (j + d) + 1 from rfl]; exact List.prefix_append _ _)
set_option maxHeartbeats 4000000 in
theorem kinds_stops (n : Nat) (w : World) :
    SeqStopsK Fence.wide n Try.prog 84 #[] (fun x : Kd => #[.int .u8 (x.1 : Int)]) (fun _ _ => True) (fun xs => xs = kL 5) (fun pre => pre <+: kL 5) 5 w := fun lp J Jx W _ _ _ hY h0 => by
  refine callsIn_of_wp Try.func84 rfl trivial ?_ rfl
  simp only [Try.ntmps84, List.size_toArray, List.length_cons, List.length_nil, Nat.reduceAdd, Nat.reduceSub, Array.replicate_succ, Array.replicate_zero, List.push_toArray, List.append_toArray, List.nil_append, List.cons_append, List.append_nil]
  gi_wp2_with fail
  gi_loopw [2] (fun i wr => ∃ j : Nat, j ≤ 5 ∧ i = .int .u8 ((j + 1 : Nat) : Int) ∧ J (kL j) wr) (fun i _ => 6 - (intOf i).toNat)
  case atStart => exact ⟨0, by omega, rfl, h0⟩
  case round =>
    obtain ⟨j, hj, rfl, hJj⟩ := hrel
    obtain ⟨j1, hj1⟩ : ∃ j1, j + 1 = j1 := ⟨_, rfl⟩
    rw [hj1]
    by_cases hjn : j < 5
    · have hjn' : (j1 : Int) ≤ 5 := by omega
      obtain ⟨fn, tmps, assign, body, hy, hR⟩ := hY (kL j) ⟨j + 1, by omega, by omega⟩ wr hJj (by have := kL_len j; omega)
      dsimp only at hy
      rw [hj1] at hy
      gi_wp2_with fail
      refine ⟨fun h => absurd h (by decide), hR.mono ?_⟩
      rintro e w2 (⟨rfl, hJ2, _⟩ | ⟨rfl, hJx2⟩)
      · rw [← kL_succ j hjn] at hJ2
        gi_wp2_with fail
        go_roundw
        case rel => exact ⟨j + 1, by omega, by first | (congr 1; omega) | (rw [← hj1]; go_num), hJ2⟩
        case measure => simp [intOf]; omega
      · rw [← kL_succ j hjn] at hJx2
        gi_wp2_with fail
        refine bodyPost_ret (results_none rfl _ _ _) rfl ?_
        exact ⟨⟨_, rfl⟩, .inr ⟨_, (by have := kL_pre (5 - (j + 1)) (j + 1); rwa [show j + 1 + (5 - (j + 1)) = 5 from by omega] at this), hJx2⟩⟩
    · obtain rfl : j = 5 := by omega
      have hjn' : (decide ((j1 : Int) ≤ 5)) = false := by rw [decide_eq_false_iff_not]; omega
      gi_wp2_with fail
      go_end0
      exact ⟨⟨_, rfl⟩, .inl ⟨_, rfl, hJj⟩⟩
end Go.Proofs.Ytemfdkoipeedeaa
