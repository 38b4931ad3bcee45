/-
  irq: Goes, Name, nil receivers; the reference: Write, Status, Choose.
-/
import Derived.Test.YtichdknfakmjlaaIrq4
import Derived.Test.YtichdknfakmjlaaRof
namespace Go.Proofs.Ytichdknfakmjlaa
open Go.RowKit Pl

theorem nilWrite_calls (reg : Int) (b : Nat) (w : World) : Calls Try.prog 19 #[.pointer none, .int .i64 reg, .int .u8 (b : Int)] w fun e w' => (∃ v, e = .returned v) ∧ w = w' := by
  go_enter Try.func19, Try.ntmps19
  go_wp2_with fail
  refine bodyPost_ret (results_none rfl _ _ _) rfl ?_
  exact ⟨⟨_, rfl⟩, rfl⟩
theorem nilOver_calls (w : World) : Calls Try.prog 18 #[.pointer none] w fun e w' => (∃ v, e = .returned v) ∧ w = w' := by
  go_enter Try.func18, Try.ntmps18
  go_wp2_with fail
  go_end0
  exact ⟨⟨_, rfl⟩, rfl⟩
theorem nilClone_calls (w : World) : Calls Try.prog 9 #[.pointer none] w fun e w' => e = .returned (.pointer none) ∧ w = w' := by
  go_enter Try.func9, Try.ntmps9
  go_wp2_with fail
  go_ret
  exact ⟨rfl, rfl⟩
def goesN (k : Nat) : Nat := if 1 ≤ k ∧ k ≤ 5 then 65534 - 2 * (k - 1) else 0
theorem iqGoes_calls (k : Nat) (w : World) : Calls Try.prog 16 #[.int .u8 (k : Int)] w fun e w' => e = .returned (.tuple #[.int .u16 (goesN k : Nat), .bool (decide (1 ≤ k ∧ k ≤ 5))]) ∧ w = w' := by
  by_cases h1 : k < 1
  · have e1 : goesN k = 0 := if_neg (by omega)
    have e2 : (decide (1 ≤ k ∧ k ≤ 5)) = false := by rw [decide_eq_false_iff_not]; omega
    have i1 : (k : Int) < 1 := by omega
    rw [e1, e2]
    clear e1 e2 h1
    go_enter Try.func16, Try.ntmps16
    go_wp2_with fail
    go_ret2
    exact ⟨rfl, rfl⟩
  · have i1 : (decide ((k : Int) < 1)) = false := by rw [decide_eq_false_iff_not]; omega
    by_cases h2 : 5 < k
    · have e1 : goesN k = 0 := if_neg (by omega)
      have e2 : (decide (1 ≤ k ∧ k ≤ 5)) = false := by rw [decide_eq_false_iff_not]; omega
      have i2 : (5 : Int) < (k : Int) := by omega
      rw [e1, e2]
      clear e1 e2 h1 h2
      go_enter Try.func16, Try.ntmps16
      go_wp2_with fail
      go_ret2
      exact ⟨rfl, rfl⟩
    · have e1 : ((goesN k : Nat) : Int) = 65534 - 2 * ((k : Int) - 1) := by
        have : goesN k = 65534 - 2 * (k - 1) := if_pos (by omega)
        omega
      have e2 : (decide (1 ≤ k ∧ k ≤ 5)) = true := by rw [decide_eq_true_iff]; omega
      have i2 : (decide ((5 : Int) < (k : Int))) = false := by rw [decide_eq_false_iff_not]; omega
      have i3 : (k : Int) ≤ 5 := by omega
      have i4 : (1 : Int) ≤ (k : Int) := by omega
      rw [e2]
      have E1 := hide e1
      clear e1 e2 h1 h2
      go_enter Try.func16, Try.ntmps16
      go_wp2_with fail
      go_ret2
      exact ⟨by rw [E1.out]; rfl, rfl⟩
def nameA (k : Nat) : ByteArray := match k with
  | 1 => { data := #[114, 101, 115, 101, 116] }
  | 2 => { data := #[110, 109, 105] }
  | 3 => { data := #[116, 105, 109, 101, 114] }
  | 4 => { data := #[105, 114, 113, 49] }
  | 5 => { data := #[105, 114, 113, 50] }
  | _ => { data := #[] }
theorem iqName_calls (k : Nat) (w : World) (hk : k < 256) : Calls Try.prog 17 #[.int .u8 (k : Int)] w fun e w' => e = .returned (.string (nameA k)) ∧ Below w.heap.size w w' := by
  by_cases h : 6 ≤ k
  · have e1 : nameA k = { data := #[] } := by
      match k, h with
      | n + 6, _ => rfl
    have i1 : (6 : Int) ≤ (k : Int) := by omega
    have i2 : (k : Int) < 256 := by omega
    have i3 : wrap64 (k : Int) = (k : Int) := by unfold wrap64; omega
    rw [e1]
    clear e1 h
    go_enter Try.func17, Try.ntmps17
    go_wp2_with fail
    go_ret
    exact ⟨rfl, by (repeat (first | exact Below.refl _ _ | assumption | refine Below.drew ?_ | refine Bl.alloc ?_ _ | refine below_drewN ?_ _ | refine Bl.chain ?_ (by assumption) (Nat.le_refl _)))⟩
  · obtain rfl | rfl | rfl | rfl | rfl | rfl : k = 0 ∨ k = 1 ∨ k = 2 ∨ k = 3 ∨ k = 4 ∨ k = 5 := by omega
    all_goals
      clear h
      go_enter Try.func17, Try.ntmps17
      go_wp2_with fail
      go_ret
      exact ⟨rfl, by (repeat (first | exact Below.refl _ _ | assumption | refine Below.drew ?_ | refine Bl.alloc ?_ _ | refine below_drewN ?_ _ | refine Bl.chain ?_ (by assumption) (Nat.le_refl _)))⟩
/-- A controller of the reference. -/
def RI (w : World) (g d : Nat) (u : Bool) : Prop := Blk w g 28 #[.int .u8 (d : Int), .bool u]
theorem rfWrite_calls (g d b : Nat) (u : Bool) (reg : Int) (w : World) (hb : b < 256) (hI : RI w g d u) : Calls Try.prog 20 #[.pointer (some ⟨g, 0, none⟩), .int .i64 reg, .int .u8 (b : Int)] w fun e w' => (∃ v, e = .returned v) ∧ RI w' g (wrD reg b d) (wrU reg u) ∧ Only (fun j => j = g) w w' := by
  have c0 : w.cell? ⟨g, 0, none⟩ = some (.int .u8 (d : Int)) := Blk.cell hI 0
  have f0 : w.frozen? ⟨g, 0, none⟩ = false := Blk.frozen hI 0
  have c1 : w.cell? ⟨g, 1, none⟩ = some (.bool u) := Blk.cell hI 1
  have f1 : w.frozen? ⟨g, 1, none⟩ = false := Blk.frozen hI 1
  by_cases h2 : reg = 2
  · have e1 : wrD reg b d = b % 8 := if_pos h2
    have e2 : wrU reg u = u := if_neg (by omega)
    have ha : (b : Int) % 8 = ((b % 8 : Nat) : Int) := by omega
    have ha2 : (b : Int).tmod 8 = ((b % 8 : Nat) : Int) := by rw [Int.tmod_eq_emod_of_nonneg (by omega)]; omega
    rw [e1, e2]
    clear e1 e2
    subst h2
    generalize b % 8 = m at *
    go_enter Try.func20, Try.ntmps20
    go_wp2_with fail
    go_end0
    exact ⟨⟨_, rfl⟩, Blk.set_ hI 0 _, Only.setCell (S := fun j => j = g) (Only.refl _ _) ⟨g, 0, none⟩ rfl _⟩
  · have i2 : (reg == 2) = false := by rw [beq_eq_false_iff_ne]; exact h2
    by_cases h3 : reg = 3
    · have e1 : wrD reg b d = d := if_neg h2
      have e2 : wrU reg u = false := if_pos h3
      rw [e1, e2]
      clear e1 e2 h2
      subst h3
      go_enter Try.func20, Try.ntmps20
      go_wp2_with fail
      go_end0
      exact ⟨⟨_, rfl⟩, Blk.set_ hI 1 _, Only.setCell (S := fun j => j = g) (Only.refl _ _) ⟨g, 1, none⟩ rfl _⟩
    · have i3 : (reg == 3) = false := by rw [beq_eq_false_iff_ne]; exact h3
      have e1 : wrD reg b d = d := if_neg h2
      have e2 : wrU reg u = u := if_neg h3
      rw [e1, e2]
      clear e1 e2 h2 h3
      go_enter Try.func20, Try.ntmps20
      go_wp2_with fail
      go_end0
      exact ⟨⟨_, rfl⟩, hI, Only.refl _ _⟩
theorem rfStatus_calls (g d : Nat) (u i j : Bool) (w : World) (hI : RI w g d u) : Calls Try.prog 23 #[.pointer (some ⟨g, 0, none⟩), .bool i, .bool j] w fun e w' => e = .returned (.int .u8 (stB u i j : Nat)) ∧ Below w.heap.size w w' := by
  have c1 : w.cell? ⟨g, 1, none⟩ = some (.bool u) := Blk.cell hI 1
  have hO := refOf_calls (fun n => match n with | 0 => j | 1 => i | 2 => u | _ => false) w
  have e : ofB (fun n => match n with | 0 => j | 1 => i | 2 => u | _ => false) = stB u i j := by cases u <;> cases i <;> cases j <;> decide
  rw [e] at hO
  have E := hide e
  clear e
  go_enter Try.func23, Try.ntmps23
  (go_wp2_with fail; refine Cl.m hO ?_; intro w1 hb1)
  go_wp2_with fail
  go_ret
  exact ⟨rfl, hb1⟩
/-- What the reference chooses; a, b, c: the three are let in. -/
def rfV (r m u i j k a b c : Bool) : Nat := if r then 1 else if m then 2 else if !k && u && a then 3 else if !k && i && b then 4 else if !k && j && c then 5 else 0
set_option maxHeartbeats 4000000 in
theorem rfChoose_calls (g d : Nat) (u r m i j k a b c : Bool) (w : World) (ha : ((d : Int) / 4 == 0) = a) (hb : ((d : Int) / 2 % 2 == 0) = b) (hc : ((d : Int) % 2 == 0) = c) (hd : d < 8) (hI : RI w g d u) :
    Calls Try.prog 22 #[.pointer (some ⟨g, 0, none⟩), .agg #[.bool r, .bool m, .bool i, .bool j], .bool k] w fun e w' => e = .returned (.int .u8 (rfV r m u i j k a b c : Nat)) ∧ Below w.heap.size w w' := by
  have c0 : (w.alloc (.cells #[.bool r, .bool m, .bool i, .bool j] 32)).cell? ⟨g, 0, none⟩ = some (.int .u8 (d : Int)) := (Blk.alloc hI _).cell 0
  have c1 : (w.alloc (.cells #[.bool r, .bool m, .bool i, .bool j] 32)).cell? ⟨g, 1, none⟩ = some (.bool u) := (Blk.alloc hI _).cell 1
  have ha2 : ((d : Int).tdiv 4 == 0) = a := by rw [Int.tdiv_eq_ediv_of_nonneg (by omega)]; exact ha
  have hb2 : (((d : Int).tdiv 2).tmod 2 == 0) = b := by rw [Int.tdiv_eq_ediv_of_nonneg (by omega), Int.tmod_eq_emod_of_nonneg (by omega)]; exact hb
  have hc2 : ((d : Int).tmod 2 == 0) = c := by rw [Int.tmod_eq_emod_of_nonneg (by omega)]; exact hc
  cases r with
  | true =>
    go_enter Try.func22, Try.ntmps22
    go_wp2_with fail
    go_ret
    exact ⟨by rfl, by (repeat (first | exact Below.refl _ _ | assumption | refine Below.drew ?_ | refine Bl.alloc ?_ _ | refine below_drewN ?_ _ | refine Bl.chain ?_ (by assumption) (Nat.le_refl _)))⟩
  | false =>
    cases m with
    | true =>
      go_enter Try.func22, Try.ntmps22
      go_wp2_with fail
      go_ret
      exact ⟨by rfl, by (repeat (first | exact Below.refl _ _ | assumption | refine Below.drew ?_ | refine Bl.alloc ?_ _ | refine below_drewN ?_ _ | refine Bl.chain ?_ (by assumption) (Nat.le_refl _)))⟩
    | false =>
      cases k with
      | true =>
        go_enter Try.func22, Try.ntmps22
        go_wp2_with fail
        go_ret
        exact ⟨by rfl, by (repeat (first | exact Below.refl _ _ | assumption | refine Below.drew ?_ | refine Bl.alloc ?_ _ | refine below_drewN ?_ _ | refine Bl.chain ?_ (by assumption) (Nat.le_refl _)))⟩
      | false =>
        cases u with
        | false =>
          cases i with
          | false =>
            cases j with
            | false =>
              go_enter Try.func22, Try.ntmps22
              go_wp2_with fail
              go_ret
              exact ⟨by rfl, by (repeat (first | exact Below.refl _ _ | assumption | refine Below.drew ?_ | refine Bl.alloc ?_ _ | refine below_drewN ?_ _ | refine Bl.chain ?_ (by assumption) (Nat.le_refl _)))⟩
            | true =>
              cases c with
              | true =>
                go_enter Try.func22, Try.ntmps22
                go_wp2_with fail
                go_ret
                exact ⟨by rfl, by (repeat (first | exact Below.refl _ _ | assumption | refine Below.drew ?_ | refine Bl.alloc ?_ _ | refine below_drewN ?_ _ | refine Bl.chain ?_ (by assumption) (Nat.le_refl _)))⟩
              | false =>
                go_enter Try.func22, Try.ntmps22
                go_wp2_with fail
                go_ret
                exact ⟨by rfl, by (repeat (first | exact Below.refl _ _ | assumption | refine Below.drew ?_ | refine Bl.alloc ?_ _ | refine below_drewN ?_ _ | refine Bl.chain ?_ (by assumption) (Nat.le_refl _)))⟩
          | true =>
            cases b with
            | true =>
              go_enter Try.func22, Try.ntmps22
              go_wp2_with fail
              go_ret
              exact ⟨by rfl, by (repeat (first | exact Below.refl _ _ | assumption | refine Below.drew ?_ | refine Bl.alloc ?_ _ | refine below_drewN ?_ _ | refine Bl.chain ?_ (by assumption) (Nat.le_refl _)))⟩
            | false =>
              cases j with
              | false =>
                go_enter Try.func22, Try.ntmps22
                go_wp2_with fail
                go_ret
                exact ⟨by rfl, by (repeat (first | exact Below.refl _ _ | assumption | refine Below.drew ?_ | refine Bl.alloc ?_ _ | refine below_drewN ?_ _ | refine Bl.chain ?_ (by assumption) (Nat.le_refl _)))⟩
              | true =>
                cases c with
                | true =>
                  go_enter Try.func22, Try.ntmps22
                  go_wp2_with fail
                  go_ret
                  exact ⟨by rfl, by (repeat (first | exact Below.refl _ _ | assumption | refine Below.drew ?_ | refine Bl.alloc ?_ _ | refine below_drewN ?_ _ | refine Bl.chain ?_ (by assumption) (Nat.le_refl _)))⟩
                | false =>
                  go_enter Try.func22, Try.ntmps22
                  go_wp2_with fail
                  go_ret
                  exact ⟨by rfl, by (repeat (first | exact Below.refl _ _ | assumption | refine Below.drew ?_ | refine Bl.alloc ?_ _ | refine below_drewN ?_ _ | refine Bl.chain ?_ (by assumption) (Nat.le_refl _)))⟩
        | true =>
          cases a with
          | true =>
            go_enter Try.func22, Try.ntmps22
            go_wp2_with fail
            go_ret
            exact ⟨by rfl, by (repeat (first | exact Below.refl _ _ | assumption | refine Below.drew ?_ | refine Bl.alloc ?_ _ | refine below_drewN ?_ _ | refine Bl.chain ?_ (by assumption) (Nat.le_refl _)))⟩
          | false =>
            cases i with
            | false =>
              cases j with
              | false =>
                go_enter Try.func22, Try.ntmps22
                go_wp2_with fail
                go_ret
                exact ⟨by rfl, by (repeat (first | exact Below.refl _ _ | assumption | refine Below.drew ?_ | refine Bl.alloc ?_ _ | refine below_drewN ?_ _ | refine Bl.chain ?_ (by assumption) (Nat.le_refl _)))⟩
              | true =>
                cases c with
                | true =>
                  go_enter Try.func22, Try.ntmps22
                  go_wp2_with fail
                  go_ret
                  exact ⟨by rfl, by (repeat (first | exact Below.refl _ _ | assumption | refine Below.drew ?_ | refine Bl.alloc ?_ _ | refine below_drewN ?_ _ | refine Bl.chain ?_ (by assumption) (Nat.le_refl _)))⟩
                | false =>
                  go_enter Try.func22, Try.ntmps22
                  go_wp2_with fail
                  go_ret
                  exact ⟨by rfl, by (repeat (first | exact Below.refl _ _ | assumption | refine Below.drew ?_ | refine Bl.alloc ?_ _ | refine below_drewN ?_ _ | refine Bl.chain ?_ (by assumption) (Nat.le_refl _)))⟩
            | true =>
              cases b with
              | true =>
                go_enter Try.func22, Try.ntmps22
                go_wp2_with fail
                go_ret
                exact ⟨by rfl, by (repeat (first | exact Below.refl _ _ | assumption | refine Below.drew ?_ | refine Bl.alloc ?_ _ | refine below_drewN ?_ _ | refine Bl.chain ?_ (by assumption) (Nat.le_refl _)))⟩
              | false =>
                cases j with
                | false =>
                  go_enter Try.func22, Try.ntmps22
                  go_wp2_with fail
                  go_ret
                  exact ⟨by rfl, by (repeat (first | exact Below.refl _ _ | assumption | refine Below.drew ?_ | refine Bl.alloc ?_ _ | refine below_drewN ?_ _ | refine Bl.chain ?_ (by assumption) (Nat.le_refl _)))⟩
                | true =>
                  cases c with
                  | true =>
                    go_enter Try.func22, Try.ntmps22
                    go_wp2_with fail
                    go_ret
                    exact ⟨by rfl, by (repeat (first | exact Below.refl _ _ | assumption | refine Below.drew ?_ | refine Bl.alloc ?_ _ | refine below_drewN ?_ _ | refine Bl.chain ?_ (by assumption) (Nat.le_refl _)))⟩
                  | false =>
                    go_enter Try.func22, Try.ntmps22
                    go_wp2_with fail
                    go_ret
                    exact ⟨by rfl, by (repeat (first | exact Below.refl _ _ | assumption | refine Below.drew ?_ | refine Bl.alloc ?_ _ | refine below_drewN ?_ _ | refine Bl.chain ?_ (by assumption) (Nat.le_refl _)))⟩
theorem choose_same (r m u i j k : Bool) (d : Nat) (hd : d < 8) : rfV r m u i j k ((d : Int) / 4 == 0) ((d : Int) / 2 % 2 == 0) ((d : Int) % 2 == 0) = chL (chF r m u i j k d) (kL 5) := by
  have H : ∀ r m u i j k : Bool, ∀ d : Nat, d < 8 → rfV r m u i j k ((d : Int) / 4 == 0) ((d : Int) / 2 % 2 == 0) ((d : Int) % 2 == 0) = chL (chF r m u i j k d) (kL 5) := by decide +kernel
  exact H r m u i j k d hd
end Go.Proofs.Ytichdknfakmjlaa
