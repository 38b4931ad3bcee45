/-
  Package opcode: near, far, behind, cycles, Of.
-/
import Derived.Test.YtodimiffmmkndaaDoorOpc2
namespace Go.Proofs.YtodimiffmmkndaaDoor
set_option linter.unusedSimpArgs false
set_option linter.unusedVariables false
set_option maxRecDepth 10000
open Go.RowKit Go.Shelf Pl
def neaS (s : ByteArray) : Int := if s.size = 4 then 7 else if chgS s = true then 6 else 4
theorem neaS_calls (s : ByteArray) (w : World) (hs : s.size ≤ 4) : Calls Tryd.prog 38 #[.string s] w fun e w' => e = .returned (.int .i64 (neaS s)) ∧ w = w' := by
  have hc := fun W => chgS_calls s W
  unfold neaS
  by_cases h4 : s.size = 4
  · rw [if_pos h4]
    have i4 : ((s.size : Int) == 4) = true := by rw [beq_iff_eq]; omega
    clear hc h4 hs
    go_enter Tryd.func38, Tryd.ntmps38
    go_wp2_with fail
    go_ret
    exact ⟨rfl, rfl⟩
  · rw [if_neg h4]
    have i4 : ((s.size : Int) == 4) = false := by rw [beq_eq_false_iff_ne]; omega
    generalize chgS s = c at *
    clear h4 hs
    cases c
    all_goals
      go_enter Tryd.func38, Tryd.ntmps38
      go_wp2_with fail
      refine Cl.p (hc _) ?_
      go_wp2_with fail
      go_ret
      exact ⟨rfl, rfl⟩
def farS (s : ByteArray) : Int := if chgS s = true then 7 else if (s.toList == [74, 83, 82]) = true then 7 else if (s.toList == [74, 77, 80]) = true then 4 else 5
theorem farS_calls (s : ByteArray) (w : World) : Calls Tryd.prog 39 #[.string s] w fun e w' => e = .returned (.int .i64 (farS s)) ∧ w = w' := by
  have hc := fun W => chgS_calls s W
  unfold farS
  generalize chgS s = c at *
  cases h1 : (s.toList == [74, 83, 82]) <;> cases h2 : (s.toList == [74, 77, 80]) <;> cases c
  all_goals
    go_enter Tryd.func39, Tryd.ntmps39
    go_wp2_with fail
    refine Cl.p (hc _) ?_
    go_wp2_with fail
    go_ret
    exact ⟨rfl, rfl⟩
def behM (m : Nat) : Int := [0, 1, 1, 1, 1, 2, 2, 2, 1, 1, 1, 1, 2, 2, 2, 3, 3, 2, 2, 6].getD m 1
theorem behM_calls (m : Nat) (w : World) (hm : m < 20) : Calls Tryd.prog 16 #[.int .u8 (m : Int)] w fun e w' => e = .returned (.int .i64 (behM m)) ∧ w = w' := by
  have h : m = 0 ∨ m = 1 ∨ m = 2 ∨ m = 3 ∨ m = 4 ∨ m = 5 ∨ m = 6 ∨ m = 7 ∨ m = 8 ∨ m = 9 ∨ m = 10 ∨ m = 11 ∨ m = 12 ∨ m = 13 ∨ m = 14 ∨ m = 15 ∨ m = 16 ∨ m = 17 ∨ m = 18 ∨ m = 19 := by omega
  rcases h with rfl | rfl | rfl | rfl | rfl | rfl | rfl | rfl | rfl | rfl | rfl | rfl | rfl | rfl | rfl | rfl | rfl | rfl | rfl | rfl
  all_goals
    go_enter Tryd.func16, Tryd.ntmps16
    go_wp2_with fail
    go_ret
    exact ⟨rfl, rfl⟩
def cycM (s : ByteArray) (m : Nat) : Int := if m = 0 then impS s else if m = 1 then bytS s else if m < 5 then neaS s else if m < 8 then farS s else if m = 11 then braS s else if m = 12 then 6 else if m = 15 ∨ m = 16 then 8 else if m = 19 then 17 else 7
theorem cycM_calls (s : ByteArray) (m : Nat) (w : World) (hs : s.size ≤ 4) (hm : m < 20) : Calls Tryd.prog 17 #[.string s, .int .u8 (m : Int)] w fun e w' => e = .returned (.int .i64 (cycM s m)) ∧ w = w' := by
  have h0 := fun W => impS_calls s W
  have h1 := fun W => bytS_calls s W
  have h2 := fun W => neaS_calls s W hs
  have h3 := fun W => farS_calls s W
  have h4 := fun W => braS_calls s W
  have h : m = 0 ∨ m = 1 ∨ (m = 2 ∨ m = 3 ∨ m = 4) ∨ (m = 5 ∨ m = 6 ∨ m = 7) ∨ m = 11 ∨ m = 8 ∨ m = 9 ∨ m = 10 ∨ m = 12 ∨ m = 13 ∨ m = 14 ∨ m = 15 ∨ m = 16 ∨ m = 17 ∨ m = 18 ∨ m = 19 := by omega
  clear hm
  rcases h with rfl | rfl | (rfl | rfl | rfl) | (rfl | rfl | rfl) | rfl | rfl | rfl | rfl | rfl | rfl | rfl | rfl | rfl | rfl | rfl | rfl
  all_goals
    go_enter Tryd.func17, Tryd.ntmps17
    go_wp2_with fail
    first
      | (go_ret; exact ⟨rfl, rfl⟩)
      | (first | refine Cl.p (h0 _) ?_ | refine Cl.p (h1 _) ?_ | refine Cl.p (h2 _) ?_ | refine Cl.p (h3 _) ?_ | refine Cl.p (h4 _) ?_
         go_wp2_with fail
         go_ret
         exact ⟨rfl, rfl⟩)
end Go.Proofs.YtodimiffmmkndaaDoor
