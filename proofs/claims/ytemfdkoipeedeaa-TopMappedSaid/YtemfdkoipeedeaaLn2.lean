/-
  gannetref07.Check.
-/
import Derived.Test.YtemfdkoipeedeaaLn1
namespace Go.Proofs.Ytemfdkoipeedeaa
set_option linter.unusedSimpArgs false
set_option linter.unusedVariables false
set_option maxRecDepth 10000
open Go.RowKit

theorem wrE_8 {St : Nat → Int} {Ln : Nat → Nat} {i : Nat} (h : 4 ≤ Ln i) : wrE St Ln i = 8 := if_pos h
theorem wrE_7 {St : Nat → Int} {Ln : Nat → Nat} {i : Nat} (h : ¬ 4 ≤ Ln i) (hp : 0 < i → 0 ≤ St (i - 1)) (k : St i < 0 ∨ limE < St i ∨ (0 < i ∧ St i < St (i - 1))) : wrE St Ln i = 7 := by
  unfold wrE
  rw [if_neg h]
  refine if_pos ?_
  by_cases e : i = 0
  · rw [if_pos e]; omega
  · rw [if_neg e]; have := hp (by omega); omega
theorem wrE_0 {St : Nat → Int} {Ln : Nat → Nat} {i : Nat} (h : ¬ 4 ≤ Ln i) (k1 : ¬ St i < 0) (k2 : ¬ limE < St i) (k3 : ¬ (0 < i ∧ St i < St (i - 1))) : wrE St Ln i = 0 := by
  unfold wrE
  rw [if_neg h]
  refine if_neg ?_
  by_cases e : i = 0
  · rw [if_pos e]; omega
  · rw [if_neg e]; omega
end Go.Proofs.Ytemfdkoipeedeaa
