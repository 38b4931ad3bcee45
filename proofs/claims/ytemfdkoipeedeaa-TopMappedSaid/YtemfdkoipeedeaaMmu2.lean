/-
  Package mmu: Get, Reset, Last, Banks, Of, New, Clone, Phys, Zero, Stack, Port.
-/
import Derived.Test.YtemfdkoipeedeaaMmu
import Derived.Test.YtemfdkoipeedeaaPhys
namespace Go.Proofs.Ytemfdkoipeedeaa
set_option linter.unusedSimpArgs false
set_option linter.unusedVariables false
set_option maxRecDepth 10000
open Go.RowKit Go.Shelf Pl
attribute [local go_sem] Oper.semAt_some

/-- What Get hands back: of the lowest page of the mask. -/
def getK (k : Nat) (A : Nat → Nat) (l : Nat) : Nat := match eL (tbN k) 8 with | [] => l | x :: _ => A x.1
theorem getK_nil {k : Nat} {A : Nat → Nat} {l : Nat} (h : eL (tbN k) 8 = []) : getK k A l = l := by unfold getK; rw [h]
theorem getK_cons {k : Nat} {A : Nat → Nat} {l : Nat} {x : Pg} (h : [x] <+: eL (tbN k) 8) : getK k A l = A x.1 := by
  obtain ⟨t, ht⟩ := h
  unfold getK
  rw [← ht]
  rfl
end Go.Proofs.Ytemfdkoipeedeaa
