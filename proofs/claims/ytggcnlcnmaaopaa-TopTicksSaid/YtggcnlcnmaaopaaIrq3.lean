/-
  irq.Status.
-/
import Derived.Test.YtggcnlcnmaaopaaIrq2
namespace Go.Proofs.Ytggcnlcnmaaopaa
set_option linter.unusedSimpArgs false
set_option linter.unusedVariables false
set_option maxRecDepth 10000
open Go.RowKit Go.Shelf Pl
attribute [local go_sem] Oper.semAt_some

/-- Does this one ask? -/
def lkB (r m u i j : Bool) : Nat → Bool
  | 1 => r
  | 2 => m
  | 3 => u
  | 4 => i
  | 5 => j
  | _ => false
theorem askA_get (r m u i j : Bool) (x : Nat) (h : x ≤ 5) : (askA r m u i j)[x]? = some (.bool (lkB r m u i j x)) := by
  match x, h with
  | 0, _ | 1, _ | 2, _ | 3, _ | 4, _ | 5, _ => rfl
/-- Status behind the kinds of a list. -/
def soS (u i j : Bool) (out x : Nat) : Nat := if x < 3 then out else wth out (5 - (x : Int)) (lkB false false u i j x)
def soL (u i j : Bool) (l : List Kd) : Nat := l.foldl (fun out x => soS u i j out x.1) 0
theorem soL_snoc (u i j : Bool) (l : List Kd) (x : Kd) : soL u i j (l ++ [x]) = soS u i j (soL u i j l) x.1 := by simp [soL]
theorem soS_lt (u i j : Bool) (out x : Nat) (h : out < 256) : soS u i j out x < 256 := by
  unfold soS
  split
  · exact h
  · exact wth_lt h
theorem soL_lt (u i j : Bool) (l : List Kd) : soL u i j l < 256 := by
  suffices H : ∀ (l : List Kd) (o : Nat), o < 256 → l.foldl (fun out x => soS u i j out x.1) o < 256 from H l 0 (by omega)
  intro l
  induction l with
  | nil => exact fun o h => h
  | cons x l ih => exact fun o h => ih _ (soS_lt u i j o x.1 h)
def stB (u i j : Bool) : Nat := 4 * u.toNat + 2 * i.toNat + j.toNat
theorem soL_all (u i j : Bool) : soL u i j (kL 5) = stB u i j := by
  cases u <;> cases i <;> cases j <;> decide
end Go.Proofs.Ytggcnlcnmaaopaa
