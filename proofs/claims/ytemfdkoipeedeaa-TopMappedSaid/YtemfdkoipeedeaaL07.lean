/-
  gannetlaw07: live, LinesAt, LinesCheck.
-/
import Derived.Test.YtemfdkoipeedeaaLn5
import Derived.Deep.RegionHeld3
namespace Go.Proofs.Ytemfdkoipeedeaa
set_option linter.unusedSimpArgs false
set_option linter.unusedVariables false
set_option maxRecDepth 10000
open Go.RowKit

def livS (i : Nat) : Int := if i = 0 then 5 else 9
def livL (i : Nat) : Nat := if i = 2 then 1 else 2
def livU (i : Nat) : Bool := decide (i ≠ 1)
theorem liv_chk : chkV livS livL 3 = (0, 0) := by decide
theorem liv_ok : EdgOk 3 livS livL := by
  refine ⟨by omega, fun i hi => ?_⟩
  match i, hi with
  | 0, _ | 1, _ | 2, _ => decide
theorem liv_to5 : toE livS livL livU 5 (3 - 0) 0 false = (1, false) := by decide
theorem liv_to9 : toE livS livL livU 9 (3 - 1) 1 false = (3, true) := by decide
theorem liv_up : upK livL livU 2 1 = true := by decide
theorem liv_at4 : atE livS livL livU 2 4 3 0 false = false := by decide
theorem liv_at5 : atE livS livL livU 2 5 3 0 false = true := by decide
theorem liv_bad : chkV (fun _ => 0) (fun _ => 4) 1 = (8, 0) := by decide
theorem nilTo_calls (t : Int) (w : World) : Calls Try.prog 55 #[.pointer none, .int .i64 t] w fun e w' => (∃ v, e = .returned v) ∧ ∃ q, w' = w.drewN q := by
  go_enter Try.func55, Try.ntmps55
  go_wp2_with fail
  go_loopw [4, 5] (fun _ _ wr => wr = w) (fun _ _ wr => 0)
  case atStart => rfl
  case round =>
    subst hrel
    go_wp2_with fail
    refine (nilNext_calls _).mono ?_
    rintro e w1 ⟨rfl, nq, rfl⟩
    go_wp2_with fail
    (try simp only [Exit.inBlock, Exit.then])
    refine bodyPost_ret (results_none rfl _ _ _) rfl ?_
    exact ⟨⟨_, rfl⟩, _, rfl⟩
theorem chkE_nil {St : Nat → Int} {Ln : Nat → Nat} : ∀ m i, (chkE St Ln m i).1 = 0 → chkE St Ln m i = (0, 0)
  | 0, _, _ => rfl
  | m + 1, i, h => by
    unfold chkE at h ⊢
    by_cases e : wrE St Ln i ≠ 0
    · rw [if_pos e] at h; exact absurd h e
    · rw [if_neg e] at h ⊢; exact chkE_nil m (i + 1) h
theorem chkV_nil {St : Nat → Int} {Ln : Nat → Nat} {n : Nat} (h : (chkV St Ln n).1 = 0) : chkV St Ln n = (0, 0) ∧ n ≤ 1000 := by
  unfold chkV at h ⊢
  by_cases e : 1000 < n
  · rw [if_pos e] at h; exact absurd h (by decide)
  · rw [if_neg e] at h ⊢; exact ⟨chkE_nil n 0 h, by omega⟩
theorem chkV_ok {St : Nat → Int} {Ln : Nat → Nat} {n : Nat} (h : chkV St Ln n = (0, 0)) : EdgOk n St Ln := by
  have h1 : (chkV St Ln n).1 = 0 := by rw [h]
  have hn := (chkV_nil h1).2
  unfold chkV at h
  rw [if_neg (by omega)] at h
  have hz := chkE_zero (St := St) (Ln := Ln) n 0 (by rw [h])
  refine ⟨hn, fun i hi => ?_⟩
  have all : ∀ j, j < n → Ln j < 4 ∧ (if j = 0 then 0 else St (j - 1)) ≤ St j := fun j hj => by
    have hw := hz j (by omega) (by omega)
    unfold wrE at hw
    by_cases e1 : 4 ≤ Ln j
    · rw [if_pos e1] at hw; exact absurd hw (by decide)
    · rw [if_neg e1] at hw
      by_cases e2 : St j < (if j = 0 then 0 else St (j - 1)) ∨ limE < St j
      · rw [if_pos e2] at hw; exact absurd hw (by decide)
      · exact ⟨by omega, by omega⟩
  have pos : ∀ j, j < n → 0 ≤ St j := by
    intro j
    induction j with
    | zero => intro hj; have := (all 0 hj).2; rw [if_pos rfl] at this; exact this
    | succ j ih => intro hj; have := (all (j + 1) hj).2; rw [if_neg (by omega), Nat.add_sub_cancel] at this; have := ih (by omega); omega
  exact ⟨(all i hi).1, pos i hi, fun h0 => by have := (all i hi).2; rw [if_neg (by omega)] at this; exact this⟩
theorem fld_flt (a b : Value) (W : World) : (Instr.field 30 (.agg #[a, b]) 0).run Try.prog W = .ok a W := by kernel_rfl
/-- What stays in live's last statement. -/
def LK (w0 : World) (g bl : Nat) (o : Option Addr) (c : Nat) (w : World) : Prop := LB w g o 3 c 3 livL livU false ∧ EdgB w (some ⟨bl, 0, none⟩) 3 livS livL livU w0.heap.size ∧ Below w0.heap.size w0 w
end Go.Proofs.Ytemfdkoipeedeaa
