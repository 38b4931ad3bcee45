/-
  TopEdges, the plain laws.
-/
import Derived.Test.YtgkgjdkbcpnifaaL07c
import Derived.Test.YtgkgjdkbcpnifaaIrq4
namespace Go.Proofs.Ytgkgjdkbcpnifaa
set_option linter.unusedSimpArgs false
set_option linter.unusedVariables false
set_option maxRecDepth 10000
open Go.RowKit

/-- Did the line of NMI rise with one of s edges? -/
def rsA (Ln : Nat → Nat) (Up : Nat → Bool) : Nat → Bool
  | 0 => false
  | s + 1 => rsA Ln Up s || rsE Ln Up s
theorem toE_rsA {St : Nat → Int} {Ln : Nat → Nat} {Up : Nat → Bool} {t : Int} : ∀ (m s : Nat), (toE St Ln Up t m s (rsA Ln Up s)).2 = rsA Ln Up (toE St Ln Up t m s (rsA Ln Up s)).1
  | 0, s => rfl
  | m + 1, s => by
    unfold toE
    split
    · exact toE_rsA m (s + 1)
    · rfl
theorem rsA_yes {Ln : Nat → Nat} {Up : Nat → Bool} {i : Nat} (h : Ln i = 1) : rsA Ln Up (i + 1) = (rsA Ln Up i || (Up i && !upE Ln Up 1 i)) := by
  show (rsA Ln Up i || rsE Ln Up i) = _
  unfold rsE
  rw [decide_eq_true h, Bool.true_and]
theorem rsA_no {Ln : Nat → Nat} {Up : Nat → Bool} {i : Nat} (h : ¬ Ln i = 1) : rsA Ln Up (i + 1) = rsA Ln Up i := by
  show (rsA Ln Up i || rsE Ln Up i) = _
  unfold rsE
  rw [decide_eq_false h, Bool.false_and, Bool.false_and, Bool.or_false]
theorem upE_yes {Ln : Nat → Nat} {Up : Nat → Bool} {i : Nat} (h : Ln i = 1) : upE Ln Up 1 (i + 1) = Up i := if_pos h
theorem upE_no {Ln : Nat → Nat} {Up : Nat → Bool} {i : Nat} (h : ¬ Ln i = 1) : upE Ln Up 1 (i + 1) = upE Ln Up 1 i := if_neg h
theorem edg_sorted {n : Nat} {St : Nat → Int} {Ln : Nat → Nat} (hok : EdgOk n St Ln) : ∀ (d i : Nat), i + d < n → St i ≤ St (i + d)
  | 0, i, _ => Int.le_refl _
  | d + 1, i, h => by
    have h1 := edg_sorted hok d i (by omega)
    have h2 := (hok.2 (i + d + 1) (by omega)).2.2 (by omega)
    rw [show i + d + 1 - 1 = i + d from by omega] at h2
    rw [show i + (d + 1) = i + d + 1 from by omega]
    omega
/-- Those that went by are those up to t. -/
theorem gone_iff {n s : Nat} {St : Nat → Int} {Ln : Nat → Nat} {t : Int} (hok : EdgOk n St Ln) (h : Gone n St s t) (hs : s ≤ n) (k : Nat) (hk : k < n) : St k ≤ t ↔ k < s := by
  constructor
  · intro hle
    rcases Nat.lt_or_ge k s with h1 | h1
    · exact h1
    · have h2 := h.2 (by omega)
      have h3 := edg_sorted hok (k - s) s (by omega)
      rw [show s + (k - s) = k from by omega] at h3
      omega
  · exact h.1 k
theorem gone_zero {n : Nat} {St : Nat → Int} {Ln : Nat → Nat} {Up : Nat → Bool} {t : Int} : Gone n St (toE St Ln Up t n 0 false).1 t ∧ (toE St Ln Up t n 0 false).1 ≤ n ∧ (toE St Ln Up t n 0 false).2 = rsA Ln Up (toE St Ln Up t n 0 false).1 := by
  have hsp := toE_spec (St := St) (Ln := Ln) (Up := Up) (t := t) n 0 false
  have hle := toE_le (St := St) (Ln := Ln) (Up := Up) (stamp := t) n 0 false
  have h3 := toE_rsA (St := St) (Ln := Ln) (Up := Up) (t := t) n 0
  refine ⟨⟨fun i hi => hsp.1 i (Nat.zero_le _) hi, fun h => hsp.2 (by omega)⟩, by omega, h3⟩
/-- What is chosen where no timer asks and nothing is disabled. -/
def chE (r m i j : Bool) : Nat := if r then 1 else if m then 2 else if i then 4 else if j then 5 else 0
theorem ch_edges (r m i j : Bool) : chL (chF r m false i j false 0) (kL 5) = chE r m i j := by
  cases r <;> cases m <;> cases i <;> cases j <;> decide
end Go.Proofs.Ytgkgjdkbcpnifaa
