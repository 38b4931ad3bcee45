/-
  gannetlaw07: LinesGo, LinesStand.
-/
import Derived.Test.YtemfdkoipeedeaaL07b
namespace Go.Proofs.Ytemfdkoipeedeaa
set_option linter.unusedSimpArgs false
set_option linter.unusedVariables false
set_option maxRecDepth 10000
open Go.RowKit

theorem toE_spec {St : Nat → Int} {Ln : Nat → Nat} {Up : Nat → Bool} {t : Int} : ∀ (m s : Nat) (r : Bool), (∀ i, s ≤ i → i < (toE St Ln Up t m s r).1 → St i ≤ t) ∧ ((toE St Ln Up t m s r).1 < s + m → t < St (toE St Ln Up t m s r).1)
  | 0, s, r => ⟨fun i h1 h2 => by have h2 : i < s := h2; omega, fun h => by have h : s < s + 0 := h; omega⟩
  | m + 1, s, r => by
    unfold toE
    by_cases h : St s ≤ t
    · rw [if_pos h]
      have ih := toE_spec (St := St) (Ln := Ln) (Up := Up) (t := t) m (s + 1) (r || rsE Ln Up s)
      refine ⟨fun i h1 h2 => ?_, fun hx => ih.2 (by omega)⟩
      by_cases e : i = s
      · rw [e]; exact h
      · exact ih.1 i (by omega) h2
    · rw [if_neg h]
      exact ⟨fun i h1 h2 => by have h2 : i < s := h2; omega, fun _ => by show t < St s; omega⟩
theorem atE_spec {St : Nat → Int} {Ln : Nat → Nat} {Up : Nat → Bool} {line : Nat} {t : Int} {s : Nat} : ∀ (m i : Nat), i ≤ s → s ≤ i + m → (∀ j, i ≤ j → j < s → St j ≤ t) → (s < i + m → t < St s) → atE St Ln Up line t m i (upE Ln Up line i) = upE Ln Up line s
  | 0, i, h1, h2, _, _ => by
    obtain rfl : i = s := by omega
    rfl
  | m + 1, i, h1, h2, h3, h4 => by
    show (if t < St i then upE Ln Up line i else atE St Ln Up line t m (i + 1) (if Ln i = line then Up i else upE Ln Up line i)) = _
    by_cases e : i = s
    · subst e
      rw [if_pos (h4 (by omega))]
    · have := h3 i (by omega) (by omega)
      rw [if_neg (by omega)]
      exact atE_spec m (i + 1) (by omega) (by omega) (fun j h5 h6 => h3 j (by omega) h6) (fun h5 => h4 (by omega))
/-- s edges are those up to t. -/
def Gone (n : Nat) (St : Nat → Int) (s : Nat) (t : Int) : Prop := (∀ i, i < s → St i ≤ t) ∧ (s < n → t < St s)
theorem Gone.at {n : Nat} {St : Nat → Int} {Ln : Nat → Nat} {Up : Nat → Bool} {line s : Nat} {t : Int} (h : Gone n St s t) (hs : s ≤ n) : atE St Ln Up line t n 0 false = upE Ln Up line s :=
  atE_spec n 0 (by omega) (by omega) (fun j _ h2 => h.1 j h2) (fun h5 => h.2 (by omega))
theorem Gone.to {n : Nat} {St : Nat → Int} {Ln : Nat → Nat} {Up : Nat → Bool} {s : Nat} {t u v : Int} {r : Bool} (h : Gone n St s t) (hs : s ≤ n) (hv : v = if t < u then u else t) : Gone n St (toE St Ln Up u (n - s) s r).1 v := by
  have hsp := toE_spec (St := St) (Ln := Ln) (Up := Up) (t := u) (n - s) s r
  have hle := toE_le (St := St) (Ln := Ln) (Up := Up) (stamp := u) (n - s) s r
  generalize (toE St Ln Up u (n - s) s r).1 = s' at *
  by_cases e : t < u
  · rw [if_pos e] at hv
    subst hv
    refine ⟨fun i hi => ?_, fun hx => hsp.2 (by omega)⟩
    by_cases e2 : i < s
    · have := h.1 i e2; omega
    · exact hsp.1 i (by omega) hi
  · rw [if_neg e] at hv
    subst hv
    have e3 : s' = s := by
      rcases Nat.eq_or_lt_of_le hle.1 with h3 | h3
      · exact h3.symm
      · have h4 := hsp.1 s (Nat.le_refl _) h3
        have h5 := h.2 (by omega)
        omega
    rw [e3]
    exact h
section
open Go.ChangeShapes Go.WideShapes Go.ChangeAt
variable {H : Type} {enc : TypeId × Value → H} {W : World} {base : Nat}
end
end Go.Proofs.Ytemfdkoipeedeaa
