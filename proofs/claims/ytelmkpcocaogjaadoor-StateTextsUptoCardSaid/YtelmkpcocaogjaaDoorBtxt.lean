/-
  Plain facts on the text of flags.
-/
import Derived.Test.YtelmkpcocaogjaaDoorBits
namespace Go.Proofs.YtelmkpcocaogjaaDoor.Pl

/-- The flags' letters, the highest one first. -/
def letter (i : Nat) : UInt8 := [78, 86, 84, 66, 68, 73, 90, 67].getD i 0
def txtC (p i : Nat) : UInt8 := if fis p (2 ^ (7 - i)) then letter i else 46
def txtK (p k : Nat) : Nat → UInt8 := fun i => if i < k then txtC p i else letter i
def txt (p : Nat) : List UInt8 := (List.range 8).map (txtC p)
theorem txt_len (p : Nat) : (txt p).length = 8 := by simp [txt]
theorem txt_get (p i : Nat) (hi : i < 8) : (txt p)[i]? = some (txtC p i) := by simp [txt, hi]
theorem letter_ne (i : Nat) (hi : i < 8) : letter i ≠ 46 := by
  match i, hi with
  | 0, _ | 1, _ | 2, _ | 3, _ | 4, _ | 5, _ | 6, _ | 7, _ => decide
theorem txt_inj (p q : Nat) (hp : p < 256) (hq : q < 256) (h : txt p = txt q) : p = q := by
  refine bext hp hq fun k hk => ?_
  have h1 : (txt p)[7 - k]? = (txt q)[7 - k]? := by rw [h]
  rw [txt_get p _ (by omega), txt_get q _ (by omega)] at h1
  injection h1 with h1
  unfold txtC at h1
  rw [show 7 - (7 - k) = k from by omega, fis_tb p k hk, fis_tb q k hk, tb_nat p k (by omega), tb_nat q k (by omega)] at h1
  have hne := letter_ne (7 - k) (by omega)
  revert h1
  cases p.testBit k <;> cases q.testBit k <;> simp_all
  · intro h; exact hne h.symm
/-- Which byte's text it is. -/
def rd (s : List UInt8) : Option Nat := (List.range 256).find? fun p => txt p == s
theorem rd_some (s : List UInt8) (p : Nat) (hp : p < 256) (h : txt p = s) : rd s = some p := by
  unfold rd
  rw [List.find?_eq_some_iff_append]
  refine ⟨by simp [h], (List.range 256).take p, (List.range 256).drop (p + 1), ?_, ?_⟩
  · have hl : p < (List.range 256).length := by simpa using hp
    have e := List.take_append_drop p (List.range 256)
    rw [List.drop_eq_getElem_cons hl] at e
    simpa using e.symm
  · intro q hq
    have hq' : q < p := by
      have := List.mem_take_iff_getElem.1 hq
      obtain ⟨i, hi, e⟩ := this
      simp at e
      omega
    simp only [Bool.not_eq_true', beq_eq_false_iff_ne, ne_eq]
    intro e
    have := txt_inj p q hp (by omega) (by rw [h, e])
    omega
theorem rd_none (s : List UInt8) (h : ∀ p, p < 256 → txt p ≠ s) : rd s = none := by
  unfold rd
  rw [List.find?_eq_none]
  intro p hp
  simpa using h p (by simpa using hp)
theorem rd_len (s : List UInt8) (h : s.length ≠ 8) : rd s = none := rd_none s fun p _ e => h (by rw [← e, txt_len])
theorem rd_at (s : List UInt8) (i : Nat) (c : UInt8) (hi : i < 8) (hc : s[i]? = some c) (h1 : c ≠ letter i) (h2 : c ≠ 46) : rd s = none := rd_none s fun p _ e => by
  rw [← e, txt_get p i hi] at hc
  injection hc with hc
  unfold txtC at hc
  split at hc
  · exact h1 hc.symm
  · exact h2 hc.symm
/-- The bits that the first k letters set. -/
def psumR (s : List UInt8) : Nat → Nat
  | 0 => 0
  | k + 1 => if s[k]? = some (letter k) then psumR s k ||| 2 ^ (7 - k) else psumR s k
theorem psumR_lt (s : List UInt8) (k : Nat) (hk : k ≤ 8) : psumR s k < 256 := by
  induction k with
  | zero => simp [psumR]
  | succ k ih =>
    rw [psumR]
    split
    · exact or_lt (ih (by omega)) (pw_lt _ (by omega))
    · exact ih (by omega)
theorem psumR_bit (s : List UInt8) (k : Nat) (hk : k ≤ 8) (i : Nat) (hi : i < 8) : (psumR s k).testBit (7 - i) = decide (i < k ∧ s[i]? = some (letter i)) := by
  induction k with
  | zero => simp [psumR]
  | succ k ih =>
    have ih := ih (by omega)
    rw [psumR]
    by_cases hs : s[k]? = some (letter k)
    · rw [if_pos hs, Nat.testBit_or, ih, Nat.testBit_two_pow]
      by_cases e : i = k
      · subst e; simp [hs]
      · have e1 : ¬ 7 - k = 7 - i := by omega
        have e2 : (i < k + 1) = (i < k) := by rw [eq_iff_iff]; omega
        simp [e1, e2]
    · rw [if_neg hs, ih]
      by_cases e : i = k
      · subst e; simp [hs]
      · have e2 : (i < k + 1) = (i < k) := by rw [eq_iff_iff]; omega
        simp only [e2]
theorem txt_psumR (s : List UInt8) (hl : s.length = 8) (h : ∀ q, q < 8 → s[q]? = some (letter q) ∨ s[q]? = some 46) : txt (psumR s 8) = s := by
  apply List.ext_getElem?
  intro i
  by_cases hi : i < 8
  · rw [txt_get _ i hi]
    unfold txtC
    rw [fis_tb _ (7 - i) (by omega), tb_nat _ _ (by omega), psumR_bit s 8 (by omega) i hi]
    rcases h i hi with h | h
    · simp [h, hi]
    · have := letter_ne i hi
      have h2 : ¬ s[i]? = some (letter i) := by rw [h]; intro e; injection e with e; exact this e.symm
      rw [if_neg (by simp [h2]), h]
  · rw [List.getElem?_eq_none (by rw [txt_len]; omega), List.getElem?_eq_none (by omega)]
end Go.Proofs.YtelmkpcocaogjaaDoor.Pl
