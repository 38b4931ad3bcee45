/-
  Plain facts: flags set, and asked, bit by bit.
-/
import Derived.Test.YtondmoboikdogaaBits
namespace Go.Proofs.Ytondmoboikdogaa.Pl

theorem fset_bits (p m : Nat) (on : Bool) (hm : m < 256) (i : Nat) (hi : i < 8) : (fset p m on).testBit i = if m.testBit i then on else p.testBit i := by
  unfold fset
  cases on
  · simp only [Bool.false_eq_true, if_false]
    rw [Nat.testBit_and, testBit_compl hm hi]
    cases m.testBit i <;> simp
  · simp only [if_true]
    rw [Nat.testBit_or]
    cases m.testBit i <;> simp
def wantK (p m : Nat) (on : Bool) : Nat → Nat
  | 0 => p
  | k + 1 => if tb m (k : Int) then wth (wantK p m on k) (k : Int) on else wantK p m on k
theorem wantK_lt (p m : Nat) (on : Bool) (hp : p < 256) (k : Nat) : wantK p m on k < 256 := by
  induction k with
  | zero => exact hp
  | succ k ih => rw [wantK]; split; exact wth_lt ih; exact ih
theorem wantK_bit (p m : Nat) (on : Bool) (k : Nat) (hk : k ≤ 8) (i : Nat) (hi : i < 8) : (wantK p m on k).testBit i = if i < k ∧ m.testBit i = true then on else p.testBit i := by
  induction k with
  | zero => simp [wantK]
  | succ k ih =>
    have ih := ih (by omega)
    rw [wantK, tb_nat m k (by omega)]
    by_cases hb : m.testBit k = true
    · rw [if_pos hb, wth_bit (by omega) i hi, ih]
      by_cases e : i = k
      · subst e; simp [hb]
      · rw [if_neg e]
        have e2 : (i < k + 1) = (i < k) := by rw [eq_iff_iff]; omega
        simp only [e2]
    · rw [if_neg hb, ih]
      by_cases e : i = k
      · subst e; simp [hb]
      · have e2 : (i < k + 1) = (i < k) := by rw [eq_iff_iff]; omega
        simp only [e2]
theorem wantK_all (p m : Nat) (on : Bool) (hp : p < 256) (hm : m < 256) : wantK p m on 8 = fset p m on :=
  bext (wantK_lt p m on hp 8) (fset_lt hp hm) fun i hi => by
    rw [wantK_bit p m on 8 (by omega) i hi, fset_bits p m on hm i hi]
    simp [hi]
def someK (p m : Nat) : Nat → Bool
  | 0 => false
  | k + 1 => if tb m (k : Int) then someK p m k || tb p (k : Int) else someK p m k
theorem someK_iff (p m : Nat) (k : Nat) (hk : k ≤ 8) : someK p m k = true ↔ ∃ i, i < k ∧ m.testBit i = true ∧ p.testBit i = true := by
  induction k with
  | zero => simp [someK]
  | succ k ih =>
    have ih := ih (by omega)
    rw [someK, tb_nat m k (by omega), tb_nat p k (by omega)]
    constructor
    · intro h
      by_cases hb : m.testBit k = true
      · rw [if_pos hb, Bool.or_eq_true] at h
        rcases h with h | h
        · obtain ⟨i, h1, h2⟩ := ih.1 h
          exact ⟨i, by omega, h2⟩
        · exact ⟨k, by omega, hb, h⟩
      · rw [if_neg hb] at h
        obtain ⟨i, h1, h2⟩ := ih.1 h
        exact ⟨i, by omega, h2⟩
    · rintro ⟨i, h1, h2, h3⟩
      by_cases e : i = k
      · subst e; rw [if_pos h2, h3]; simp
      · have := ih.2 ⟨i, by omega, h2, h3⟩
        rw [this]
        split <;> simp
theorem fis_iff (p m : Nat) (hm : m < 256) : fis p m = true ↔ ∃ i, i < 8 ∧ m.testBit i = true ∧ p.testBit i = true := by
  unfold fis
  constructor
  · intro h
    have hne : p &&& m ≠ 0 := by simpa using h
    obtain ⟨i, hi⟩ := Nat.exists_testBit_of_ne_zero hne
    rw [Nat.testBit_and, Bool.and_eq_true] at hi
    refine ⟨i, ?_, hi.2, hi.1⟩
    rcases Nat.lt_or_ge i 8 with hlt | hge
    · exact hlt
    · have h8 : (2 : Nat) ^ 8 ≤ 2 ^ i := Nat.pow_le_pow_right (by omega) hge
      have h2 := hi.2
      rw [Nat.testBit_lt_two_pow (show m < 2 ^ i by omega)] at h2
      cases h2
  · rintro ⟨i, _, h2, h3⟩
    have : (p &&& m).testBit i = true := by rw [Nat.testBit_and, h2, h3]; rfl
    simp only [bne_iff_ne, ne_eq]
    intro e
    rw [e] at this
    simp at this
theorem someK_all (p m : Nat) (hm : m < 256) : someK p m 8 = fis p m := by
  rw [Bool.eq_iff_iff, someK_iff p m 8 (by omega), fis_iff p m hm]
theorem back_eq (p : Nat) (on : Bool) (hp : p < 256) : fset (fset (fset p 32 false) 16 on) 16 false = fset (fset p 32 false) 16 false :=
  bext (fset_lt (fset_lt (fset_lt hp (by omega)) (by omega)) (by omega)) (fset_lt (fset_lt hp (by omega)) (by omega)) fun i hi => by
    rw [show (16 : Nat) = 2 ^ 4 from rfl, fset_bit _ 4 _ (by omega) i hi, fset_bit _ 4 _ (by omega) i hi, fset_bit _ 4 _ (by omega) i hi]
    split <;> rfl
end Go.Proofs.Ytondmoboikdogaa.Pl
