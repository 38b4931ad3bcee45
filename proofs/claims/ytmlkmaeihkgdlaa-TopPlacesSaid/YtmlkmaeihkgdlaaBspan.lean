/-
  Plain facts: rows of addresses (first, number).
-/
import Derived.Test.YtmlkmaeihkgdlaaBphys
namespace Go.Proofs.Ytmlkmaeihkgdlaa.Pl

abbrev Rws := List (Nat × Nat)
/-- Rows, with one more: one with the last one, where it begins where that ends. -/
def moreL : Rws → Nat → Nat → Rws
  | [], f, n => [(f, n)]
  | [(a, m)], f, n => if a + m = f then [(a, m + n)] else [(a, m), (f, n)]
  | x :: y :: l, f, n => x :: moreL (y :: l) f n
theorem moreL_yes (l : Rws) (a m n : Nat) : moreL (l ++ [(a, m)]) (a + m) n = l ++ [(a, m + n)] := by
  induction l with
  | nil => simp [moreL]
  | cons x l ih =>
    cases l with
    | nil => simp [moreL]
    | cons y l => simpa [moreL] using ih
theorem moreL_no (l : Rws) (a m f n : Nat) (h : a + m ≠ f) : moreL (l ++ [(a, m)]) f n = l ++ [(a, m), (f, n)] := by
  induction l with
  | nil => simp [moreL, h]
  | cons x l ih =>
    cases l with
    | nil => simp [moreL, h]
    | cons y l => simpa [moreL] using ih
def small (M : Nat) (l : Rws) : Prop := ∀ p ∈ l, p.1 + p.2 ≤ M
theorem moreL_small {M : Nat} (l : Rws) (f n : Nat) (h : small M l) (hf : f + n ≤ M) : small M (moreL l f n) := by
  rcases List.eq_nil_or_concat l with rfl | ⟨i, ⟨a, m⟩, rfl⟩
  · intro p hp
    simp [moreL] at hp
    subst hp
    exact hf
  · rw [List.concat_eq_append] at h ⊢
    by_cases e : a + m = f
    · subst e
      rw [moreL_yes]
      intro p hp
      rcases List.mem_append.1 hp with hp | hp
      · exact h p (List.mem_append_left _ hp)
      · simp at hp; subst hp; simp only; omega
    · rw [moreL_no _ _ _ _ _ e]
      intro p hp
      rw [show i ++ [(a, m), (f, n)] = (i ++ [(a, m)]) ++ [(f, n)] from by simp] at hp
      rcases List.mem_append.1 hp with hp | hp
      · exact h p hp
      · simp at hp; subst hp; exact hf
theorem moreL_len (l : Rws) (f n : Nat) : (moreL l f n).length ≤ l.length + 1 := by
  rcases List.eq_nil_or_concat l with rfl | ⟨i, ⟨a, m⟩, rfl⟩
  · simp [moreL]
  · rw [List.concat_eq_append]
    by_cases e : a + m = f
    · subst e; rw [moreL_yes]; simp
    · rw [moreL_no _ _ _ _ _ e]; simp
/-- Rows of the first n banks. -/
def spanL (wh : Nat) : Nat → Rws
  | 0 => []
  | n + 1 => if whr (adr n 0) = wh then moreL (spanL wh n) (adr n 0) 8192 else spanL wh n
def uFrom (i : Nat) : Nat := if i ≤ 6 then (6 - i) * 1024 else 0
def uEnd (i : Nat) : Nat := if i = 0 then 8192 else uFrom (i - 1)
def uWh (i : Nat) : Nat := [2, 8, 7, 6, 5, 4, 3].getD i 0
/-- With those of the last bank: units 6, 5, .. (n of them). -/
def lastL (wh : Nat) (l : Rws) : Nat → Rws
  | 0 => l
  | n + 1 => if uWh (6 - n) = wh then moreL (lastL wh l n) (adr 255 (uFrom (6 - n))) (uEnd (6 - n) - uFrom (6 - n)) else lastL wh l n
def rowsL (wh : Nat) : Rws := lastL wh (spanL wh 255) 7
theorem spanL_small (wh n : Nat) : small 2097152 (spanL wh n) ∧ (spanL wh n).length ≤ n ∨ 255 < n := by
  induction n with
  | zero => exact Or.inl ⟨fun p hp => by simp [spanL] at hp, by simp [spanL]⟩
  | succ n ih =>
    by_cases h : 255 < n + 1
    · exact Or.inr h
    · left
      rcases ih with ⟨ih, ihl⟩ | ih
      · unfold spanL
        split
        · exact ⟨moreL_small _ _ _ ih (by unfold adr; omega), Nat.le_trans (moreL_len _ _ _) (by omega)⟩
        · exact ⟨ih, by omega⟩
      · omega
theorem uEnd_le : ∀ n, n < 7 → adr 255 (uFrom (6 - n)) + (uEnd (6 - n) - uFrom (6 - n)) ≤ 2097152 := by decide
theorem lastL_small (wh : Nat) (l : Rws) (h : small 2097152 l) (n : Nat) : (small 2097152 (lastL wh l n) ∧ (lastL wh l n).length ≤ l.length + n) ∨ 7 < n := by
  induction n with
  | zero => exact Or.inl ⟨h, by simp [lastL]⟩
  | succ n ih =>
    by_cases h7 : 7 < n + 1
    · exact Or.inr h7
    · left
      rcases ih with ⟨ih, ihl⟩ | ih
      · unfold lastL
        split
        · exact ⟨moreL_small _ _ _ ih (uEnd_le n (by omega)), Nat.le_trans (moreL_len _ _ _) (by omega)⟩
        · exact ⟨ih, by omega⟩
      · omega
theorem rowsL_all : rowsL 0 = [(0, 1048576)] ∧ rowsL 1 = [(2031616, 32768)] ∧ rowsL 2 = [(1048576, 983040), (2064384, 24576), (2095104, 2048)] ∧ rowsL 3 = [(2088960, 1024)] ∧ rowsL 4 = [(2089984, 1024)] ∧ rowsL 5 = [(2091008, 1024)] ∧ rowsL 6 = [(2092032, 1024)] ∧ rowsL 7 = [(2093056, 1024)] ∧ rowsL 8 = [(2094080, 1024)] := by decide +kernel
end Go.Proofs.Ytmlkmaeihkgdlaa.Pl
