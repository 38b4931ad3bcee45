/-
  moves, in plain words: the memory behind i bytes; two parts; blocks that do not run into themselves.
-/
import Derived.Test.YticdlgbpbfcmaaaBits
namespace Go.Proofs.Yticdlgbpbfcmaaa

def cnt (l : Nat) : Nat := if l = 0 then 65536 else l
theorem cnt_b (l : Nat) (h : l < 65536) : 1 ≤ cnt l ∧ cnt l ≤ 65536 := by unfold cnt; split <;> omega
def wyF (k f i : Nat) : Nat := match k with | 0 => (f + i) % 65536 | 1 => (f + 65536 - i) % 65536 | 2 => (f + i) % 65536 | 3 => (f + i) % 65536 | _ => (f + i % 2) % 65536
def wyT (k t i : Nat) : Nat := match k with | 0 => (t + i) % 65536 | 1 => (t + 65536 - i) % 65536 | 2 => t | 3 => (t + i % 2) % 65536 | _ => (t + i) % 65536
def updn (A : Nat → Nat) (j v : Nat) : Nat → Nat := fun i => if i = j then v else A i
/-- The memory when i bytes are moved. -/
def mvA (k f t n : Nat) (A : Nat → Nat) : Nat → Nat → Nat
  | 0 => A
  | i + 1 => updn (mvA k f t n A i) (wyT k t i % n) (mvA k f t n A i (wyF k f i % n))
theorem mvA_lt {A : Nat → Nat} {n : Nat} (hn : 0 < n) (hA : ∀ i, i < n → A i < 256) (k f t j : Nat) : ∀ i, i < n → mvA k f t n A j i < 256 := by
  induction j with
  | zero => exact hA
  | succ j ih =>
    intro i hi
    show updn _ _ _ i < 256
    unfold updn
    split
    · exact ih _ (Nat.mod_lt _ hn)
    · exact ih i hi
theorem k5 (k : Nat) (h : k < 5) : k = 0 ∨ k = 1 ∨ k = 2 ∨ k = 3 ∨ k = 4 := by omega
theorem wyF_lt (k f i : Nat) : wyF k f i < 65536 := by
  unfold wyF; split <;> omega
theorem wyT_lt (k t i : Nat) (ht : t < 65536) : wyT k t i < 65536 := by
  unfold wyT; split <;> omega
theorem wyF_two (k f x j : Nat) (hk : k < 5) (hx : x % 2 = 0) (h : x + j < 65536) : wyF k (wyF k f x) j = wyF k f (x + j) := by
  rcases k5 k hk with rfl | rfl | rfl | rfl | rfl <;> simp only [wyF] <;> omega
theorem wyT_two (k t x j : Nat) (hk : k < 5) (hx : x % 2 = 0) (h : x + j < 65536) : wyT k (wyT k t x) j = wyT k t (x + j) := by
  rcases k5 k hk with rfl | rfl | rfl | rfl | rfl <;> simp only [wyT] <;> omega
/-- In two parts. -/
theorem mvA_two (k f t n : Nat) (A : Nat → Nat) (x y : Nat) (hk : k < 5) (hx : x % 2 = 0) (h : x + y ≤ 65536) : mvA k (wyF k f x) (wyT k t x) n (mvA k f t n A x) y = mvA k f t n A (x + y) := by
  induction y with
  | zero => rfl
  | succ y ih =>
    show updn _ _ _ = updn _ _ _
    rw [ih (by omega), wyF_two k f x y hk hx (by omega), wyT_two k t x y hk hx (by omega)]
    rfl
/-- Does the block run into itself? -/
def ahead (d : Bool) (f t n : Nat) : Bool := (!d && decide (f < t) && decide (t < f + n)) || (d && decide (t < f) && decide (f < t + n))
theorem mvA_up (f t n : Nat) (A : Nat → Nat) (hf : f + n ≤ 256) (ht : t + n ≤ 256) (hh : ¬ (f < t ∧ t < f + n)) : ∀ j, j ≤ n → ∀ i, mvA 0 f t 256 A j i = if t ≤ i ∧ i < t + j then A (f + i - t) else A i := by
  intro j
  induction j with
  | zero => intro _ i; rw [if_neg (by omega)]; rfl
  | succ j ih =>
    intro hj i
    have e1 : wyT 0 t j % 256 = t + j := by simp only [wyT]; omega
    have e2 : wyF 0 f j % 256 = f + j := by simp only [wyF]; omega
    show updn _ _ _ i = _
    rw [e1, e2]
    unfold updn
    rw [ih (by omega), ih (by omega)]
    by_cases h : i = t + j
    · subst h
      have h2 : ¬ (t ≤ f + j ∧ f + j < t + j) := by omega
      rw [if_pos rfl, if_neg h2, if_pos (by omega)]
      congr 1
      omega
    · rw [if_neg h]
      by_cases h2 : t ≤ i ∧ i < t + j
      · rw [if_pos h2, if_pos (by omega)]
      · rw [if_neg h2, if_neg (by omega)]
theorem mvA_down (f t n : Nat) (A : Nat → Nat) (hn : 0 < n) (hf : f + n ≤ 256) (ht : t + n ≤ 256) (hh : ¬ (t < f ∧ f < t + n)) : ∀ j, j ≤ n → ∀ i, mvA 1 (f + n - 1) (t + n - 1) 256 A j i = if t + n - j ≤ i ∧ i < t + n then A (f + i - t) else A i := by
  intro j
  induction j with
  | zero => intro _ i; rw [if_neg (by omega)]; rfl
  | succ j ih =>
    intro hj i
    have e1 : wyT 1 (t + n - 1) j % 256 = t + n - 1 - j := by simp only [wyT]; omega
    have e2 : wyF 1 (f + n - 1) j % 256 = f + n - 1 - j := by simp only [wyF]; omega
    show updn _ _ _ i = _
    rw [e1, e2]
    unfold updn
    rw [ih (by omega), ih (by omega)]
    by_cases h : i = t + n - 1 - j
    · subst h
      have h2 : ¬ (t + n - j ≤ f + n - 1 - j ∧ f + n - 1 - j < t + n) := by omega
      rw [if_pos rfl, if_neg h2, if_pos (by omega)]
      congr 1
      omega
    · rw [if_neg h]
      by_cases h2 : t + n - j ≤ i ∧ i < t + n
      · rw [if_pos h2, if_pos (by omega)]
      · rw [if_neg h2, if_neg (by omega)]
/-- What is outside the block stays, whatever runs into what. -/
theorem mvA_far_up (f t n : Nat) (A : Nat → Nat) (ht : t + n ≤ 256) : ∀ j, j ≤ n → ∀ i, ¬ (t ≤ i ∧ i < t + n) → mvA 0 f t 256 A j i = A i := by
  intro j
  induction j with
  | zero => intro _ i _; rfl
  | succ j ih =>
    intro hj i hi
    have e1 : wyT 0 t j % 256 = t + j := by simp only [wyT]; omega
    show updn _ _ _ i = _
    rw [e1]
    unfold updn
    rw [if_neg (by omega), ih (by omega) i hi]
theorem mvA_far_down (f t n : Nat) (A : Nat → Nat) (hn : 0 < n) (ht : t + n ≤ 256) : ∀ j, j ≤ n → ∀ i, ¬ (t ≤ i ∧ i < t + n) → mvA 1 f (t + n - 1) 256 A j i = A i := by
  intro j
  induction j with
  | zero => intro _ i _; rfl
  | succ j ih =>
    intro hj i hi
    have e1 : wyT 1 (t + n - 1) j % 256 = t + n - 1 - j := by simp only [wyT]; omega
    show updn _ _ _ i = _
    rw [e1]
    unfold updn
    rw [if_neg (by omega), ih (by omega) i hi]
end Go.Proofs.Yticdlgbpbfcmaaa
