/-
  Plain facts: the rows of a kind are all that is of that kind.
-/
import Derived.Test.YtmjgkkjlgkkddaaBspan
namespace Go.Proofs.Ytmjgkkjlgkkddaa.Pl

/-- A row, and the one ahead of it. -/
def okRow (wh : Nat) (l : Rws) (i : Nat) : Bool :=
  match l[i]? with
  | none => true
  | some (f, n) => decide (1 ≤ n) && decide (f < 2097152) && decide (f + n ≤ 2097152) && decide (whr f = wh) && decide (whr (f + n - 1) = wh) && (decide (f = 0) || !decide (whr (f - 1) = wh)) && (decide (f + n = 2097152) || !decide (whr (f + n) = wh))
    && (decide (i = 0) || match l[i - 1]? with | none => true | some (g, m) => decide (g + m < f) && decide (g + m < 4294967296))
theorem rows_none (wh : Nat) (h : 8 < wh) : rowsL wh = [] := by
  have hs : ∀ n, spanL wh n = [] := fun n => by
    induction n with
    | zero => rfl
    | succ n ih =>
      unfold spanL
      rw [if_neg, ih]
      have : whr (adr n 0) ≤ 8 := by
        unfold whr whB
        repeat (first | omega | split)
        unfold whO
        repeat (first | omega | split)
      omega
  unfold rowsL
  rw [hs]
  have hl : ∀ n, n ≤ 7 → lastL wh [] n = [] := fun n => by
    induction n with
    | zero => intro _; rfl
    | succ n ih =>
      intro hn
      unfold lastL
      rw [if_neg, ih (by omega)]
      have : ∀ n, n < 7 → uWh (6 - n) ≤ 8 := by decide
      have := this n (by omega)
      omega
  exact hl 7 (by omega)
theorem rows_len (wh : Nat) : (rowsL wh).length ≤ 3 := by
  rcases Nat.lt_or_ge 8 wh with h | h
  · rw [rows_none wh h]; simp
  · obtain ⟨r0, r1, r2, r3, r4, r5, r6, r7, r8⟩ := rowsL_all
    have hv : wh = 0 ∨ wh = 1 ∨ wh = 2 ∨ wh = 3 ∨ wh = 4 ∨ wh = 5 ∨ wh = 6 ∨ wh = 7 ∨ wh = 8 := by omega
    rcases hv with rfl | rfl | rfl | rfl | rfl | rfl | rfl | rfl | rfl
    all_goals simp only [r0, r1, r2, r3, r4, r5, r6, r7, r8]; decide
theorem rows_ok (wh i : Nat) (hi : i < (rowsL wh).length) : okRow wh (rowsL wh) i = true := by
  have hl := rows_len wh
  rcases Nat.lt_or_ge 8 wh with h | h
  · rw [rows_none wh h] at hi; simp at hi
  · obtain ⟨r0, r1, r2, r3, r4, r5, r6, r7, r8⟩ := rowsL_all
    have hv : wh = 0 ∨ wh = 1 ∨ wh = 2 ∨ wh = 3 ∨ wh = 4 ∨ wh = 5 ∨ wh = 6 ∨ wh = 7 ∨ wh = 8 := by omega
    have hi3 : i = 0 ∨ i = 1 ∨ i = 2 := by omega
    rcases hv with rfl | rfl | rfl | rfl | rfl | rfl | rfl | rfl | rfl
    all_goals
      simp only [r0, r1, r2, r3, r4, r5, r6, r7, r8]
      rcases hi3 with rfl | rfl | rfl <;> decide
/-- Is x in one of the first k rows? -/
def inL (l : Rws) (x : Nat) : Nat → Bool
  | 0 => false
  | k + 1 => inL l x k || match l[k]? with | none => false | some (f, n) => decide (f ≤ x) && decide (x < f + n)
theorem inL_succ (l : Rws) (x k f n : Nat) (h : l[k]? = some (f, n)) : inL l x (k + 1) = (inL l x k || (decide (f ≤ x) && decide (x < f + n))) := by
  rw [inL, h]
theorem whr_mod (a : Nat) : whr a = whB (a % 2097152 / 8192) (a % 2097152 % 8192) := by
  unfold whr bnk
  rw [show a / 8192 % 256 = a % 2097152 / 8192 from by omega, show a % 8192 = a % 2097152 % 8192 from by omega]
theorem whB_0 (x : Nat) (h1 : 0 ≤ x) (h2 : x < 1048576) : whB (x / 8192) (x % 8192) = 0 := by
  unfold whB
  repeat (first | rw [if_pos (by omega)] | rw [if_neg (by omega)])
theorem whB_1 (x : Nat) (h1 : 1048576 ≤ x) (h2 : x < 2031616) : whB (x / 8192) (x % 8192) = 2 := by
  unfold whB
  repeat (first | rw [if_pos (by omega)] | rw [if_neg (by omega)])
theorem whB_2 (x : Nat) (h1 : 2031616 ≤ x) (h2 : x < 2064384) : whB (x / 8192) (x % 8192) = 1 := by
  unfold whB
  repeat (first | rw [if_pos (by omega)] | rw [if_neg (by omega)])
theorem whB_3 (x : Nat) (h1 : 2064384 ≤ x) (h2 : x < 2088960) : whB (x / 8192) (x % 8192) = 2 := by
  unfold whB
  repeat (first | rw [if_pos (by omega)] | rw [if_neg (by omega)])
theorem whB_4 (x : Nat) (h1 : 2088960 ≤ x) (h2 : x < 2089984) : whB (x / 8192) (x % 8192) = 3 := by
  unfold whB
  repeat (first | rw [if_pos (by omega)] | rw [if_neg (by omega)])
  unfold whO
  repeat (first | rw [if_pos (by omega)] | rw [if_neg (by omega)])
theorem whB_5 (x : Nat) (h1 : 2089984 ≤ x) (h2 : x < 2091008) : whB (x / 8192) (x % 8192) = 4 := by
  unfold whB
  repeat (first | rw [if_pos (by omega)] | rw [if_neg (by omega)])
  unfold whO
  repeat (first | rw [if_pos (by omega)] | rw [if_neg (by omega)])
theorem whB_6 (x : Nat) (h1 : 2091008 ≤ x) (h2 : x < 2092032) : whB (x / 8192) (x % 8192) = 5 := by
  unfold whB
  repeat (first | rw [if_pos (by omega)] | rw [if_neg (by omega)])
  unfold whO
  repeat (first | rw [if_pos (by omega)] | rw [if_neg (by omega)])
theorem whB_7 (x : Nat) (h1 : 2092032 ≤ x) (h2 : x < 2093056) : whB (x / 8192) (x % 8192) = 6 := by
  unfold whB
  repeat (first | rw [if_pos (by omega)] | rw [if_neg (by omega)])
  unfold whO
  repeat (first | rw [if_pos (by omega)] | rw [if_neg (by omega)])
theorem whB_8 (x : Nat) (h1 : 2093056 ≤ x) (h2 : x < 2094080) : whB (x / 8192) (x % 8192) = 7 := by
  unfold whB
  repeat (first | rw [if_pos (by omega)] | rw [if_neg (by omega)])
  unfold whO
  repeat (first | rw [if_pos (by omega)] | rw [if_neg (by omega)])
theorem whB_9 (x : Nat) (h1 : 2094080 ≤ x) (h2 : x < 2095104) : whB (x / 8192) (x % 8192) = 8 := by
  unfold whB
  repeat (first | rw [if_pos (by omega)] | rw [if_neg (by omega)])
  unfold whO
  repeat (first | rw [if_pos (by omega)] | rw [if_neg (by omega)])
theorem whB_10 (x : Nat) (h1 : 2095104 ≤ x) (h2 : x < 2097152) : whB (x / 8192) (x % 8192) = 2 := by
  unfold whB
  repeat (first | rw [if_pos (by omega)] | rw [if_neg (by omega)])
  unfold whO
  repeat (first | rw [if_pos (by omega)] | rw [if_neg (by omega)])
theorem whB_iv (x : Nat) (h : x < 2097152) : (0 ≤ x ∧ x < 1048576 ∧ whB (x / 8192) (x % 8192) = 0) ∨ (1048576 ≤ x ∧ x < 2031616 ∧ whB (x / 8192) (x % 8192) = 2) ∨ (2031616 ≤ x ∧ x < 2064384 ∧ whB (x / 8192) (x % 8192) = 1) ∨ (2064384 ≤ x ∧ x < 2088960 ∧ whB (x / 8192) (x % 8192) = 2) ∨ (2088960 ≤ x ∧ x < 2089984 ∧ whB (x / 8192) (x % 8192) = 3) ∨ (2089984 ≤ x ∧ x < 2091008 ∧ whB (x / 8192) (x % 8192) = 4) ∨ (2091008 ≤ x ∧ x < 2092032 ∧ whB (x / 8192) (x % 8192) = 5) ∨ (2092032 ≤ x ∧ x < 2093056 ∧ whB (x / 8192) (x % 8192) = 6) ∨ (2093056 ≤ x ∧ x < 2094080 ∧ whB (x / 8192) (x % 8192) = 7) ∨ (2094080 ≤ x ∧ x < 2095104 ∧ whB (x / 8192) (x % 8192) = 8) ∨ (2095104 ≤ x ∧ x < 2097152 ∧ whB (x / 8192) (x % 8192) = 2) := by
  by_cases c0 : x < 1048576
  · (exact Or.inl ⟨by omega, by omega, whB_0 x (by omega) (by omega)⟩)
  by_cases c1 : x < 2031616
  · (refine Or.inr ?_; exact Or.inl ⟨by omega, by omega, whB_1 x (by omega) (by omega)⟩)
  by_cases c2 : x < 2064384
  · (refine Or.inr ?_; refine Or.inr ?_; exact Or.inl ⟨by omega, by omega, whB_2 x (by omega) (by omega)⟩)
  by_cases c3 : x < 2088960
  · (refine Or.inr ?_; refine Or.inr ?_; refine Or.inr ?_; exact Or.inl ⟨by omega, by omega, whB_3 x (by omega) (by omega)⟩)
  by_cases c4 : x < 2089984
  · (refine Or.inr ?_; refine Or.inr ?_; refine Or.inr ?_; refine Or.inr ?_; exact Or.inl ⟨by omega, by omega, whB_4 x (by omega) (by omega)⟩)
  by_cases c5 : x < 2091008
  · (refine Or.inr ?_; refine Or.inr ?_; refine Or.inr ?_; refine Or.inr ?_; refine Or.inr ?_; exact Or.inl ⟨by omega, by omega, whB_5 x (by omega) (by omega)⟩)
  by_cases c6 : x < 2092032
  · (refine Or.inr ?_; refine Or.inr ?_; refine Or.inr ?_; refine Or.inr ?_; refine Or.inr ?_; refine Or.inr ?_; exact Or.inl ⟨by omega, by omega, whB_6 x (by omega) (by omega)⟩)
  by_cases c7 : x < 2093056
  · (refine Or.inr ?_; refine Or.inr ?_; refine Or.inr ?_; refine Or.inr ?_; refine Or.inr ?_; refine Or.inr ?_; refine Or.inr ?_; exact Or.inl ⟨by omega, by omega, whB_7 x (by omega) (by omega)⟩)
  by_cases c8 : x < 2094080
  · (refine Or.inr ?_; refine Or.inr ?_; refine Or.inr ?_; refine Or.inr ?_; refine Or.inr ?_; refine Or.inr ?_; refine Or.inr ?_; refine Or.inr ?_; exact Or.inl ⟨by omega, by omega, whB_8 x (by omega) (by omega)⟩)
  by_cases c9 : x < 2095104
  · (refine Or.inr ?_; refine Or.inr ?_; refine Or.inr ?_; refine Or.inr ?_; refine Or.inr ?_; refine Or.inr ?_; refine Or.inr ?_; refine Or.inr ?_; refine Or.inr ?_; exact Or.inl ⟨by omega, by omega, whB_9 x (by omega) (by omega)⟩)
  refine Or.inr ?_; refine Or.inr ?_; refine Or.inr ?_; refine Or.inr ?_; refine Or.inr ?_; refine Or.inr ?_; refine Or.inr ?_; refine Or.inr ?_; refine Or.inr ?_; exact Or.inr ⟨by omega, by omega, whB_10 x (by omega) (by omega)⟩
theorem in_all (wh a : Nat) : inL (rowsL wh) (a % 2097152) (rowsL wh).length = decide (whr a = wh) := by
  rw [whr_mod]
  have hx : a % 2097152 < 2097152 := Nat.mod_lt _ (by omega)
  generalize a % 2097152 = x at *
  have hv := whB_iv x hx
  generalize whB (x / 8192) (x % 8192) = v at *
  rcases Nat.lt_or_ge 8 wh with h | h
  · rw [rows_none wh h]
    symm
    apply decide_eq_false
    omega
  · obtain ⟨r0, r1, r2, r3, r4, r5, r6, r7, r8⟩ := rowsL_all
    have hw : wh = 0 ∨ wh = 1 ∨ wh = 2 ∨ wh = 3 ∨ wh = 4 ∨ wh = 5 ∨ wh = 6 ∨ wh = 7 ∨ wh = 8 := by omega
    rcases hw with rfl | rfl | rfl | rfl | rfl | rfl | rfl | rfl | rfl
    all_goals
      simp only [r0, r1, r2, r3, r4, r5, r6, r7, r8]
      simp only [List.length_cons, List.length_nil, inL, List.getElem?_cons_zero, List.getElem?_cons_succ, Bool.false_or]
      rw [Bool.eq_iff_iff]
      simp only [Bool.or_eq_true, Bool.and_eq_true, decide_eq_true_eq]
      omega
end Go.Proofs.Ytmjgkkjlgkkddaa.Pl
