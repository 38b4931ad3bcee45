/-
  Plain facts on digits of sixteen.
-/
import Derived.Test.YtlojabeeonhceaaDoorBits
namespace Go.Proofs.YtlojabeeonhceaaDoor.Pl
set_option linter.unusedSimpArgs false
set_option linter.unusedVariables false
set_option maxRecDepth 10000

def hexC (d : Nat) : UInt8 := [48, 49, 50, 51, 52, 53, 54, 55, 56, 57, 65, 66, 67, 68, 69, 70].getD d 0
/-- So many digits, the highest one first. -/
def hexT (n : Nat) : Nat → List UInt8
  | 0 => []
  | k + 1 => hexC (n / 16 ^ k % 16) :: hexT n k
theorem hexT_len (n k : Nat) : (hexT n k).length = k := by
  induction k with
  | zero => rfl
  | succ k ih => simp [hexT, ih]
theorem hexT_get (n k j : Nat) (hj : j < k) : (hexT n k)[k - 1 - j]? = some (hexC (n / 16 ^ j % 16)) := by
  induction k with
  | zero => omega
  | succ k ih =>
    rw [hexT]
    by_cases e : j = k
    · subst e
      rw [show j + 1 - 1 - j = 0 from by omega]
      rfl
    · have h := ih (by omega)
      rw [show k + 1 - 1 - j = (k - 1 - j) + 1 from by omega]
      simpa using h
/-- A digit's value. -/
def hv (c : UInt8) : Option Nat := if 48 ≤ c.toNat ∧ c.toNat ≤ 57 then some (c.toNat - 48) else if 65 ≤ c.toNat ∧ c.toNat ≤ 70 then some (c.toNat - 55) else none
theorem hv_lt {c : UInt8} {d : Nat} (h : hv c = some d) : d < 16 := by
  unfold hv at h
  split at h
  · injection h with h; omega
  · split at h
    · injection h with h; omega
    · cases h
theorem hv_hexC_all : ∀ d, d < 16 → hv (hexC d) = some d := by decide
theorem hv_hexC (d : Nat) (h : d < 16) : hv (hexC d) = some d := hv_hexC_all d h
theorem hexC_toNat : ∀ d, d < 16 → (hexC d).toNat = if d < 10 then 48 + d else 55 + d := by decide
theorem hexC_hv {c : UInt8} {d : Nat} (h : hv c = some d) : hexC d = c := by
  have hd := hv_lt h
  have hc : c.toNat = if d < 10 then 48 + d else 55 + d := by
    unfold hv at h
    split at h
    · injection h with h; rw [if_pos (by omega)]; omega
    · split at h
      · injection h with h; rw [if_neg (by omega)]; omega
      · cases h
  apply UInt8.toNat_inj.1
  rw [hc, hexC_toNat d hd]
theorem hexC_inj {d e : Nat} (hd : d < 16) (he : e < 16) (h : hexC d = hexC e) : d = e := by
  have h1 := hv_hexC d hd
  have h2 := hv_hexC e he
  rw [h, h2] at h1
  injection h1 with h1
  exact h1.symm
/-- Digits read on. -/
def hfold : List UInt8 → Nat → Option Nat
  | [], acc => some acc
  | c :: r, acc => match hv c with
    | none => none
    | some d => hfold r (acc * 16 + d)
/-- What a text is as a number, and the error. -/
def fh (s : List UInt8) : Nat × Nat :=
  if s = [] then (0, 4) else if 8 < s.length then (0, 2) else match hfold s 0 with
    | some n => (n, 0)
    | none => (0, 3)
theorem hfold_hexT (n k acc : Nat) : hfold (hexT n k) acc = some (acc * 16 ^ k + n % 16 ^ k) := by
  induction k generalizing acc with
  | zero => simp [hexT, hfold, Nat.mod_one]
  | succ k ih =>
    rw [hexT, hfold, hv_hexC _ (Nat.mod_lt _ (by omega))]
    show hfold (hexT n k) (acc * 16 + n / 16 ^ k % 16) = _
    rw [ih, Nat.mod_pow_succ, Nat.pow_succ, Nat.add_mul]
    congr 1
    rw [Nat.mul_assoc, Nat.mul_comm 16, Nat.mul_comm (n / 16 ^ k % 16)]
    omega
theorem fh_hexT (n k : Nat) (hk : 0 < k) (hk8 : k ≤ 8) (hn : n < 16 ^ k) : fh (hexT n k) = (n, 0) := by
  unfold fh
  have hl := hexT_len n k
  rw [if_neg (by intro e; rw [e] at hl; simp at hl; omega), if_neg (by omega), hfold_hexT, Nat.mod_eq_of_lt hn]
  simp
theorem hfold_lt (s : List UInt8) (acc n : Nat) (h : hfold s acc = some n) : n < (acc + 1) * 16 ^ s.length := by
  induction s generalizing acc with
  | nil => simp [hfold] at h; simp; omega
  | cons c r ih =>
    rw [hfold] at h
    cases hc : hv c with
    | none => rw [hc] at h; cases h
    | some d =>
      rw [hc] at h
      have hd := hv_lt hc
      have := ih _ h
      rw [List.length_cons, Nat.pow_succ]
      have h2 : (acc * 16 + d + 1) * 16 ^ r.length ≤ ((acc + 1) * 16) * 16 ^ r.length := Nat.mul_le_mul_right _ (by omega)
      have h3 : (acc + 1) * 16 * 16 ^ r.length = (acc + 1) * (16 ^ r.length * 16) := by rw [Nat.mul_assoc, Nat.mul_comm 16]
      omega
/-- The first k digits read; k more to come. -/
theorem hfold_take (s : List UInt8) (acc k : Nat) (c : UInt8) (hc : s[k]? = some c) (n : Nat) (h : hfold (s.take k) acc = some n) :
    hfold (s.take (k + 1)) acc = (hv c).map fun d => n * 16 + d := by
  induction k generalizing s acc with
  | zero =>
    cases s with
    | nil => simp at hc
    | cons a r =>
      simp at hc; subst hc
      simp [hfold] at h; subst h
      simp [hfold]
      cases hv a <;> rfl
  | succ k ih =>
    cases s with
    | nil => simp at hc
    | cons a r =>
      simp at hc
      rw [List.take_succ_cons, hfold] at h ⊢
      cases ha : hv a with
      | none => rw [ha] at h; cases h
      | some d =>
        rw [ha] at h
        exact ih r _ hc h
theorem hfold_none (s : List UInt8) (acc k : Nat) (h : hfold (s.take k) acc = none) : hfold s acc = none := by
  induction k generalizing s acc with
  | zero => simp [hfold] at h
  | succ k ih =>
    cases s with
    | nil => simp [hfold] at h
    | cons a r =>
      rw [List.take_succ_cons, hfold] at h
      rw [hfold]
      cases ha : hv a with
      | none => rfl
      | some d =>
        rw [ha] at h
        exact ih r _ h
end Go.Proofs.YtlojabeeonhceaaDoor.Pl
