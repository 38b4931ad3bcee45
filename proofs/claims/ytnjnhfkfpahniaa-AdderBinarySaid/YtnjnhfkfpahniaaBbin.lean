/-
  Plain laws: sums and differences of long binary numbers, byte by byte.
-/
import Derived.Test.YtnjnhfkfpahniaaBdec
namespace Go.Proofs.Ytnjnhfkfpahniaa.Pl

theorem fset64_3 (q : Nat) (o : Bool) : tb (fset q 64 o) 3 = tb q 3 := by
  rw [show (3 : Int) = ((3 : Nat) : Int) from rfl, tb_nat _ 3 (by omega), tb_nat _ 3 (by omega), show fset q 64 o = fset q (2 ^ 6) o from rfl, fset_bit _ 6 _ (by omega) 3 (by omega), if_neg (by omega)]
theorem baddP_3 (a b q : Nat) : tb (baddP a b q) 3 = tb q 3 := by unfold baddP; rw [ofF_3, fset64_3]
theorem baddP_car (a b q : Nat) : car (baddP a b q) = (decide (255 < a + b + car q)).toNat := by unfold baddP; rw [car_ofF]

theorem bin_sum (m n p : Nat) (hp : tb p 3 = false) (i : Nat) :
    tb (lgP false (fun i => m / 256 ^ i % 256) (fun i => n / 256 ^ i % 256) p i) 3 = false ∧
    (m + n + car p) / 256 ^ i = m / 256 ^ i + n / 256 ^ i + car (lgP false (fun i => m / 256 ^ i % 256) (fun i => n / 256 ^ i % 256) p i) := by
  induction i with
  | zero => exact ⟨hp, by simp [lgP]⟩
  | succ i ih =>
    obtain ⟨h3, hs⟩ := ih
    have hP : lgP false (fun i => m / 256 ^ i % 256) (fun i => n / 256 ^ i % 256) p (i + 1) = opP false (m / 256 ^ i % 256) (n / 256 ^ i % 256) (lgP false (fun i => m / 256 ^ i % 256) (fun i => n / 256 ^ i % 256) p i) := rfl
    rw [hP, Nat.pow_succ, ← Nat.div_div_eq_div_mul, ← Nat.div_div_eq_div_mul, ← Nat.div_div_eq_div_mul, hs]
    generalize lgP false (fun i => m / 256 ^ i % 256) (fun i => n / 256 ^ i % 256) p i = q at *
    generalize m / 256 ^ i = x at *
    generalize n / 256 ^ i = y at *
    have hc := car_le q
    have e : opP false (x % 256) (y % 256) q = baddP (x % 256) (y % 256) q := by
      show addP _ _ q = _
      unfold addP
      rw [if_neg (by rw [h3]; simp)]
    rw [e]
    refine ⟨by rw [baddP_3, h3], ?_⟩
    rw [baddP_car]
    by_cases h : 255 < x % 256 + y % 256 + car q
    · rw [decide_eq_true h]; simp only [Bool.toNat_true]; omega
    · rw [decide_eq_false h]; simp only [Bool.toNat_false]; omega
theorem bin_sum_byte (m n p : Nat) (hp : tb p 3 = false) (i : Nat) : lgR false (fun i => m / 256 ^ i % 256) (fun i => n / 256 ^ i % 256) p i = (m + n + car p) / 256 ^ i % 256 := by
  obtain ⟨h3, hs⟩ := bin_sum m n p hp i
  rw [hs]
  unfold lgR
  dsimp only
  generalize lgP false (fun i => m / 256 ^ i % 256) (fun i => n / 256 ^ i % 256) p i = q at *
  generalize m / 256 ^ i = x at *
  generalize n / 256 ^ i = y at *
  show addR _ _ q = _
  unfold addR baddR
  rw [if_neg (by rw [h3]; simp)]
  omega

theorem bin_diff (m n p : Nat) (hp : tb p 3 = false) (i : Nat) :
    tb (lgP true (fun i => m / 256 ^ i % 256) (fun i => n / 256 ^ i % 256) p i) 3 = false ∧
    ((m : Int) - n - (1 - (car p : Int))) / ((256 ^ i : Nat) : Int) = ((m / 256 ^ i : Nat) : Int) - ((n / 256 ^ i : Nat) : Int) - (1 - (car (lgP true (fun i => m / 256 ^ i % 256) (fun i => n / 256 ^ i % 256) p i) : Int)) := by
  induction i with
  | zero => exact ⟨hp, by simp [lgP]⟩
  | succ i ih =>
    obtain ⟨h3, hs⟩ := ih
    have hP : lgP true (fun i => m / 256 ^ i % 256) (fun i => n / 256 ^ i % 256) p (i + 1) = opP true (m / 256 ^ i % 256) (n / 256 ^ i % 256) (lgP true (fun i => m / 256 ^ i % 256) (fun i => n / 256 ^ i % 256) p i) := rfl
    rw [hP, Nat.pow_succ, ← Nat.div_div_eq_div_mul, ← Nat.div_div_eq_div_mul, Int.natCast_mul, ← Int.ediv_ediv_of_nonneg (Int.natCast_nonneg _), hs]
    generalize lgP true (fun i => m / 256 ^ i % 256) (fun i => n / 256 ^ i % 256) p i = q at *
    generalize m / 256 ^ i = x at *
    generalize n / 256 ^ i = y at *
    have hc := car_le q
    have e : opP true (x % 256) (y % 256) q = baddP (x % 256) (255 - y % 256) q := by
      show subP _ _ q = _
      unfold subP
      rw [if_neg (by rw [h3]; simp)]
    rw [e]
    refine ⟨by rw [baddP_3, h3], ?_⟩
    rw [baddP_car]
    by_cases h : 255 < x % 256 + (255 - y % 256) + car q
    · rw [decide_eq_true h]; simp only [Bool.toNat_true]; omega
    · rw [decide_eq_false h]; simp only [Bool.toNat_false]; omega
theorem bin_diff_byte (m n p : Nat) (hp : tb p 3 = false) (i : Nat) : ((lgR true (fun i => m / 256 ^ i % 256) (fun i => n / 256 ^ i % 256) p i : Nat) : Int) = ((m : Int) - n - (1 - (car p : Int))) / ((256 ^ i : Nat) : Int) % 256 := by
  obtain ⟨h3, hs⟩ := bin_diff m n p hp i
  rw [hs]
  unfold lgR
  dsimp only
  generalize lgP true (fun i => m / 256 ^ i % 256) (fun i => n / 256 ^ i % 256) p i = q at *
  generalize m / 256 ^ i = x at *
  generalize n / 256 ^ i = y at *
  have hc := car_le q
  show ((subR _ _ q : Nat) : Int) = _
  unfold subR baddR
  rw [if_neg (by rw [h3]; simp)]
  omega
end Go.Proofs.Ytnjnhfkfpahniaa.Pl
