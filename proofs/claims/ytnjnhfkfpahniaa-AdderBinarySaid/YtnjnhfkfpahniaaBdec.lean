/-
  Plain laws: sums and differences of long numbers, byte by byte, decimal and binary.
-/
import Derived.Test.YtnjnhfkfpahniaaBadd
namespace Go.Proofs.Ytnjnhfkfpahniaa.Pl

theorem fres_bit (p v k : Nat) (hk : k < 8) (h1 : k ≠ 1) (h7 : k ≠ 7) : (fres p v).testBit k = p.testBit k := by
  unfold fres
  rw [show (2 : Nat) = 2 ^ 1 from rfl, fset_bit _ 1 _ (by omega) k hk, if_neg h1, show (128 : Nat) = 2 ^ 7 from rfl, fset_bit _ 7 _ (by omega) k hk, if_neg h7]
theorem ofF_0 (p r : Nat) (out : Bool) : tb (ofF p r out) 0 = out := by
  unfold ofF
  rw [show (0 : Int) = ((0 : Nat) : Int) from rfl, tb_nat _ 0 (by omega), fres_bit _ _ 0 (by omega) (by omega) (by omega), show fset p 1 out = fset p (2 ^ 0) out from rfl, fset_bit _ 0 _ (by omega) 0 (by omega), if_pos rfl]
theorem ofF_3 (p r : Nat) (out : Bool) : tb (ofF p r out) 3 = tb p 3 := by
  unfold ofF
  rw [show (3 : Int) = ((3 : Nat) : Int) from rfl, tb_nat _ 3 (by omega), tb_nat _ 3 (by omega), fres_bit _ _ 3 (by omega) (by omega) (by omega), show fset p 1 out = fset p (2 ^ 0) out from rfl, fset_bit _ 0 _ (by omega) 3 (by omega), if_neg (by omega)]
theorem car_ofF (p r : Nat) (out : Bool) : car (ofF p r out) = out.toNat := by unfold car; rw [ofF_0]

/-- Two decimal digits in a byte. -/
def pkd (m : Nat) : Nat := m / 10 * 16 + m % 10
theorem pkd_lt (m : Nat) (h : m < 100) : pkd m < 256 := by unfold pkd; omega

theorem dec_add_all : ∀ x, x < 100 → ∀ y, y < 100 → ∀ c, c < 2 → dhi (pkd x) (pkd y) c % 16 * 16 + dlo (pkd x) (pkd y) c % 16 = pkd ((x + y + c) % 100) ∧ (16 ≤ dhi (pkd x) (pkd y) c ↔ 100 ≤ x + y + c) := by decide +kernel
theorem dec_add (x y c : Nat) (hx : x < 100) (hy : y < 100) (hc : c ≤ 1) : dhi (pkd x) (pkd y) c % 16 * 16 + dlo (pkd x) (pkd y) c % 16 = pkd ((x + y + c) % 100) ∧ (16 ≤ dhi (pkd x) (pkd y) c ↔ 100 ≤ x + y + c) := dec_add_all x hx y hy c (by omega)
theorem dec_sub_all : ∀ x, x < 100 → ∀ y, y < 100 → ∀ c, c < 2 → sdig (shi (pkd x) (pkd y) c) % 16 * 16 + sdig (slo (pkd x) (pkd y) c) % 16 = ((pkd ((x + 100 + c - y - 1) % 100) : Nat) : Int) ∧ (0 ≤ shi (pkd x) (pkd y) c ↔ y + 1 ≤ x + c) := by decide +kernel
theorem dec_sub (x y c : Nat) (hx : x < 100) (hy : y < 100) (hc : c ≤ 1) : sdig (shi (pkd x) (pkd y) c) % 16 * 16 + sdig (slo (pkd x) (pkd y) c) % 16 = ((pkd ((x + 100 + c - y - 1) % 100) : Nat) : Int) ∧ (0 ≤ shi (pkd x) (pkd y) c ↔ y + 1 ≤ x + c) := dec_sub_all x hx y hy c (by omega)

/-- Flags behind so many bytes; the byte that comes out. -/
def opR (sub : Bool) (a b p : Nat) : Nat := if sub then subR a b p else addR a b p
def opP (sub : Bool) (a b p : Nat) : Nat := if sub then subP a b p else addP a b p
theorem opP_lt (sub : Bool) (a b : Nat) {p : Nat} (hp : p < 256) : opP sub a b p < 256 := by unfold opP; split; exact subP_lt hp; exact addP_lt hp
theorem opR_lt (sub : Bool) (a b p : Nat) : opR sub a b p < 256 := by unfold opR; split; exact subR_lt a b p; exact addR_lt a b p
def lgP (sub : Bool) (A B : Nat → Nat) (p : Nat) : Nat → Nat
  | 0 => p
  | n + 1 => opP sub (A n) (B n) (lgP sub A B p n)
theorem lgP_lt (sub : Bool) (A B : Nat → Nat) {p : Nat} (hp : p < 256) (n : Nat) : lgP sub A B p n < 256 := by
  induction n with
  | zero => exact hp
  | succ n ih => exact opP_lt _ _ _ ih
def lgR (sub : Bool) (A B : Nat → Nat) (p n : Nat) : Nat := opR sub (A n) (B n) (lgP sub A B p n)

/-- A decimal sum of long numbers. -/
theorem dec_sum (m n p : Nat) (hp : tb p 3 = true) (i : Nat) :
    tb (lgP false (fun i => pkd (m / 100 ^ i % 100)) (fun i => pkd (n / 100 ^ i % 100)) p i) 3 = true ∧
    (m + n + car p) / 100 ^ i = m / 100 ^ i + n / 100 ^ i + car (lgP false (fun i => pkd (m / 100 ^ i % 100)) (fun i => pkd (n / 100 ^ i % 100)) p i) := by
  induction i with
  | zero => exact ⟨hp, by simp [lgP]⟩
  | succ i ih =>
    obtain ⟨h3, hs⟩ := ih
    have hP : lgP false (fun i => pkd (m / 100 ^ i % 100)) (fun i => pkd (n / 100 ^ i % 100)) p (i + 1) = opP false (pkd (m / 100 ^ i % 100)) (pkd (n / 100 ^ i % 100)) (lgP false (fun i => pkd (m / 100 ^ i % 100)) (fun i => pkd (n / 100 ^ i % 100)) p i) := rfl
    rw [hP, Nat.pow_succ, ← Nat.div_div_eq_div_mul, ← Nat.div_div_eq_div_mul, ← Nat.div_div_eq_div_mul, hs]
    generalize lgP false (fun i => pkd (m / 100 ^ i % 100)) (fun i => pkd (n / 100 ^ i % 100)) p i = q at *
    generalize m / 100 ^ i = x at *
    generalize n / 100 ^ i = y at *
    have hc := car_le q
    obtain ⟨_, hd⟩ := dec_add (x % 100) (y % 100) (car q) (Nat.mod_lt _ (by omega)) (Nat.mod_lt _ (by omega)) hc
    have e : opP false (pkd (x % 100)) (pkd (y % 100)) q = ofF q (daddR (pkd (x % 100)) (pkd (y % 100)) q) (decide (16 ≤ dhi (pkd (x % 100)) (pkd (y % 100)) (car q))) := by
      show addP _ _ q = _
      unfold addP daddP
      rw [if_pos h3]
    rw [e]
    refine ⟨by rw [ofF_3, h3], ?_⟩
    rw [car_ofF]
    by_cases h : 16 ≤ dhi (pkd (x % 100)) (pkd (y % 100)) (car q)
    · have := hd.1 h
      rw [decide_eq_true h]
      simp only [Bool.toNat_true]
      omega
    · have : ¬ 100 ≤ x % 100 + y % 100 + car q := fun h' => h (hd.2 h')
      rw [decide_eq_false h]
      simp only [Bool.toNat_false]
      omega
theorem dec_sum_digit (m n p : Nat) (hp : tb p 3 = true) (i : Nat) : lgR false (fun i => pkd (m / 100 ^ i % 100)) (fun i => pkd (n / 100 ^ i % 100)) p i = pkd ((m + n + car p) / 100 ^ i % 100) := by
  obtain ⟨h3, hs⟩ := dec_sum m n p hp i
  rw [hs]
  unfold lgR
  dsimp only
  generalize lgP false (fun i => pkd (m / 100 ^ i % 100)) (fun i => pkd (n / 100 ^ i % 100)) p i = q at *
  generalize m / 100 ^ i = x at *
  generalize n / 100 ^ i = y at *
  have hc := car_le q
  obtain ⟨hd, _⟩ := dec_add (x % 100) (y % 100) (car q) (Nat.mod_lt _ (by omega)) (Nat.mod_lt _ (by omega)) hc
  show addR _ _ q = _
  unfold addR daddR
  rw [if_pos h3, hd]
  congr 1
  omega

/-- A decimal difference of long numbers. -/
theorem dec_diff (m n p : Nat) (hp : tb p 3 = true) (i : Nat) :
    tb (lgP true (fun i => pkd (m / 100 ^ i % 100)) (fun i => pkd (n / 100 ^ i % 100)) p i) 3 = true ∧
    ((m : Int) - n - (1 - (car p : Int))) / ((100 ^ i : Nat) : Int) = ((m / 100 ^ i : Nat) : Int) - ((n / 100 ^ i : Nat) : Int) - (1 - (car (lgP true (fun i => pkd (m / 100 ^ i % 100)) (fun i => pkd (n / 100 ^ i % 100)) p i) : Int)) := by
  induction i with
  | zero => exact ⟨hp, by simp [lgP]⟩
  | succ i ih =>
    obtain ⟨h3, hs⟩ := ih
    have hP : lgP true (fun i => pkd (m / 100 ^ i % 100)) (fun i => pkd (n / 100 ^ i % 100)) p (i + 1) = opP true (pkd (m / 100 ^ i % 100)) (pkd (n / 100 ^ i % 100)) (lgP true (fun i => pkd (m / 100 ^ i % 100)) (fun i => pkd (n / 100 ^ i % 100)) p i) := rfl
    rw [hP, Nat.pow_succ, ← Nat.div_div_eq_div_mul, ← Nat.div_div_eq_div_mul, Int.natCast_mul, ← Int.ediv_ediv_of_nonneg (Int.natCast_nonneg _), hs]
    generalize lgP true (fun i => pkd (m / 100 ^ i % 100)) (fun i => pkd (n / 100 ^ i % 100)) p i = q at *
    generalize m / 100 ^ i = x at *
    generalize n / 100 ^ i = y at *
    have hc := car_le q
    obtain ⟨_, hd⟩ := dec_sub (x % 100) (y % 100) (car q) (Nat.mod_lt _ (by omega)) (Nat.mod_lt _ (by omega)) hc
    have e : opP true (pkd (x % 100)) (pkd (y % 100)) q = ofF q (dsubR (pkd (x % 100)) (pkd (y % 100)) q) (decide (0 ≤ shi (pkd (x % 100)) (pkd (y % 100)) (car q))) := by
      show subP _ _ q = _
      unfold subP dsubP
      rw [if_pos h3]
    rw [e]
    refine ⟨by rw [ofF_3, h3], ?_⟩
    rw [car_ofF]
    by_cases h : 0 ≤ shi (pkd (x % 100)) (pkd (y % 100)) (car q)
    · have := hd.1 h
      rw [decide_eq_true h]
      simp only [Bool.toNat_true]
      omega
    · have : ¬ y % 100 + 1 ≤ x % 100 + car q := fun h' => h (hd.2 h')
      rw [decide_eq_false h]
      simp only [Bool.toNat_false]
      omega
theorem dec_diff_digit (m n p : Nat) (hp : tb p 3 = true) (i : Nat) : (lgR true (fun i => pkd (m / 100 ^ i % 100)) (fun i => pkd (n / 100 ^ i % 100)) p i) = pkd ((((m : Int) - n - (1 - (car p : Int))) / ((100 ^ i : Nat) : Int) % 100).toNat) := by
  obtain ⟨h3, hs⟩ := dec_diff m n p hp i
  rw [hs]
  unfold lgR
  dsimp only
  generalize lgP true (fun i => pkd (m / 100 ^ i % 100)) (fun i => pkd (n / 100 ^ i % 100)) p i = q at *
  generalize m / 100 ^ i = x at *
  generalize n / 100 ^ i = y at *
  have hc := car_le q
  obtain ⟨hd, _⟩ := dec_sub (x % 100) (y % 100) (car q) (Nat.mod_lt _ (by omega)) (Nat.mod_lt _ (by omega)) hc
  show subR _ _ q = _
  unfold subR dsubR
  rw [if_pos h3, hd, Int.toNat_natCast]
  congr 1
  omega
end Go.Proofs.Ytnjnhfkfpahniaa.Pl
