/-
  Plain facts: sums and differences of bytes, binary and decimal, and their flags.
-/
import Derived.Test.YtnjnhfkfpahniaaBoct
namespace Go.Proofs.Ytnjnhfkfpahniaa.Pl

/-- The carry. -/
def car (p : Nat) : Nat := (tb p 0).toNat
theorem car_le (p : Nat) : car p ≤ 1 := toNat_le _
theorem car_and (p : Nat) : p &&& 1 = car p := by
  have h := and_pow p 0
  rw [Nat.pow_zero] at h
  rw [h]
  unfold car
  rw [show tb p 0 = p.testBit 0 from tb_nat p 0 (by omega)]
  cases p.testBit 0 <;> rfl
/-- Flags behind a result, and a carry. -/
def ofF (p r : Nat) (out : Bool) : Nat := fres (fset p 1 out) r
theorem ofF_lt {p r : Nat} {out : Bool} (hp : p < 256) : ofF p r out < 256 := fres_lt (fset_lt hp (by omega))
/-- Out of the range of a signed byte? -/
def ovf (a b c : Nat) : Bool := decide (sgn a + sgn b + c < -128) || decide (127 < sgn a + sgn b + c)
theorem bit7 (x : Nat) (hx : x < 256) : x.testBit 7 = decide (128 ≤ x) := by
  rw [Nat.testBit_eq_decide_div_mod_eq, decide_eq_decide]
  omega
theorem ovf_bits (a b c : Nat) (ha : a < 256) (hb : b < 256) (hc : c ≤ 1) :
    ((((a ^^^ ((a + b + c) % 256)) &&& (b ^^^ ((a + b + c) % 256))) &&& 128) != 0) = ovf a b c := by
  have hr : (a + b + c) % 256 < 256 := by omega
  have h := and_pow ((a ^^^ ((a + b + c) % 256)) &&& (b ^^^ ((a + b + c) % 256))) 7
  rw [show (2 : Nat) ^ 7 = 128 from rfl] at h
  rw [h, Nat.testBit_and, Nat.testBit_xor, Nat.testBit_xor, bit7 a ha, bit7 b hb, bit7 _ hr]
  unfold ovf sgn
  by_cases h1 : 128 ≤ a <;> by_cases h2 : 128 ≤ b <;> by_cases h3 : 128 ≤ (a + b + c) % 256 <;>
    simp [h1, h2, h3, Nat.not_lt.2, Nat.not_le.1] <;> omega
theorem fset_comm (p j k : Nat) (x y : Bool) (hp : p < 256) (hj : j < 8) (hk : k < 8) (hne : j ≠ k) : fset (fset p (2 ^ j) x) (2 ^ k) y = fset (fset p (2 ^ k) y) (2 ^ j) x :=
  bext (fset_lt (fset_lt hp (pw_lt j hj)) (pw_lt k hk)) (fset_lt (fset_lt hp (pw_lt k hk)) (pw_lt j hj)) fun i hi => by
    rw [fset_bit _ k _ hk i hi, fset_bit _ j _ hj i hi, fset_bit _ j _ hj i hi, fset_bit _ k _ hk i hi]
    by_cases h1 : i = k
    · subst h1; rw [if_pos rfl, if_neg (fun e => hne e.symm), if_pos rfl]
    · rw [if_neg h1, if_neg h1]
/-- The binary sum. -/
def baddR (a b p : Nat) : Nat := (a + b + car p) % 256
def baddP (a b p : Nat) : Nat := ofF (fset p 64 (ovf a b (car p))) (baddR a b p) (decide (255 < a + b + car p))
/-- A digit's sum: what it is before the carry is taken off. -/
def dig (n : Nat) : Nat := if n < 10 then n else n + 6
def dlo (a b c : Nat) : Nat := dig (a % 16 + b % 16 + c)
def dhi (a b c : Nat) : Nat := dig (a / 16 + b / 16 + if 16 ≤ dlo a b c then 1 else 0)
def daddR (a b p : Nat) : Nat := dhi a b (car p) % 16 * 16 + dlo a b (car p) % 16
def daddP (a b p : Nat) : Nat := ofF p (daddR a b p) (decide (16 ≤ dhi a b (car p)))
theorem dig_le (n : Nat) (h : n ≤ 31) : dig n ≤ 37 := by unfold dig; split <;> omega
theorem dlo_le (a b c : Nat) (hc : c ≤ 1) : dlo a b c ≤ 37 := dig_le _ (by omega)
theorem dhi_le (a b c : Nat) (ha : a < 256) (hb : b < 256) : dhi a b c ≤ 37 := dig_le _ (by split <;> omega)
theorem baddR_lt (a b p : Nat) : baddR a b p < 256 := by unfold baddR; omega
theorem daddR_lt (a b p : Nat) : daddR a b p < 256 := by unfold daddR; omega
theorem baddP_lt {a b p : Nat} (hp : p < 256) : baddP a b p < 256 := ofF_lt (fset_lt hp (by omega))
theorem daddP_lt {a b p : Nat} (hp : p < 256) : daddP a b p < 256 := ofF_lt hp
def addR (a b p : Nat) : Nat := if tb p 3 then daddR a b p else baddR a b p
def addP (a b p : Nat) : Nat := if tb p 3 then daddP a b p else baddP a b p
theorem addR_lt (a b p : Nat) : addR a b p < 256 := by unfold addR; split; exact daddR_lt _ _ _; exact baddR_lt _ _ _
theorem addP_lt {a b p : Nat} (hp : p < 256) : addP a b p < 256 := by unfold addP; split; exact daddP_lt hp; exact baddP_lt hp
/-- A digit's difference, and what is borrowed. -/
def sdig (n : Int) : Int := if 0 ≤ n then n else n + 10
def slo (a b c : Nat) : Int := (a % 16 : Nat) - (b % 16 : Nat) - (1 - (c : Int))
def shi (a b c : Nat) : Int := (a / 16 : Nat) - (b / 16 : Nat) - if slo a b c < 0 then 1 else 0
def dsubR (a b p : Nat) : Nat := (sdig (shi a b (car p)) % 16 * 16 + sdig (slo a b (car p)) % 16).toNat
def dsubP (a b p : Nat) : Nat := ofF p (dsubR a b p) (decide (0 ≤ shi a b (car p)))
theorem dsubR_lt (a b p : Nat) : dsubR a b p < 256 := by unfold dsubR; omega
def subR (a b p : Nat) : Nat := if tb p 3 then dsubR a b p else baddR a (255 - b) p
def subP (a b p : Nat) : Nat := if tb p 3 then dsubP a b p else baddP a (255 - b) p
theorem subR_lt (a b p : Nat) : subR a b p < 256 := by unfold subR; split; exact dsubR_lt _ _ _; exact baddR_lt _ _ _
theorem subP_lt {a b p : Nat} (hp : p < 256) : subP a b p < 256 := by unfold subP; split; exact ofF_lt hp; exact baddP_lt hp
def cmpP (r b p : Nat) : Nat := ofF p ((r + 256 - b) % 256) (decide (b ≤ r))
end Go.Proofs.Ytnjnhfkfpahniaa.Pl
