/-
  The texts Badd, Bdec of the proof of TopSums, as one file (they are merged by a program).
-/
import Derived.Test.YtplobngbjpgcgaaGreatDoorA6
section
/-
  Plain facts: sums and differences of bytes, binary and decimal, and their flags.
-/
namespace Go.Proofs.YtplobngbjpgcgaaGreatDoor.Pl
set_option linter.unusedSimpArgs false
set_option linter.unusedVariables false
set_option maxRecDepth 10000

/-- The carry. -/
def car (p : Nat) : Nat := (tb p 0).toNat
theorem car_le (p : Nat) : car p ≤ 1 := toNat_le _
theorem car_and (p : Nat) : p &&& 1 = car p := by
  have h := and_pow p 0
  rw [Nat.pow_zero] at h
  rw [h]
  unfold car
  rw [show tb p 0 = p.testBit 0 from tb_nat p 0 (by omega)]
  cases p.testBit 0 <;> rfl
/-- Flags behind a result, and a carry. -/
def ofF (p r : Nat) (out : Bool) : Nat := fres (fset p 1 out) r
theorem ofF_lt {p r : Nat} {out : Bool} (hp : p < 256) : ofF p r out < 256 := fres_lt (fset_lt hp (by omega))
/-- Out of the range of a signed byte? -/
def ovf (a b c : Nat) : Bool := decide (sgn a + sgn b + c < -128) || decide (127 < sgn a + sgn b + c)
theorem bit7 (x : Nat) (hx : x < 256) : x.testBit 7 = decide (128 ≤ x) := by
  rw [Nat.testBit_eq_decide_div_mod_eq, decide_eq_decide]
  omega
theorem ovf_bits (a b c : Nat) (ha : a < 256) (hb : b < 256) (hc : c ≤ 1) :
    ((((a ^^^ ((a + b + c) % 256)) &&& (b ^^^ ((a + b + c) % 256))) &&& 128) != 0) = ovf a b c := by
  have hr : (a + b + c) % 256 < 256 := by omega
  have h := and_pow ((a ^^^ ((a + b + c) % 256)) &&& (b ^^^ ((a + b + c) % 256))) 7
  rw [show (2 : Nat) ^ 7 = 128 from rfl] at h
  rw [h, Nat.testBit_and, Nat.testBit_xor, Nat.testBit_xor, bit7 a ha, bit7 b hb, bit7 _ hr]
  unfold ovf sgn
  by_cases h1 : 128 ≤ a <;> by_cases h2 : 128 ≤ b <;> by_cases h3 : 128 ≤ (a + b + c) % 256 <;>
    simp [h1, h2, h3, Nat.not_lt.2, Nat.not_le.1] <;> omega
/-- The binary sum. -/
def baddR (a b p : Nat) : Nat := (a + b + car p) % 256
def baddP (a b p : Nat) : Nat := ofF (fset p 64 (ovf a b (car p))) (baddR a b p) (decide (255 < a + b + car p))
/-- A digit's sum: what it is before the carry is taken off. -/
def dig (n : Nat) : Nat := if n < 10 then n else n + 6
def dlo (a b c : Nat) : Nat := dig (a % 16 + b % 16 + c)
def dhi (a b c : Nat) : Nat := dig (a / 16 + b / 16 + if 16 ≤ dlo a b c then 1 else 0)
def daddR (a b p : Nat) : Nat := dhi a b (car p) % 16 * 16 + dlo a b (car p) % 16
def daddP (a b p : Nat) : Nat := ofF p (daddR a b p) (decide (16 ≤ dhi a b (car p)))
theorem dig_le (n : Nat) (h : n ≤ 31) : dig n ≤ 37 := by unfold dig; split <;> omega
theorem baddR_lt (a b p : Nat) : baddR a b p < 256 := by unfold baddR; omega
theorem daddR_lt (a b p : Nat) : daddR a b p < 256 := by unfold daddR; omega
theorem baddP_lt {a b p : Nat} (hp : p < 256) : baddP a b p < 256 := ofF_lt (fset_lt hp (by omega))
theorem daddP_lt {a b p : Nat} (hp : p < 256) : daddP a b p < 256 := ofF_lt hp
def addR (a b p : Nat) : Nat := if tb p 3 then daddR a b p else baddR a b p
def addP (a b p : Nat) : Nat := if tb p 3 then daddP a b p else baddP a b p
theorem addR_lt (a b p : Nat) : addR a b p < 256 := by unfold addR; split; exact daddR_lt _ _ _; exact baddR_lt _ _ _
theorem addP_lt {a b p : Nat} (hp : p < 256) : addP a b p < 256 := by unfold addP; split; exact daddP_lt hp; exact baddP_lt hp
/-- A digit's difference, and what is borrowed. -/
def sdig (n : Int) : Int := if 0 ≤ n then n else n + 10
def slo (a b c : Nat) : Int := (a % 16 : Nat) - (b % 16 : Nat) - (1 - (c : Int))
def shi (a b c : Nat) : Int := (a / 16 : Nat) - (b / 16 : Nat) - if slo a b c < 0 then 1 else 0
def dsubR (a b p : Nat) : Nat := (sdig (shi a b (car p)) % 16 * 16 + sdig (slo a b (car p)) % 16).toNat
def dsubP (a b p : Nat) : Nat := ofF p (dsubR a b p) (decide (0 ≤ shi a b (car p)))
theorem dsubR_lt (a b p : Nat) : dsubR a b p < 256 := by unfold dsubR; omega
def subR (a b p : Nat) : Nat := if tb p 3 then dsubR a b p else baddR a (255 - b) p
def subP (a b p : Nat) : Nat := if tb p 3 then dsubP a b p else baddP a (255 - b) p
theorem subR_lt (a b p : Nat) : subR a b p < 256 := by unfold subR; split; exact dsubR_lt _ _ _; exact baddR_lt _ _ _
theorem subP_lt {a b p : Nat} (hp : p < 256) : subP a b p < 256 := by unfold subP; split; exact ofF_lt hp; exact baddP_lt hp
end Go.Proofs.YtplobngbjpgcgaaGreatDoor.Pl
end
section
/-
  Plain laws: sums and differences of long numbers, byte by byte, decimal and binary.
-/
namespace Go.Proofs.YtplobngbjpgcgaaGreatDoor.Pl
set_option linter.unusedSimpArgs false
set_option linter.unusedVariables false
set_option maxRecDepth 10000

theorem fres_bit (p v k : Nat) (hk : k < 8) (h1 : k ≠ 1) (h7 : k ≠ 7) : (fres p v).testBit k = p.testBit k := by
  unfold fres
  rw [show (2 : Nat) = 2 ^ 1 from rfl, fset_bit _ 1 _ (by omega) k hk, if_neg h1, show (128 : Nat) = 2 ^ 7 from rfl, fset_bit _ 7 _ (by omega) k hk, if_neg h7]
/-- Flags behind so many bytes; the byte that comes out. -/
def opR (sub : Bool) (a b p : Nat) : Nat := if sub then subR a b p else addR a b p
def opP (sub : Bool) (a b p : Nat) : Nat := if sub then subP a b p else addP a b p
theorem opP_lt (sub : Bool) (a b : Nat) {p : Nat} (hp : p < 256) : opP sub a b p < 256 := by unfold opP; split; exact subP_lt hp; exact addP_lt hp
theorem opR_lt (sub : Bool) (a b p : Nat) : opR sub a b p < 256 := by unfold opR; split; exact subR_lt a b p; exact addR_lt a b p
def lgP (sub : Bool) (A B : Nat → Nat) (p : Nat) : Nat → Nat
  | 0 => p
  | n + 1 => opP sub (A n) (B n) (lgP sub A B p n)
theorem lgP_lt (sub : Bool) (A B : Nat → Nat) {p : Nat} (hp : p < 256) (n : Nat) : lgP sub A B p n < 256 := by
  induction n with
  | zero => exact hp
  | succ n ih => exact opP_lt _ _ _ ih
def lgR (sub : Bool) (A B : Nat → Nat) (p n : Nat) : Nat := opR sub (A n) (B n) (lgP sub A B p n)

end Go.Proofs.YtplobngbjpgcgaaGreatDoor.Pl
end
