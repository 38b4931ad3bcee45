/-
  Plain facts on turns, counts and digits of bytes.
-/
import Derived.Test.YtlojabeeonhceaaDoorBits
namespace Go.Proofs.YtlojabeeonhceaaDoor.Pl
set_option linter.unusedSimpArgs false
set_option linter.unusedVariables false
set_option maxRecDepth 10000

def lft (b : Nat) (i : Bool) : Nat := 2 * b % 256 + i.toNat
def rgt (b : Nat) (i : Bool) : Nat := b / 2 + 128 * i.toNat
theorem lft_lt (b : Nat) (i : Bool) : lft b i < 256 := by
  unfold lft
  have := toNat_le i
  omega
theorem rgt_lt {b : Nat} (i : Bool) (hb : b < 256) : rgt b i < 256 := by
  unfold rgt
  have := toNat_le i
  omega
theorem even_or (x : Nat) : 2 * x ||| 1 = 2 * x + 1 := by
  have := Nat.two_pow_add_eq_or_of_lt (i := 1) (b := 1) (by omega) x
  simpa using this.symm
theorem lft_or (b : Nat) : 2 * b % 256 ||| 1 = lft b true := by
  have e : 2 * b % 256 = 2 * (b % 128) := by omega
  unfold lft
  rw [e, even_or]
  rfl
theorem rgt_or (b : Nat) (hb : b < 256) : b / 2 ||| 128 = rgt b true := by
  have := Nat.or_two_pow_eq_add_of_lt (n := 7) (a := b / 2) (by omega)
  unfold rgt
  simpa using this
theorem lft_bit (b : Nat) (i : Bool) (k : Nat) (hk : k < 8) : (lft b i).testBit k = if k = 0 then i else b.testBit (k - 1) := by
  have hi := toNat_le i
  have e : lft b i = 2 * (b % 128) + i.toNat := by unfold lft; omega
  rw [e]
  cases k with
  | zero =>
    simp only [Nat.testBit_zero, if_true]
    cases i <;> simp <;> omega
  | succ k =>
    rw [if_neg (by omega), Nat.testBit_add_one]
    have e2 : (2 * (b % 128) + i.toNat) / 2 = b % 2 ^ 7 := by
      show _ = b % 128
      omega
    rw [e2, Nat.testBit_mod_two_pow]
    simp
    omega
theorem rgt_bit (b : Nat) (i : Bool) (hb : b < 256) (k : Nat) (hk : k < 8) : (rgt b i).testBit k = if k = 7 then i else b.testBit (k + 1) := by
  have e : rgt b i = 2 ^ 7 * i.toNat + b / 2 := by unfold rgt; omega
  rw [e, Nat.testBit_two_pow_mul_add i.toNat (by omega : b / 2 < 2 ^ 7)]
  by_cases h7 : k = 7
  · subst h7
    cases i <;> simp
  · rw [if_pos (by omega), if_neg h7, Nat.testBit_add_one]
/-- Right undoes left. -/
theorem rgt_lft (b : Nat) (i : Bool) (hb : b < 256) : rgt (lft b i) (b.testBit 7) = b :=
  bext (rgt_lt _ (lft_lt b i)) hb fun k hk => by
    rw [rgt_bit _ _ (lft_lt b i) k hk]
    by_cases h7 : k = 7
    · subst h7; simp
    · rw [if_neg h7, lft_bit b i (k + 1) (by omega)]
      simp
theorem lft_out0 (b : Nat) (i : Bool) : (lft b i).testBit 0 = i := by rw [lft_bit b i 0 (by omega)]; rfl

/-- How many bits are set. -/
def cnt (b : Nat) : Nat := ((List.range 8).filter fun i => b.testBit i).length
theorem cnt_step : ∀ b, b < 256 → b ≠ 0 → cnt (b &&& (b - 1)) + 1 = cnt b := by decide +kernel
theorem cnt_zero : cnt 0 = 0 := by decide
theorem cnt_le (b : Nat) : cnt b ≤ 8 := by
  have := List.length_filter_le (fun i => b.testBit i) (List.range 8)
  simpa [cnt] using this

/-- The lowest bit that is set, of those from k on; -1: none. -/
def fstFrom (b : Nat) : Nat → Nat → Int
  | _, 0 => -1
  | k, n + 1 => if b.testBit k then (k : Int) else fstFrom b (k + 1) n
def fst (b : Nat) : Int := fstFrom b 0 8

/-- Both, from bit k on. -/
def cntFrom (b k : Nat) : Nat := ((List.range 8).filter fun i => k ≤ i && b.testBit i).length
def sgn (b : Nat) : Int := if b < 128 then b else (b : Int) - 256
end Go.Proofs.YtlojabeeonhceaaDoor.Pl
