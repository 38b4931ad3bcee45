/-
  Plain facts on physical addresses.
-/
import Derived.Test.YtemfdkoipeedeaaBits
namespace Go.Proofs.Ytemfdkoipeedeaa.Pl
set_option linter.unusedSimpArgs false
set_option linter.unusedVariables false
set_option maxRecDepth 10000

def bnk (a : Nat) : Nat := a / 8192 % 256
theorem bnk_lt (a : Nat) : bnk a < 256 := Nat.mod_lt _ (by omega)
/-- Where an address is: by its bank, and its place in it. -/
def whO (o : Nat) : Nat := if o < 1024 then 3 else if o < 2048 then 4 else if o < 3072 then 5 else if o < 4096 then 6 else if o < 5120 then 7 else if o < 6144 then 8 else 2
def whB (b o : Nat) : Nat := if b < 128 then 0 else if 248 ≤ b ∧ b ≤ 251 then 1 else if b = 255 then whO o else 2
def whr (a : Nat) : Nat := whB (bnk a) (a % 8192)
theorem whO_div (o : Nat) (h : o < 6144) : [3, 4, 5, 6, 7, 8][o / 1024]? = some (whO o) := by
  have : o / 1024 < 6 := by omega
  obtain h0 | h0 | h0 | h0 | h0 | h0 : o / 1024 = 0 ∨ o / 1024 = 1 ∨ o / 1024 = 2 ∨ o / 1024 = 3 ∨ o / 1024 = 4 ∨ o / 1024 = 5 := by omega
  all_goals
    rw [h0]
    unfold whO
    repeat (first | rw [if_pos (by omega)] | rw [if_neg (by omega)])
    try rfl
def rgO (w o : Nat) : Int := if w = 3 ∨ w = 8 then ((o % 4 : Nat) : Int) else if w = 4 then ((o % 8 : Nat) : Int) else if w = 5 then ((o % 16 : Nat) : Int) else if w = 6 then ((o % 2 : Nat) : Int) else if w = 7 then 0 else -1
/-- The address of a bank's place. -/
def adr (b o : Nat) : Nat := b * 8192 + o % 8192
theorem adr_or (b o : Nat) : (b * 8192) ||| (o % 8192) = adr b o := by
  have h := Nat.two_pow_add_eq_or_of_lt (i := 13) (b := o % 8192) (by show o % 8192 < 2 ^ 13; omega) b
  unfold adr
  rw [show b * 8192 = 2 ^ 13 * b from by omega]
  exact h.symm
theorem and_8191 (o : Nat) : o &&& 8191 = o % 8192 := Nat.and_two_pow_sub_one_eq_mod o 13
theorem bnk_adr (b o : Nat) (hb : b < 256) : bnk (adr b o) = b := by unfold bnk adr; omega
theorem off_adr (b o : Nat) : adr b o % 8192 = o % 8192 := by unfold adr; omega
theorem adr_back (a : Nat) : adr (bnk a) (a % 8192) = a % 2097152 := by unfold adr bnk; omega
end Go.Proofs.Ytemfdkoipeedeaa.Pl
