/-
  Package octet: With, Lo, Hi, Word, Signed, Left, Right.
-/
import Derived.Test.YtlojabeeonhceaaDoorObit
import Derived.Test.YtlojabeeonhceaaDoorBoct
namespace Go.Proofs.YtlojabeeonhceaaDoor
set_option linter.unusedSimpArgs false
set_option linter.unusedVariables false
set_option maxRecDepth 10000
open Go.RowKit Pl




theorem octWord_calls (lo hi : Nat) (w : World) (_hl : lo < 256) (_hh : hi < 256) :
    Calls Tryd.prog 46 #[.int .u8 (lo : Int), .int .u8 (hi : Int)] w fun e w' => e = .returned (.int .u16 ((lo + 256 * hi : Nat) : Int)) ∧ w = w' := by
  have h16 : bits .or .u16 ((256 * hi : Nat) : Int) (lo : Int) = ((lo + 256 * hi : Nat) : Int) := by
    rw [u16_or_nat _ _ (by omega) (by omega)]
    have := Nat.two_pow_add_eq_or_of_lt (i := 8) (b := lo) (by omega) hi
    rw [show 2 ^ 8 * hi = 256 * hi from rfl] at this
    rw [← this]
    omega
  go_enter Tryd.func46, Tryd.ntmps46
  go_wp2
  go_ret
  exact ⟨ret_int (by rw [← h16]; congr 1; omega), rfl⟩

theorem sgn_wrap_all : ∀ b : Nat, b < 256 → wrap64 (IntKind.i8.wrap (b : Int)) = sgn b := by decide +kernel
theorem sgn_wrap (b : Nat) (hb : b < 256) : wrap64 (IntKind.i8.wrap (b : Int)) = sgn b := sgn_wrap_all b hb
theorem octSigned_calls (b : Nat) (w : World) (_hb : b < 256) :
    Calls Tryd.prog 57 #[.int .u8 (b : Int)] w fun e w' => e = .returned (.int .i64 (sgn b)) ∧ w = w' := by
  go_enter Tryd.func57, Tryd.ntmps57
  go_wp2
  go_ret
  exact ⟨ret_int (sgn_wrap b _hb), rfl⟩





end Go.Proofs.YtlojabeeonhceaaDoor
