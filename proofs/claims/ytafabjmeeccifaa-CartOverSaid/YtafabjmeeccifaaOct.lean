/-
  Package octet: With, Lo, Hi, Word, Signed, Left, Right.
-/
import Derived.Test.YtafabjmeeccifaaObit
import Derived.Test.YtafabjmeeccifaaBoct
namespace Go.Proofs.Ytafabjmeeccifaa
open Go.RowKit Pl


theorem octLo_calls (x : Nat) (w : World) (_hx : x < 65536) :
    Calls Try.prog 24 #[.int .u16 (x : Int)] w fun e w' => e = .returned (.int .u8 ((x % 256 : Nat) : Int)) ∧ w = w' := by
  go_enter Try.func24, Try.ntmps24
  go_wp2
  go_ret
  exact ⟨ret_int (by first | rfl | (rw [IntKind.wrap_u8]; omega) | omega), rfl⟩

theorem octHi_calls (x : Nat) (w : World) (_hx : x < 65536) :
    Calls Try.prog 25 #[.int .u16 (x : Int)] w fun e w' => e = .returned (.int .u8 ((x / 256 : Nat) : Int)) ∧ w = w' := by
  go_enter Try.func25, Try.ntmps25
  go_wp2
  go_ret
  exact ⟨ret_int (by first | rfl | (rw [IntKind.wrap_u8]; omega) | omega), rfl⟩

theorem octWord_calls (lo hi : Nat) (w : World) (_hl : lo < 256) (_hh : hi < 256) :
    Calls Try.prog 26 #[.int .u8 (lo : Int), .int .u8 (hi : Int)] w fun e w' => e = .returned (.int .u16 ((lo + 256 * hi : Nat) : Int)) ∧ w = w' := by
  have h16 : bits .or .u16 ((256 * hi : Nat) : Int) (lo : Int) = ((lo + 256 * hi : Nat) : Int) := by
    rw [u16_or_nat _ _ (by omega) (by omega)]
    have := Nat.two_pow_add_eq_or_of_lt (i := 8) (b := lo) (by omega) hi
    rw [show 2 ^ 8 * hi = 256 * hi from rfl] at this
    rw [← this]
    omega
  go_enter Try.func26, Try.ntmps26
  go_wp2
  go_ret
  exact ⟨ret_int (by rw [← h16]; congr 1; omega), rfl⟩






end Go.Proofs.Ytafabjmeeccifaa
