/-
  Package octet: With, Lo, Hi, Word, Signed, Left, Right.
-/
import Derived.Test.YtelmkpcocaogjaaDoorObit
import Derived.Test.YtelmkpcocaogjaaDoorBoct
namespace Go.Proofs.YtelmkpcocaogjaaDoor
open Go.RowKit Pl


theorem octLo_calls (x : Nat) (w : World) (_hx : x < 65536) :
    Calls Tryd.prog 44 #[.int .u16 (x : Int)] w fun e w' => e = .returned (.int .u8 ((x % 256 : Nat) : Int)) ∧ w = w' := by
  go_enter Tryd.func44, Tryd.ntmps44
  go_wp2
  go_ret
  exact ⟨ret_int (by first | rfl | (rw [IntKind.wrap_u8]; omega) | omega), rfl⟩

theorem octHi_calls (x : Nat) (w : World) (_hx : x < 65536) :
    Calls Tryd.prog 45 #[.int .u16 (x : Int)] w fun e w' => e = .returned (.int .u8 ((x / 256 : Nat) : Int)) ∧ w = w' := by
  go_enter Tryd.func45, Tryd.ntmps45
  go_wp2
  go_ret
  exact ⟨ret_int (by first | rfl | (rw [IntKind.wrap_u8]; omega) | omega), rfl⟩

theorem octWord_calls (lo hi : Nat) (w : World) (_hl : lo < 256) (_hh : hi < 256) :
    Calls Tryd.prog 43 #[.int .u8 (lo : Int), .int .u8 (hi : Int)] w fun e w' => e = .returned (.int .u16 ((lo + 256 * hi : Nat) : Int)) ∧ w = w' := by
  have h16 : bits .or .u16 ((256 * hi : Nat) : Int) (lo : Int) = ((lo + 256 * hi : Nat) : Int) := by
    rw [u16_or_nat _ _ (by omega) (by omega)]
    have := Nat.two_pow_add_eq_or_of_lt (i := 8) (b := lo) (by omega) hi
    rw [show 2 ^ 8 * hi = 256 * hi from rfl] at this
    rw [← this]
    omega
  go_enter Tryd.func43, Tryd.ntmps43
  go_wp2
  go_ret
  exact ⟨ret_int (by rw [← h16]; congr 1; omega), rfl⟩






end Go.Proofs.YtelmkpcocaogjaaDoor
