/-
  gannetref01: Signed, Left, Right, digits, Hex, FromHex.
-/
import Derived.Test.YtnjnhfkfpahniaaRbits
import Derived.Test.YtnjnhfkfpahniaaOct
import Derived.Test.YtnjnhfkfpahniaaOdig
import Derived.StillTailTactics
import Derived.Deep.RegionHeld3
namespace Go.Proofs.Ytnjnhfkfpahniaa
open Go.RowKit Pl

theorem refSigned_calls (b : Nat) (w : World) (_hb : b < 256) :
    Calls Try.prog 30 #[.int .u8 (b : Int)] w fun e w' => e = .returned (.int .i64 (sgn b)) ∧ w = w' := by
  by_cases h : 127 < b
  · go_enter Try.func30, Try.ntmps30
    go_wp2
    go_ret
    exact ⟨ret_int (by unfold sgn; rw [if_neg (by omega)]), rfl⟩
  · go_enter Try.func30, Try.ntmps30
    go_wp2
    go_ret
    exact ⟨ret_int (by unfold sgn; rw [if_pos (by omega)]), rfl⟩




end Go.Proofs.Ytnjnhfkfpahniaa
