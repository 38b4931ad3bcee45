/-
  Package octet: With, Lo, Hi, Word, Signed, Left, Right.
-/
import Derived.Test.YtemfdkoipeedeaaObit
import Derived.Test.YtemfdkoipeedeaaBoct
namespace Go.Proofs.Ytemfdkoipeedeaa
set_option linter.unusedSimpArgs false
set_option linter.unusedVariables false
set_option maxRecDepth 10000
open Go.RowKit Pl

theorem octWith_calls (b : Nat) (n : Int) (on : Bool) (w : World) (hb : b < 256) :
    Calls Try.prog 86 #[.int .u8 (b : Int), .int .i64 n, .bool on] w fun e w' => e = .returned (.int .u8 (wth b n on : Nat)) ∧ w = w' := by
  have hm := msk_lt n
  cases on
  · go_enter Try.func86, Try.ntmps86
    go_wp2_with fail
    refine (octMask_calls n _).mono ?_
    rintro e w' ⟨rfl, rfl⟩
    go_wp2_with fail
    go_ret
    exact ⟨ret_int (by rw [u8_andNot_nat b _ hb hm]; rfl), rfl⟩
  · go_enter Try.func86, Try.ntmps86
    go_wp2_with fail
    refine (octMask_calls n _).mono ?_
    rintro e w' ⟨rfl, rfl⟩
    go_wp2_with fail
    go_ret
    exact ⟨ret_int (by rw [u8_or_nat b _ hb hm]; rfl), rfl⟩









end Go.Proofs.Ytemfdkoipeedeaa
