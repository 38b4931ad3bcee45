/-
  Package flags: Is, Set, Result, Goes, Begun, Pulled, Of, Byte, Pushed, Entered.
-/
import Derived.Test.YtnjnhfkfpahniaaCore
import Derived.Test.YtnjnhfkfpahniaaArr
namespace Go.Proofs.Ytnjnhfkfpahniaa
open Go.RowKit Pl

theorem flIs_calls (p f : Nat) (w : World) (hp : p < 256) (hf : f < 256) :
    Calls Try.prog 20 #[.int .u8 (p : Int), .int .u8 (f : Int)] w fun e w' => e = .returned (.bool (fis p f)) ∧ w = w' := by
  go_enter Try.func20, Try.ntmps20
  go_wp2
  go_ret
  exact ⟨ret_bool (by rw [u8_and_nat p f hp hf, natCast_bne]; rfl), rfl⟩

theorem flSet_calls (p f : Nat) (on : Bool) (w : World) (hp : p < 256) (hf : f < 256) :
    Calls Try.prog 34 #[.int .u8 (p : Int), .int .u8 (f : Int), .bool on] w fun e w' => e = .returned (.int .u8 (fset p f on : Nat)) ∧ w = w' := by
  cases on
  · go_enter Try.func34, Try.ntmps34
    go_wp2
    go_ret
    exact ⟨ret_int (by rw [u8_andNot_nat p f hp hf]; rfl), rfl⟩
  · go_enter Try.func34, Try.ntmps34
    go_wp2
    go_ret
    exact ⟨ret_int (by rw [u8_or_nat p f hp hf]; rfl), rfl⟩


theorem flResult_calls (p v : Nat) (w : World) (hp : p < 256) (hv : v < 256) :
    Calls Try.prog 35 #[.int .u8 (p : Int), .int .u8 (v : Int)] w fun e w' => e = .returned (.int .u8 (fres p v : Nat)) ∧ w = w' := by
  have h1 : fset p 128 (fis v 128) < 256 := fset_lt hp (by omega)
  go_enter Try.func35, Try.ntmps35
  go_wp2_with fail
  refine (flIs_calls v 128 _ hv (by omega)).mono ?_
  rintro e w' ⟨rfl, rfl⟩
  go_wp2_with fail
  refine (flSet_calls p 128 _ _ hp (by omega)).mono ?_
  rintro e w' ⟨rfl, rfl⟩
  go_wp2_with fail
  refine (flSet_calls _ 2 _ _ h1 (by omega)).mono ?_
  rintro e w' ⟨rfl, rfl⟩
  go_wp2_with fail
  go_ret
  exact ⟨ret_int (by unfold fres; rw [natCast_beq]), rfl⟩




end Go.Proofs.Ytnjnhfkfpahniaa
