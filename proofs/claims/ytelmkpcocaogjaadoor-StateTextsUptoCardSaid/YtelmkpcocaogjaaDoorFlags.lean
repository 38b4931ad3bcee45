/-
  Package flags: Is, Set, Result, Goes, Begun, Pulled, Of, Byte, Pushed, Entered.
-/
import Derived.Test.YtelmkpcocaogjaaDoorCore
import Derived.Test.YtelmkpcocaogjaaDoorArr
namespace Go.Proofs.YtelmkpcocaogjaaDoor
open Go.RowKit Pl

theorem flIs_calls (p f : Nat) (w : World) (hp : p < 256) (hf : f < 256) :
    Calls Tryd.prog 48 #[.int .u8 (p : Int), .int .u8 (f : Int)] w fun e w' => e = .returned (.bool (fis p f)) ∧ w = w' := by
  go_enter Tryd.func48, Tryd.ntmps48
  go_wp2
  go_ret
  exact ⟨ret_bool (by rw [u8_and_nat p f hp hf, natCast_bne]; rfl), rfl⟩






end Go.Proofs.YtelmkpcocaogjaaDoor
