/-
  The texts Flags, Rbit, Rof, Rbits, Flags2, Bhex, Odig of the proof of TopSums, as one file (they are merged by a program).
-/
import Derived.Test.YtplobngbjpgcgaaGreatDoorA1
import Derived.WalkKit
import Derived.WalkLawsBesides
import Derived.WalkSpells
import Derived.Test.YtplobngbjpgcgaaGreatDoorA6
import Derived.Laws.IdiomStrings
import Derived.Deep.DeepCutAuto
section
/-
  Package flags: Is, Set, Result, Goes, Begun, Pulled, Of, Byte, Pushed, Entered.
-/
namespace Go.Proofs.YtplobngbjpgcgaaGreatDoor
set_option linter.unusedSimpArgs false
set_option linter.unusedVariables false
set_option maxRecDepth 10000
open Go.RowKit Pl

theorem flIs_calls (p f : Nat) (w : World) (hp : p < 256) (hf : f < 256) :
    Calls Tryz.prog 9 #[.int .u8 (p : Int), .int .u8 (f : Int)] w fun e w' => e = .returned (.bool (fis p f)) ∧ w = w' := by
  go_enter Tryz.func9, Tryz.ntmps9
  go_wp2
  go_ret
  exact ⟨ret_bool (by rw [u8_and_nat p f hp hf, natCast_bne]; rfl), rfl⟩

theorem flSet_calls (p f : Nat) (on : Bool) (w : World) (hp : p < 256) (hf : f < 256) :
    Calls Tryz.prog 43 #[.int .u8 (p : Int), .int .u8 (f : Int), .bool on] w fun e w' => e = .returned (.int .u8 (fset p f on : Nat)) ∧ w = w' := by
  cases on
  · go_enter Tryz.func43, Tryz.ntmps43
    go_wp2
    go_ret
    exact ⟨ret_int (by rw [u8_andNot_nat p f hp hf]; rfl), rfl⟩
  · go_enter Tryz.func43, Tryz.ntmps43
    go_wp2
    go_ret
    exact ⟨ret_int (by rw [u8_or_nat p f hp hf]; rfl), rfl⟩

theorem flResult_calls (p v : Nat) (w : World) (hp : p < 256) (hv : v < 256) :
    Calls Tryz.prog 158 #[.int .u8 (p : Int), .int .u8 (v : Int)] w fun e w' => e = .returned (.int .u8 (fres p v : Nat)) ∧ w = w' := by
  have h1 : fset p 128 (fis v 128) < 256 := fset_lt hp (by omega)
  go_enter Tryz.func158, Tryz.ntmps158
  go_wp2_with fail
  refine (flIs_calls v 128 _ hv (by omega)).mono ?_
  rintro e w' ⟨rfl, rfl⟩
  go_wp2_with fail
  refine (flSet_calls p 128 _ _ hp (by omega)).mono ?_
  rintro e w' ⟨rfl, rfl⟩
  go_wp2_with fail
  refine (flSet_calls _ 2 _ _ h1 (by omega)).mono ?_
  rintro e w' ⟨rfl, rfl⟩
  go_wp2_with fail
  go_ret
  exact ⟨ret_int (by unfold fres; rw [natCast_beq]), rfl⟩

theorem flBegun_calls (p : Nat) (w : World) (hp : p < 256) :
    Calls Tryz.prog 16 #[.int .u8 (p : Int)] w fun e w' => e = .returned (.tuple #[.int .u8 (fset p 32 false : Nat), .bool (fis p 32)]) ∧ w = w' := by
  go_enter Tryz.func16, Tryz.ntmps16
  go_wp2_with fail
  refine (flSet_calls p 32 _ _ hp (by omega)).mono ?_
  rintro e w' ⟨rfl, rfl⟩
  go_wp2_with fail
  refine (flIs_calls p 32 _ hp (by omega)).mono ?_
  rintro e w' ⟨rfl, rfl⟩
  go_wp2_with fail
  go_ret2
  exact ⟨rfl, rfl⟩

end Go.Proofs.YtplobngbjpgcgaaGreatDoor
end
section
/-
  gannetref01.Bit.
-/
namespace Go.Proofs.YtplobngbjpgcgaaGreatDoor
set_option linter.unusedSimpArgs false
set_option linter.unusedVariables false
set_option maxRecDepth 10000
open Go.RowKit Pl

end Go.Proofs.YtplobngbjpgcgaaGreatDoor
end
section
/-
  gannetref01.Power, gannetref01.Of.
-/
namespace Go.Proofs.YtplobngbjpgcgaaGreatDoor
set_option linter.unusedSimpArgs false
set_option linter.unusedVariables false
set_option maxRecDepth 10000
open Go.RowKit Pl

end Go.Proofs.YtplobngbjpgcgaaGreatDoor
end
section
/-
  gannetref01: Bits, With.
-/
namespace Go.Proofs.YtplobngbjpgcgaaGreatDoor
set_option linter.unusedSimpArgs false
set_option linter.unusedVariables false
set_option maxRecDepth 10000
open Go.RowKit Pl

end Go.Proofs.YtplobngbjpgcgaaGreatDoor
end
section
/-
  Package flags: Pushed, Entered; gannetref20.
-/
namespace Go.Proofs.YtplobngbjpgcgaaGreatDoor
set_option linter.unusedSimpArgs false
set_option linter.unusedVariables false
set_option maxRecDepth 10000
open Go.RowKit Pl

end Go.Proofs.YtplobngbjpgcgaaGreatDoor
end
section
/-
  Plain facts on digits of sixteen.
-/
namespace Go.Proofs.YtplobngbjpgcgaaGreatDoor.Pl
set_option linter.unusedSimpArgs false
set_option linter.unusedVariables false
set_option maxRecDepth 10000

/-- A digit's value. -/
def hv (c : UInt8) : Option Nat := if 48 ≤ c.toNat ∧ c.toNat ≤ 57 then some (c.toNat - 48) else if 65 ≤ c.toNat ∧ c.toNat ≤ 70 then some (c.toNat - 55) else none
end Go.Proofs.YtplobngbjpgcgaaGreatDoor.Pl
end
section
/-
  Package octet: Pack, Unpack, digits, value, FromHex, Hex.
-/
namespace Go.Proofs.YtplobngbjpgcgaaGreatDoor
set_option linter.unusedSimpArgs false
set_option linter.unusedVariables false
set_option maxRecDepth 10000
open Go.RowKit Pl

theorem ret_ints {k l : IntKind} {a a' b b' : Int} (h : a = a') (h2 : b = b') : Ending.returned (.tuple #[.int k a, .int l b]) = .returned (.tuple #[.int k a', .int l b']) := by rw [h, h2]
end Go.Proofs.YtplobngbjpgcgaaGreatDoor
end
