/-
  Package flags: Pushed, Entered; gannetref20.
-/
import Derived.Test.YtelmkpcocaogjaaDoorFlags
import Derived.Test.YtelmkpcocaogjaaDoorRbits
namespace Go.Proofs.YtelmkpcocaogjaaDoor
open Go.RowKit Pl





theorem wth0 (p : Nat) (on : Bool) : wth p 0 on = fset p 1 on := (fset_wth p 0 on (by omega)).symm
theorem wth1 (p : Nat) (on : Bool) : wth p 1 on = fset p 2 on := (fset_wth p 1 on (by omega)).symm
theorem wth2 (p : Nat) (on : Bool) : wth p 2 on = fset p 4 on := (fset_wth p 2 on (by omega)).symm
theorem wth3 (p : Nat) (on : Bool) : wth p 3 on = fset p 8 on := (fset_wth p 3 on (by omega)).symm
theorem wth4 (p : Nat) (on : Bool) : wth p 4 on = fset p 16 on := (fset_wth p 4 on (by omega)).symm
theorem wth5 (p : Nat) (on : Bool) : wth p 5 on = fset p 32 on := (fset_wth p 5 on (by omega)).symm
theorem wth6 (p : Nat) (on : Bool) : wth p 6 on = fset p 64 on := (fset_wth p 6 on (by omega)).symm
theorem wth7 (p : Nat) (on : Bool) : wth p 7 on = fset p 128 on := (fset_wth p 7 on (by omega)).symm
theorem res_eq (p v : Nat) (hv : v < 256) : wth (wth p 7 (decide ((128 : Int) ≤ (v : Int)))) 1 ((v : Int) == 0) = fres p v := by
  have h1 : decide ((128 : Int) ≤ (v : Int)) = fis v 128 := by
    rw [fis_128 v hv, decide_eq_decide]
    omega
  rw [h1, natCast_beq, wth1, wth7]
  rfl


theorem r20Is_calls (b : Nat) (n : Int) (w : World) (hb : b < 256) :
    Calls Tryd.prog 56 #[.int .u8 (b : Int), .int .i64 n] w fun e w' => e = .returned (.bool (tb b n)) ∧ w = w' := by
  go_enter Tryd.func56, Tryd.ntmps56
  go_wp2_with fail
  refine (refBit_calls b n _ hb).mono ?_
  rintro e w1 ⟨rfl, rfl⟩
  go_wp2_with fail
  go_ret
  exact ⟨rfl, rfl⟩




end Go.Proofs.YtelmkpcocaogjaaDoor
