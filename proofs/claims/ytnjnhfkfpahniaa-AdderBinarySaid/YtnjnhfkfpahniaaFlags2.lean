/-
  Package flags: Pushed, Entered; gannetref20.
-/
import Derived.Test.YtnjnhfkfpahniaaFlags
import Derived.Test.YtnjnhfkfpahniaaRbits
namespace Go.Proofs.Ytnjnhfkfpahniaa
open Go.RowKit Pl





theorem wth0 (p : Nat) (on : Bool) : wth p 0 on = fset p 1 on := (fset_wth p 0 on (by omega)).symm
theorem wth1 (p : Nat) (on : Bool) : wth p 1 on = fset p 2 on := (fset_wth p 1 on (by omega)).symm
theorem wth2 (p : Nat) (on : Bool) : wth p 2 on = fset p 4 on := (fset_wth p 2 on (by omega)).symm
theorem wth3 (p : Nat) (on : Bool) : wth p 3 on = fset p 8 on := (fset_wth p 3 on (by omega)).symm
theorem wth4 (p : Nat) (on : Bool) : wth p 4 on = fset p 16 on := (fset_wth p 4 on (by omega)).symm
theorem wth5 (p : Nat) (on : Bool) : wth p 5 on = fset p 32 on := (fset_wth p 5 on (by omega)).symm
theorem wth6 (p : Nat) (on : Bool) : wth p 6 on = fset p 64 on := (fset_wth p 6 on (by omega)).symm
theorem wth7 (p : Nat) (on : Bool) : wth p 7 on = fset p 128 on := (fset_wth p 7 on (by omega)).symm
theorem res_eq (p v : Nat) (hv : v < 256) : wth (wth p 7 (decide ((128 : Int) ≤ (v : Int)))) 1 ((v : Int) == 0) = fres p v := by
  have h1 : decide ((128 : Int) ≤ (v : Int)) = fis v 128 := by
    rw [fis_128 v hv, decide_eq_decide]
    omega
  rw [h1, natCast_beq, wth1, wth7]
  rfl

theorem r20Set_calls (b : Nat) (n : Int) (on : Bool) (w : World) (hb : b < 256) :
    Calls Try.prog 29 #[.int .u8 (b : Int), .int .i64 n, .bool on] w
      fun e w' => e = .returned (.int .u8 (wth b n on : Nat)) ∧ Below w.heap.size w w' := by
  go_enter Try.func29, Try.ntmps29
  go_wp2_with fail
  refine (refWith_calls b n on _ hb).mono ?_
  rintro e w1 ⟨rfl, hb1⟩
  go_wp2_with fail
  go_ret
  exact ⟨rfl, hb1⟩

theorem r20Is_calls (b : Nat) (n : Int) (w : World) (hb : b < 256) :
    Calls Try.prog 19 #[.int .u8 (b : Int), .int .i64 n] w fun e w' => e = .returned (.bool (tb b n)) ∧ w = w' := by
  go_enter Try.func19, Try.ntmps19
  go_wp2_with fail
  refine (refBit_calls b n _ hb).mono ?_
  rintro e w1 ⟨rfl, rfl⟩
  go_wp2_with fail
  go_ret
  exact ⟨rfl, rfl⟩

theorem r20Result_calls (p v : Nat) (w : World) (hp : p < 256) (hv : v < 256) :
    Calls Try.prog 28 #[.int .u8 (p : Int), .int .u8 (v : Int)] w
      fun e w' => e = .returned (.int .u8 (fres p v : Nat)) ∧ Below w.heap.size w w' := by
  go_enter Try.func28, Try.ntmps28
  go_wp2_with fail
  refine (r20Set_calls p 7 _ _ hp).mono ?_
  rintro e w1 ⟨rfl, hb1⟩
  go_wp2_with fail
  refine (r20Set_calls _ 1 _ _ (wth_lt hp)).mono ?_
  rintro e w2 ⟨rfl, hb2⟩
  go_wp2_with fail
  go_ret
  exact ⟨ret_int (congrArg (Nat.cast (R := Int)) (res_eq p v hv)), hb1.trans (hb2.mono hb1.size)⟩



end Go.Proofs.Ytnjnhfkfpahniaa
