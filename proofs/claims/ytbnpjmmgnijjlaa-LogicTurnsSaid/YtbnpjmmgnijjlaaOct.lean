/-
  Package octet: With, Lo, Hi, Word, Signed, Left, Right.
-/
import Derived.Test.YtbnpjmmgnijjlaaObit
import Derived.Test.YtbnpjmmgnijjlaaBoct
namespace Go.Proofs.Ytbnpjmmgnijjlaa
open Go.RowKit Pl






theorem ret_pair {k : IntKind} {a a' : Int} {x x' : Bool} (h : a = a') (hx : x = x') : Ending.returned (.tuple #[.int k a, .bool x]) = .returned (.tuple #[.int k a', .bool x']) := by rw [h, hx]
theorem lft_bits (b : Nat) : bits .or .u8 ((b : Int) * 2 % 256) 1 = (lft b true : Nat) := by
  have h := u8_or_nat (2 * b % 256) 1 (by omega) (by omega)
  rw [lft_or] at h
  rw [← h]
  congr 1
  omega
theorem rgt_bits (b : Nat) (hb : b < 256) : bits .or .u8 ((b : Int) / 2) (msk 7 : Nat) = (rgt b true : Nat) := by
  have h := u8_or_nat (b / 2) 128 (by omega) (by omega)
  rw [rgt_or b hb] at h
  rw [← h]
  congr 1

theorem octLeft_calls (b : Nat) (i : Bool) (w : World) (hb : b < 256) :
    Calls Try.prog 36 #[.int .u8 (b : Int), .bool i] w fun e w' => e = .returned (.tuple #[.int .u8 (lft b i : Nat), .bool (tb b 7)]) ∧ w = w' := by
  cases i
  · go_enter Try.func36, Try.ntmps36
    go_wp2_with fail
    refine (octBit_calls b 7 _ hb).mono ?_
    rintro e w' ⟨rfl, rfl⟩
    go_wp2_with fail
    go_ret2
    exact ⟨ret_pair (by unfold lft; simp; omega) rfl, rfl⟩
  · go_enter Try.func36, Try.ntmps36
    go_wp2_with fail
    refine (octBit_calls b 7 _ hb).mono ?_
    rintro e w' ⟨rfl, rfl⟩
    go_wp2_with fail
    go_ret2
    exact ⟨ret_pair (lft_bits b) rfl, rfl⟩

theorem octRight_calls (b : Nat) (i : Bool) (w : World) (hb : b < 256) :
    Calls Try.prog 38 #[.int .u8 (b : Int), .bool i] w fun e w' => e = .returned (.tuple #[.int .u8 (rgt b i : Nat), .bool (tb b 0)]) ∧ w = w' := by
  cases i
  · go_enter Try.func38, Try.ntmps38
    go_wp2_with fail
    refine (octBit_calls b 0 _ hb).mono ?_
    rintro e w' ⟨rfl, rfl⟩
    go_wp2_with fail
    go_ret2
    exact ⟨ret_pair (by unfold rgt; simp) rfl, rfl⟩
  · go_enter Try.func38, Try.ntmps38
    go_wp2_with fail
    refine (octMask_calls 7 _).mono ?_
    rintro e w' ⟨rfl, rfl⟩
    go_wp2_with fail
    refine (octBit_calls b 0 _ hb).mono ?_
    rintro e w' ⟨rfl, rfl⟩
    go_wp2_with fail
    go_ret2
    exact ⟨ret_pair (rgt_bits b hb) rfl, rfl⟩


end Go.Proofs.Ytbnpjmmgnijjlaa
