/-
  Package octet: With, Lo, Hi, Word, Signed, Left, Right.
-/
import Derived.Test.YtmglaoaakfkaiaaObit
import Derived.Test.YtmglaoaakfkaiaaBoct
namespace Go.Proofs.Ytmglaoaakfkaiaa
open Go.RowKit Pl

theorem octWith_calls (b : Nat) (n : Int) (on : Bool) (w : World) (hb : b < 256) :
    Calls Try.prog 10 #[.int .u8 (b : Int), .int .i64 n, .bool on] w fun e w' => e = .returned (.int .u8 (wth b n on : Nat)) ∧ w = w' := by
  have hm := msk_lt n
  cases on
  · go_enter Try.func10, Try.ntmps10
    go_wp2_with fail
    refine (octMask_calls n _).mono ?_
    rintro e w' ⟨rfl, rfl⟩
    go_wp2_with fail
    go_ret
    exact ⟨ret_int (by rw [u8_andNot_nat b _ hb hm]; rfl), rfl⟩
  · go_enter Try.func10, Try.ntmps10
    go_wp2_with fail
    refine (octMask_calls n _).mono ?_
    rintro e w' ⟨rfl, rfl⟩
    go_wp2_with fail
    go_ret
    exact ⟨ret_int (by rw [u8_or_nat b _ hb hm]; rfl), rfl⟩

theorem octLo_calls (x : Nat) (w : World) (_hx : x < 65536) :
    Calls Try.prog 15 #[.int .u16 (x : Int)] w fun e w' => e = .returned (.int .u8 ((x % 256 : Nat) : Int)) ∧ w = w' := by
  go_enter Try.func15, Try.ntmps15
  go_wp2
  go_ret
  exact ⟨ret_int (by first | rfl | (rw [IntKind.wrap_u8]; omega) | omega), rfl⟩

theorem octHi_calls (x : Nat) (w : World) (_hx : x < 65536) :
    Calls Try.prog 16 #[.int .u16 (x : Int)] w fun e w' => e = .returned (.int .u8 ((x / 256 : Nat) : Int)) ∧ w = w' := by
  go_enter Try.func16, Try.ntmps16
  go_wp2
  go_ret
  exact ⟨ret_int (by first | rfl | (rw [IntKind.wrap_u8]; omega) | omega), rfl⟩

theorem octWord_calls (lo hi : Nat) (w : World) (_hl : lo < 256) (_hh : hi < 256) :
    Calls Try.prog 14 #[.int .u8 (lo : Int), .int .u8 (hi : Int)] w fun e w' => e = .returned (.int .u16 ((lo + 256 * hi : Nat) : Int)) ∧ w = w' := by
  have h16 : bits .or .u16 ((256 * hi : Nat) : Int) (lo : Int) = ((lo + 256 * hi : Nat) : Int) := by
    rw [u16_or_nat _ _ (by omega) (by omega)]
    have := Nat.two_pow_add_eq_or_of_lt (i := 8) (b := lo) (by omega) hi
    rw [show 2 ^ 8 * hi = 256 * hi from rfl] at this
    rw [← this]
    omega
  go_enter Try.func14, Try.ntmps14
  go_wp2
  go_ret
  exact ⟨ret_int (by rw [← h16]; congr 1; omega), rfl⟩

theorem sgn_wrap_all : ∀ b : Nat, b < 256 → wrap64 (IntKind.i8.wrap (b : Int)) = sgn b := by decide +kernel
theorem sgn_wrap (b : Nat) (hb : b < 256) : wrap64 (IntKind.i8.wrap (b : Int)) = sgn b := sgn_wrap_all b hb
theorem octSigned_calls (b : Nat) (w : World) (_hb : b < 256) :
    Calls Try.prog 17 #[.int .u8 (b : Int)] w fun e w' => e = .returned (.int .i64 (sgn b)) ∧ w = w' := by
  go_enter Try.func17, Try.ntmps17
  go_wp2
  go_ret
  exact ⟨ret_int (sgn_wrap b _hb), rfl⟩

theorem ret_pair {k : IntKind} {a a' : Int} {x x' : Bool} (h : a = a') (hx : x = x') : Ending.returned (.tuple #[.int k a, .bool x]) = .returned (.tuple #[.int k a', .bool x']) := by rw [h, hx]
theorem lft_bits (b : Nat) : bits .or .u8 ((b : Int) * 2 % 256) 1 = (lft b true : Nat) := by
  have h := u8_or_nat (2 * b % 256) 1 (by omega) (by omega)
  rw [lft_or] at h
  rw [← h]
  congr 1
  omega
theorem rgt_bits (b : Nat) (hb : b < 256) : bits .or .u8 ((b : Int) / 2) (msk 7 : Nat) = (rgt b true : Nat) := by
  have h := u8_or_nat (b / 2) 128 (by omega) (by omega)
  rw [rgt_or b hb] at h
  rw [← h]
  congr 1

theorem octLeft_calls (b : Nat) (i : Bool) (w : World) (hb : b < 256) :
    Calls Try.prog 19 #[.int .u8 (b : Int), .bool i] w fun e w' => e = .returned (.tuple #[.int .u8 (lft b i : Nat), .bool (tb b 7)]) ∧ w = w' := by
  cases i
  · go_enter Try.func19, Try.ntmps19
    go_wp2_with fail
    refine (octBit_calls b 7 _ hb).mono ?_
    rintro e w' ⟨rfl, rfl⟩
    go_wp2_with fail
    go_ret2
    exact ⟨ret_pair (by unfold lft; simp; omega) rfl, rfl⟩
  · go_enter Try.func19, Try.ntmps19
    go_wp2_with fail
    refine (octBit_calls b 7 _ hb).mono ?_
    rintro e w' ⟨rfl, rfl⟩
    go_wp2_with fail
    go_ret2
    exact ⟨ret_pair (lft_bits b) rfl, rfl⟩

theorem octRight_calls (b : Nat) (i : Bool) (w : World) (hb : b < 256) :
    Calls Try.prog 20 #[.int .u8 (b : Int), .bool i] w fun e w' => e = .returned (.tuple #[.int .u8 (rgt b i : Nat), .bool (tb b 0)]) ∧ w = w' := by
  cases i
  · go_enter Try.func20, Try.ntmps20
    go_wp2_with fail
    refine (octBit_calls b 0 _ hb).mono ?_
    rintro e w' ⟨rfl, rfl⟩
    go_wp2_with fail
    go_ret2
    exact ⟨ret_pair (by unfold rgt; simp) rfl, rfl⟩
  · go_enter Try.func20, Try.ntmps20
    go_wp2_with fail
    refine (octMask_calls 7 _).mono ?_
    rintro e w' ⟨rfl, rfl⟩
    go_wp2_with fail
    refine (octBit_calls b 0 _ hb).mono ?_
    rintro e w' ⟨rfl, rfl⟩
    go_wp2_with fail
    go_ret2
    exact ⟨ret_pair (rgt_bits b hb) rfl, rfl⟩

theorem octCount_calls (b : Nat) (w : World) (hb : b < 256) :
    Calls Try.prog 23 #[.int .u8 (b : Int)] w fun e w' => e = .returned (.int .i64 (cnt b : Nat)) ∧ w = w' := by
  go_enter Try.func23, Try.ntmps23
  go_wp2_with fail
  go_loop [0, 3] (fun x n => ∃ (c m : Nat), c < 256 ∧ x = .int .u8 (c : Int) ∧ n = .int .i64 (m : Int) ∧ m ≤ 8 ∧ m + cnt c = cnt b) (fun x _ => cnt (intOf x).toNat)
  case atStart => exact ⟨b, 0, hb, rfl, rfl, by omega, by omega⟩
  case round =>
    obtain ⟨c, m, hc, rfl, rfl, hm, he⟩ := hrel
    have He := hide he; clear he
    have hbl := cnt_le b
    by_cases hz : c = 0
    · subst hz
      have he := He.out
      rw [cnt_zero] at he
      obtain rfl : m = cnt b := by omega
      clear he
      go_wp2_with fail
      go_ret
      exact ⟨rfl, rfl⟩
    · have hst := cnt_step c hc hz
      have Hst := hide hst; clear hst
      have hz' : ((c : Int) != 0) = true := by simp; omega
      have hm8 : m < 8 := by have := Hst.out; have := He.out; omega
      go_wp2_with fail
      have hand : bits .and .u8 (c : Int) ((c : Int) - 1) = ((c &&& (c - 1) : Nat) : Int) := by
        have h := u8_and_nat c (c - 1) hc (by omega)
        rw [← h]
        congr 1
        omega
      have hcl : c &&& (c - 1) < 256 := and_lt (by omega)
      rw [hand]
      go_round
      case rel => exact ⟨c &&& (c - 1), m + 1, hcl, rfl, by go_num, by omega, by have := Hst.out; have := He.out; omega⟩
      case measure => simp [intOf]; have := Hst.out; omega

theorem octFirst_calls (b : Nat) (w : World) (hb : b < 256) :
    Calls Try.prog 24 #[.int .u8 (b : Int)] w fun e w' => e = .returned (.int .i64 (fst b)) ∧ w = w' := by
  go_enter Try.func24, Try.ntmps24
  go_wp2_with fail
  go_loop [4] (fun i => ∃ k : Nat, k ≤ 8 ∧ i = .int .i64 (k : Int) ∧ fst b = fstFrom b k (8 - k)) (fun i => 8 - (intOf i).toNat)
  case atStart => exact ⟨0, by omega, rfl, rfl⟩
  case round =>
    obtain ⟨k, hk, rfl, he⟩ := hrel
    have He := hide he; clear he
    by_cases hlt : k < 8
    · have hlt' : (k : Int) < 8 := by omega
      have h8 : 8 - k = (8 - (k + 1)) + 1 := by omega
      cases hb7 : tb b (k : Int)
      · have hn : fst b = fstFrom b (k + 1) (8 - (k + 1)) := by rw [He.out, h8, fstFrom, if_neg (by rw [← tb_nat b k (by omega), hb7]; simp)]
        have Hn := hide hn; clear hn h8
        go_wp2_with (go_at_call 12; refine (octBit_calls _ _ _ (by assumption)).mono ?_; rintro e w' ⟨rfl, rfl⟩)
        go_round
        case rel => exact ⟨k + 1, by omega, by go_num, Hn.out⟩
        case measure => simp [intOf]; omega
      · have hn : fst b = (k : Int) := by rw [He.out, h8, fstFrom, if_pos (by rw [← tb_nat b k (by omega), hb7])]
        have Hn := hide hn; clear hn h8
        go_wp2_with (go_at_call 12; refine (octBit_calls _ _ _ (by assumption)).mono ?_; rintro e w' ⟨rfl, rfl⟩)
        go_ret
        exact ⟨ret_int Hn.out.symm, rfl⟩
    · obtain rfl : k = 8 := by omega
      go_wp2_with fail
      go_ret
      exact ⟨ret_int He.out.symm, rfl⟩
end Go.Proofs.Ytmglaoaakfkaiaa
