/-
  Contracts of the small functions on bits: gannetref01.Bit, Power, Of; octet.mask, Bit.
-/
import Derived.Test.YtmolpamgpfifhaaChecked
import Derived.Test.YtmolpamgpfifhaaBits
import Derived.WalkKit
import Derived.WalkLawsBesides
import Derived.WalkSpells
namespace Go.Proofs.Ytmolpamgpfifhaa
open Go.RowKit Pl

theorem hide {p : Prop} (h : p) : Hid p := h
theorem ret_bool {a b : Bool} (h : a = b) : Ending.returned (.bool a) = .returned (.bool b) := by rw [h]
theorem ret_int {k : IntKind} {a b : Int} (h : a = b) : Ending.returned (.int k a) = .returned (.int k b) := by rw [h]

theorem pow_mod (m : Nat) (h : m ≤ 7) : (2 : Int) ^ m % 256 = ((2 ^ m : Nat) : Int) := by
  match m, h with
  | 0, _ | 1, _ | 2, _ | 3, _ | 4, _ | 5, _ | 6, _ | 7, _ => decide
theorem natCast_bne (a : Nat) : ((a : Int) != 0) = (a != 0) := by
  cases a with
  | zero => rfl
  | succ n => rfl

theorem refBit_calls (b : Nat) (n : Int) (w : World) (_hb : b < 256) :
    Calls Try.prog 13 #[.int .u8 (b : Int), .int .i64 n] w fun e w' => e = .returned (.bool (tb b n)) ∧ w = w' := by
  by_cases h1 : n < 0
  · go_enter Try.func13, Try.ntmps13
    go_wp2
    go_ret
    exact ⟨ret_bool (tb_neg b n (by omega)).symm, rfl⟩
  · by_cases h2 : 7 < n
    · go_enter Try.func13, Try.ntmps13
      go_wp2
      go_ret
      exact ⟨ret_bool (tb_neg b n (by omega)).symm, rfl⟩
    · obtain ⟨m, rfl⟩ := Int.eq_ofNat_of_zero_le (show 0 ≤ n by omega)
      have hm : m ≤ 7 := by omega
      have H := hm
      go_enter Try.func13, Try.ntmps13
      go_wp2
      go_loop [5, 6] (fun x i => ∃ k : Nat, k ≤ m ∧ x = .int .i64 ((dv b k : Nat) : Int) ∧ i = .int .i64 (k : Int)) (fun _ i => m - (intOf i).toNat)
      case atStart => exact ⟨0, Nat.zero_le _, by rw [dv_zero], rfl⟩
      case round =>
        obtain ⟨k, hk, rfl, rfl⟩ := hrel
        have hle := dv_le b k
        by_cases hlt : k < m
        · go_wp2
          go_round
          case rel => exact ⟨k + 1, by omega, by rw [dv_succ]; simp, by go_num⟩
          case measure => simp [intOf]; omega
        · obtain rfl : k = m := by omega
          go_wp2
          go_ret
          exact ⟨ret_bool (dv_bit b k hm), rfl⟩

theorem octMask_calls (n : Int) (w : World) :
    Calls Try.prog 18 #[.int .i64 n] w fun e w' => e = .returned (.int .u8 (msk n : Nat)) ∧ w = w' := by
  by_cases h1 : n < 0
  · go_enter Try.func18, Try.ntmps18
    go_wp2
    go_ret
    exact ⟨ret_int (by rw [msk_out n (by omega)]; rfl), rfl⟩
  · by_cases h2 : 8 ≤ n
    · go_enter Try.func18, Try.ntmps18
      go_wp2
      go_ret
      exact ⟨ret_int (by rw [msk_out n (by omega)]; rfl), rfl⟩
    · obtain ⟨m, rfl⟩ := Int.eq_ofNat_of_zero_le (show 0 ≤ n by omega)
      have hm : m ≤ 7 := by omega
      go_enter Try.func18, Try.ntmps18
      go_wp2
      go_ret
      refine ⟨ret_int ?_, rfl⟩
      rw [msk_nat m hm]
      exact pow_mod m hm

theorem octBit_calls (b : Nat) (n : Int) (w : World) (hb : b < 256) :
    Calls Try.prog 16 #[.int .u8 (b : Int), .int .i64 n] w fun e w' => e = .returned (.bool (tb b n)) ∧ w = w' := by
  have hm := msk_lt n
  go_enter Try.func16, Try.ntmps16
  go_wp2_with (go_at_call 18; refine (octMask_calls _ _).mono ?_; rintro e w' ⟨rfl, rfl⟩)
  go_ret
  exact ⟨ret_bool (by rw [u8_and_nat b _ hb hm, ← and_msk, natCast_bne]), rfl⟩

theorem refPower_calls (k : Nat) (w : World) (hk : k ≤ 60) :
    Calls Try.prog 17 #[.int .i64 (k : Int)] w fun e w' => e = .returned (.int .i64 (pw k : Nat)) ∧ w = w' := by
  go_enter Try.func17, Try.ntmps17
  go_wp2
  go_loop [3, 4] (fun x i => ∃ j : Nat, j ≤ k ∧ x = .int .i64 ((pw j : Nat) : Int) ∧ i = .int .i64 (j : Int)) (fun _ i => k - (intOf i).toNat)
  case atStart => exact ⟨0, Nat.zero_le _, rfl, rfl⟩
  case round =>
    obtain ⟨j, hj, rfl, rfl⟩ := hrel
    have hle := pw_le j (by omega)
    by_cases hlt : j < k
    · go_wp2
      go_round
      case rel => exact ⟨j + 1, by omega, by rw [pw_succ]; simp, by go_num⟩
      case measure => simp [intOf]; omega
    · obtain rfl : j = k := by omega
      go_wp2
      go_ret
      exact ⟨rfl, rfl⟩

theorem cell8 {w : World} {t : TypeId} (f : Nat → Bool) (j : Nat) (hj : j < 8) :
    (w.alloc (.cells #[.bool (f 0), .bool (f 1), .bool (f 2), .bool (f 3), .bool (f 4), .bool (f 5), .bool (f 6), .bool (f 7)] t)).cell? ⟨w.heap.size, j, none⟩ = some (.bool (f j)) := by
  match j, hj with
  | 0, _ | 1, _ | 2, _ | 3, _ | 4, _ | 5, _ | 6, _ | 7, _ => simp [World.cell?_alloc_new]

theorem refOf_calls (f : Nat → Bool) (w : World) :
    Calls Try.prog 15 #[.agg #[.bool (f 0), .bool (f 1), .bool (f 2), .bool (f 3), .bool (f 4), .bool (f 5), .bool (f 6), .bool (f 7)]] w
      fun e w' => e = .returned (.int .u8 (ofB f : Nat)) ∧ Below w.heap.size w w' := by
  go_enter Try.func15, Try.ntmps15
  go_wp2
  go_loop [3, 4] (fun x i => ∃ j : Nat, j ≤ 8 ∧ x = .int .i64 ((psum f j : Nat) : Int) ∧ i = .int .i64 (j : Int)) (fun _ i => 8 - (intOf i).toNat)
  case atStart => exact ⟨0, Nat.zero_le _, rfl, rfl⟩
  case round =>
    obtain ⟨j, hj, rfl, rfl⟩ := hrel
    have hlt' := psum_lt f j
    have hp8 : 2 ^ j ≤ 2 ^ 8 := Nat.pow_le_pow_right (by omega) hj
    have hpl := pw_le j (by omega)
    by_cases hlt : j < 8
    · have hcell := cell8 (w := w) (t := 42) f j hlt
      cases hf : f j
      · rw [hf] at hcell
        have Hf := hide hf; clear hf
        go_wp2
        go_round
        case rel => exact ⟨j + 1, by omega, by rw [psum_succ, Hf.out]; simp, by go_num⟩
        case measure => simp [intOf]; omega
      · rw [hf] at hcell
        have Hf := hide hf; clear hf
        go_wp2_with (go_at_call 17; refine (refPower_calls _ _ (by omega)).mono ?_; rintro e w' ⟨rfl, rfl⟩)
        go_round
        case rel => exact ⟨j + 1, by omega, by rw [psum_succ, Hf.out]; simp, by go_num⟩
        case measure => simp [intOf]; omega
    · obtain rfl : j = 8 := by omega
      go_wp2
      go_ret
      exact ⟨ret_int (by rw [psum_8]), (Below.refl _ _).alloc (Nat.le_refl _) _⟩
end Go.Proofs.Ytmolpamgpfifhaa
