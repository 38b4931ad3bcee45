/-
  gannetref01.Bit.
-/
import Derived.Test.YtelmkpcocaogjaaDoorCore
import Derived.WalkKit
import Derived.WalkLawsBesides
import Derived.WalkSpells
namespace Go.Proofs.YtelmkpcocaogjaaDoor
open Go.RowKit Pl

theorem refBit_calls (b : Nat) (n : Int) (w : World) (_hb : b < 256) :
    Calls Tryd.prog 66 #[.int .u8 (b : Int), .int .i64 n] w fun e w' => e = .returned (.bool (tb b n)) ∧ w = w' := by
  by_cases h1 : n < 0
  · go_enter Tryd.func66, Tryd.ntmps66
    go_wp2
    go_ret
    exact ⟨ret_bool (tb_neg b n (by omega)).symm, rfl⟩
  · by_cases h2 : 7 < n
    · go_enter Tryd.func66, Tryd.ntmps66
      go_wp2
      go_ret
      exact ⟨ret_bool (tb_neg b n (by omega)).symm, rfl⟩
    · obtain ⟨m, rfl⟩ := Int.eq_ofNat_of_zero_le (show 0 ≤ n by omega)
      have hm : m ≤ 7 := by omega
      have H := hm
      go_enter Tryd.func66, Tryd.ntmps66
      go_wp2
      go_loop [5, 6] (fun x i => ∃ k : Nat, k ≤ m ∧ x = .int .i64 ((dv b k : Nat) : Int) ∧ i = .int .i64 (k : Int)) (fun _ i => m - (intOf i).toNat)
      case atStart => exact ⟨0, Nat.zero_le _, by rw [dv_zero], rfl⟩
      case round =>
        obtain ⟨k, hk, rfl, rfl⟩ := hrel
        have hle := dv_le b k
        by_cases hlt : k < m
        · go_wp2
          go_round
          case rel => exact ⟨k + 1, by omega, by rw [dv_succ]; simp, by go_num⟩
          case measure => simp [intOf]; omega
        · obtain rfl : k = m := by omega
          go_wp2
          go_ret
          exact ⟨ret_bool (dv_bit b k hm), rfl⟩
end Go.Proofs.YtelmkpcocaogjaaDoor
