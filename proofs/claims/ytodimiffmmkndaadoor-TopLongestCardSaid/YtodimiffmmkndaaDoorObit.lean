/-
  octet.mask, octet.Bit.
-/
import Derived.Test.YtodimiffmmkndaaDoorCore
import Derived.WalkKit
import Derived.WalkLawsBesides
import Derived.WalkSpells
namespace Go.Proofs.YtodimiffmmkndaaDoor
set_option linter.unusedSimpArgs false
set_option linter.unusedVariables false
set_option maxRecDepth 10000
open Go.RowKit Pl

theorem octMask_calls (n : Int) (w : World) :
    Calls Tryd.prog 11 #[.int .i64 n] w fun e w' => e = .returned (.int .u8 (msk n : Nat)) ∧ w = w' := by
  by_cases h1 : n < 0
  · go_enter Tryd.func11, Tryd.ntmps11
    go_wp2
    go_ret
    exact ⟨ret_int (by rw [msk_out n (by omega)]; rfl), rfl⟩
  · by_cases h2 : 8 ≤ n
    · go_enter Tryd.func11, Tryd.ntmps11
      go_wp2
      go_ret
      exact ⟨ret_int (by rw [msk_out n (by omega)]; rfl), rfl⟩
    · obtain ⟨m, rfl⟩ := Int.eq_ofNat_of_zero_le (show 0 ≤ n by omega)
      have hm : m ≤ 7 := by omega
      go_enter Tryd.func11, Tryd.ntmps11
      go_wp2
      go_ret
      refine ⟨ret_int ?_, rfl⟩
      rw [msk_nat m hm]
      exact pow_mod m hm

theorem octBit_calls (b : Nat) (n : Int) (w : World) (hb : b < 256) :
    Calls Tryd.prog 4 #[.int .u8 (b : Int), .int .i64 n] w fun e w' => e = .returned (.bool (tb b n)) ∧ w = w' := by
  have hm := msk_lt n
  go_enter Tryd.func4, Tryd.ntmps4
  go_wp2_with (go_at_call 11; refine (octMask_calls _ _).mono ?_; rintro e w' ⟨rfl, rfl⟩)
  go_ret
  exact ⟨ret_bool (by rw [u8_and_nat b _ hb hm, ← and_msk, natCast_bne]), rfl⟩
end Go.Proofs.YtodimiffmmkndaaDoor
