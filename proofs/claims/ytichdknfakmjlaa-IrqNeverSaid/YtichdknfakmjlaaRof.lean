/-
  gannetref01.Power, gannetref01.Of.
-/
import Derived.Test.YtichdknfakmjlaaCore
import Derived.WalkKit
import Derived.WalkLawsBesides
import Derived.WalkSpells
namespace Go.Proofs.Ytichdknfakmjlaa
open Go.RowKit Pl

theorem refPower_calls (k : Nat) (w : World) (hk : k ≤ 60) :
    Calls Try.prog 30 #[.int .i64 (k : Int)] w fun e w' => e = .returned (.int .i64 (pw k : Nat)) ∧ w = w' := by
  go_enter Try.func30, Try.ntmps30
  go_wp2
  go_loop [3, 4] (fun x i => ∃ j : Nat, j ≤ k ∧ x = .int .i64 ((pw j : Nat) : Int) ∧ i = .int .i64 (j : Int)) (fun _ i => k - (intOf i).toNat)
  case atStart => exact ⟨0, Nat.zero_le _, rfl, rfl⟩
  case round =>
    obtain ⟨j, hj, rfl, rfl⟩ := hrel
    have hle := pw_le j (by omega)
    by_cases hlt : j < k
    · go_wp2
      go_round
      case rel => exact ⟨j + 1, by omega, by rw [pw_succ]; simp, by go_num⟩
      case measure => simp [intOf]; omega
    · obtain rfl : j = k := by omega
      go_wp2
      go_ret
      exact ⟨rfl, rfl⟩

theorem cell8 {w : World} {t : TypeId} (f : Nat → Bool) (j : Nat) (hj : j < 8) :
    (w.alloc (.cells #[.bool (f 0), .bool (f 1), .bool (f 2), .bool (f 3), .bool (f 4), .bool (f 5), .bool (f 6), .bool (f 7)] t)).cell? ⟨w.heap.size, j, none⟩ = some (.bool (f j)) := by
  match j, hj with
  | 0, _ | 1, _ | 2, _ | 3, _ | 4, _ | 5, _ | 6, _ | 7, _ => simp [World.cell?_alloc_new]

theorem refOf_exact (f : Nat → Bool) (w : World) :
    Calls Try.prog 28 #[.agg #[.bool (f 0), .bool (f 1), .bool (f 2), .bool (f 3), .bool (f 4), .bool (f 5), .bool (f 6), .bool (f 7)]] w
      fun e w' => e = .returned (.int .u8 (ofB f : Nat)) ∧ w.alloc (.cells #[.bool (f 0), .bool (f 1), .bool (f 2), .bool (f 3), .bool (f 4), .bool (f 5), .bool (f 6), .bool (f 7)] 50) = w' := by
  go_enter Try.func28, Try.ntmps28
  go_wp2
  go_loop [3, 4] (fun x i => ∃ j : Nat, j ≤ 8 ∧ x = .int .i64 ((psum f j : Nat) : Int) ∧ i = .int .i64 (j : Int)) (fun _ i => 8 - (intOf i).toNat)
  case atStart => exact ⟨0, Nat.zero_le _, rfl, rfl⟩
  case round =>
    obtain ⟨j, hj, rfl, rfl⟩ := hrel
    have hlt' := psum_lt f j
    have hp8 : 2 ^ j ≤ 2 ^ 8 := Nat.pow_le_pow_right (by omega) hj
    have hpl := pw_le j (by omega)
    by_cases hlt : j < 8
    · have hcell := cell8 (w := w) (t := 50) f j hlt
      cases hf : f j
      · rw [hf] at hcell
        have Hf := hide hf; clear hf
        go_wp2
        go_round
        case rel => exact ⟨j + 1, by omega, by rw [psum_succ, Hf.out]; simp, by go_num⟩
        case measure => simp [intOf]; omega
      · rw [hf] at hcell
        have Hf := hide hf; clear hf
        go_wp2_with (go_at_call 30; refine (refPower_calls _ _ (by omega)).mono ?_; rintro e w' ⟨rfl, rfl⟩)
        go_round
        case rel => exact ⟨j + 1, by omega, by rw [psum_succ, Hf.out]; simp, by go_num⟩
        case measure => simp [intOf]; omega
    · obtain rfl : j = 8 := by omega
      go_wp2
      go_ret
      exact ⟨ret_int (by rw [psum_8]), rfl⟩

theorem refOf_calls (f : Nat → Bool) (w : World) :
    Calls Try.prog 28 #[.agg #[.bool (f 0), .bool (f 1), .bool (f 2), .bool (f 3), .bool (f 4), .bool (f 5), .bool (f 6), .bool (f 7)]] w
      fun e w' => e = .returned (.int .u8 (ofB f : Nat)) ∧ Below w.heap.size w w' :=
  (refOf_exact f w).mono fun _ _ ⟨he, hw⟩ => ⟨he, by subst hw; exact (Below.refl _ _).alloc (Nat.le_refl _) _⟩
end Go.Proofs.Ytichdknfakmjlaa
