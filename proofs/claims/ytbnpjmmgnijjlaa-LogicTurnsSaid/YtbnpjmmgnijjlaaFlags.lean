/-
  Package flags: Is, Set, Result, Goes, Begun, Pulled, Of, Byte, Pushed, Entered.
-/
import Derived.Test.YtbnpjmmgnijjlaaCore
import Derived.Test.YtbnpjmmgnijjlaaArr
namespace Go.Proofs.Ytbnpjmmgnijjlaa
open Go.RowKit Pl

theorem flIs_calls (p f : Nat) (w : World) (hp : p < 256) (hf : f < 256) :
    Calls Try.prog 34 #[.int .u8 (p : Int), .int .u8 (f : Int)] w fun e w' => e = .returned (.bool (fis p f)) ∧ w = w' := by
  go_enter Try.func34, Try.ntmps34
  go_wp2
  go_ret
  exact ⟨ret_bool (by rw [u8_and_nat p f hp hf, natCast_bne]; rfl), rfl⟩

theorem flSet_calls (p f : Nat) (on : Bool) (w : World) (hp : p < 256) (hf : f < 256) :
    Calls Try.prog 46 #[.int .u8 (p : Int), .int .u8 (f : Int), .bool on] w fun e w' => e = .returned (.int .u8 (fset p f on : Nat)) ∧ w = w' := by
  cases on
  · go_enter Try.func46, Try.ntmps46
    go_wp2
    go_ret
    exact ⟨ret_int (by rw [u8_andNot_nat p f hp hf]; rfl), rfl⟩
  · go_enter Try.func46, Try.ntmps46
    go_wp2
    go_ret
    exact ⟨ret_int (by rw [u8_or_nat p f hp hf]; rfl), rfl⟩


theorem flResult_calls (p v : Nat) (w : World) (hp : p < 256) (hv : v < 256) :
    Calls Try.prog 43 #[.int .u8 (p : Int), .int .u8 (v : Int)] w fun e w' => e = .returned (.int .u8 (fres p v : Nat)) ∧ w = w' := by
  have h1 : fset p 128 (fis v 128) < 256 := fset_lt hp (by omega)
  go_enter Try.func43, Try.ntmps43
  go_wp2_with fail
  refine (flIs_calls v 128 _ hv (by omega)).mono ?_
  rintro e w' ⟨rfl, rfl⟩
  go_wp2_with fail
  refine (flSet_calls p 128 _ _ hp (by omega)).mono ?_
  rintro e w' ⟨rfl, rfl⟩
  go_wp2_with fail
  refine (flSet_calls _ 2 _ _ h1 (by omega)).mono ?_
  rintro e w' ⟨rfl, rfl⟩
  go_wp2_with fail
  go_ret
  exact ⟨ret_int (by unfold fres; rw [natCast_beq]), rfl⟩



theorem flOf_calls (p : Nat) (w : World) (hp : p < 256) :
    Calls Try.prog 33 #[.int .u8 (p : Int)] w fun e w' => e = .returned (.agg (bools (flagsOf p))) ∧ Below w.heap.size w w' := by
  go_enter Try.func33, Try.ntmps33
  go_wp2_with fail
  refine (flIs_calls p 128 _ hp (by omega)).mono ?_
  rintro e w' ⟨rfl, rfl⟩
  go_wp2_with fail
  refine (flIs_calls p 64 _ hp (by omega)).mono ?_
  rintro e w' ⟨rfl, rfl⟩
  go_wp2_with fail
  refine (flIs_calls p 32 _ hp (by omega)).mono ?_
  rintro e w' ⟨rfl, rfl⟩
  go_wp2_with fail
  refine (flIs_calls p 16 _ hp (by omega)).mono ?_
  rintro e w' ⟨rfl, rfl⟩
  go_wp2_with fail
  refine (flIs_calls p 8 _ hp (by omega)).mono ?_
  rintro e w' ⟨rfl, rfl⟩
  go_wp2_with fail
  refine (flIs_calls p 4 _ hp (by omega)).mono ?_
  rintro e w' ⟨rfl, rfl⟩
  go_wp2_with fail
  refine (flIs_calls p 2 _ hp (by omega)).mono ?_
  rintro e w' ⟨rfl, rfl⟩
  go_wp2_with fail
  refine (flIs_calls p 1 _ hp (by omega)).mono ?_
  rintro e w' ⟨rfl, rfl⟩
  go_wp2_with fail
  exact bodyPost_ret (results_cell_row rfl _ _ w.heap.size 41 (bools (flagsOf p)) (0, 0) _ rfl (heap_alloc_new w _) Try.underlying41 rfl (by kernel_rfl)) rfl ⟨rfl, (Below.refl _ _).alloc (Nat.le_refl _) _⟩

theorem flByte_calls (g : Nat → Bool) (w : World) :
    Calls Try.prog 35 #[.agg (bools g)] w fun e w' => e = .returned (.int .u8 (ofB (fun i => g (7 - i)) : Nat)) ∧ Below w.heap.size w w' := by
  have hix : ∀ (j : Nat), j < 8 → ∀ w : World, (Instr.index 38 (.agg #[.bool (g 7), .bool (g 6), .bool (g 5), .bool (g 4), .bool (g 3), .bool (g 2), .bool (g 1), .bool (g 0)]) (.int .i64 (j : Int))).run Try.prog w = .ok (.bool (g (7 - j))) w :=
    fun j hj w => run_index_row 38 4 8 Try.underlying38 (fun _ => by kernel_rfl) (fun _ => by kernel_rfl) _ _ j hj _ (bools_get (fun i => g (7 - i)) j hj) w
  unfold bools
  go_enter Try.func35, Try.ntmps35
  go_wp2_with fail
  go_loopw [3, 23] (fun x i wr => ∃ k : Nat, k ≤ 8 ∧ x = .int .u8 ((psum (fun i => g (7 - i)) k : Nat) : Int) ∧ i = .int .i64 (k : Int) ∧ Below w.heap.size w wr) (fun _ i _ => 8 - (intOf i).toNat)
  case atStart => exact ⟨0, Nat.zero_le _, rfl, rfl, (Below.refl _ _).alloc (Nat.le_refl _) _⟩
  case round =>
    obtain ⟨k, hk, rfl, rfl, hbel⟩ := hrel
    by_cases hlt : k < 8
    · have hix' := hix k hlt
      clear hix
      go_wp2_with fail
      rw [pow_mod k (by omega)]
      refine (flSet_calls _ (2 ^ k) _ _ (psum_256 _ k hk) (pw_lt k hlt)).mono ?_
      rintro e w' ⟨rfl, rfl⟩
      rw [fset_psum (fun i => g (7 - i)) k hlt]
      go_wp2_with fail
      go_roundw
      case rel => exact ⟨k + 1, by omega, rfl, by go_num, hbel⟩
      case measure => simp [intOf]; omega
    · obtain rfl : k = 8 := by omega
      go_wp2_with fail
      go_ret
      exact ⟨ret_int (by rw [psum_8]), hbel⟩
end Go.Proofs.Ytbnpjmmgnijjlaa
