/-
  gannetref01: Bits, With.
-/
import Derived.Test.YtnjnhfkfpahniaaRbit
import Derived.Test.YtnjnhfkfpahniaaRof
import Derived.Test.YtnjnhfkfpahniaaArr
namespace Go.Proofs.Ytnjnhfkfpahniaa
open Go.RowKit Pl

def bitsK (b k : Nat) : Nat → Bool := fun i => if i < k then tb b (i : Int) else false
theorem bitsK_succ (b k : Nat) : ∀ i, i < 8 → upd (bitsK b k) k (tb b (k : Int)) i = bitsK b (k + 1) i := by
  intro i _
  unfold upd bitsK
  by_cases e : i = k
  · subst e; simp
  · rw [if_neg e]
    by_cases h1 : i < k
    · rw [if_pos h1, if_pos (by omega)]
    · rw [if_neg h1, if_neg (by omega)]
def bitsOf (b : Nat) : Nat → Bool := fun i => tb b (i : Int)
theorem bitsK_all (b : Nat) : bools (bitsK b 8) = bools (bitsOf b) := bools_congr fun i hi => by unfold bitsK bitsOf; rw [if_pos hi]

theorem refBits_calls (b : Nat) (w : World) (hb : b < 256) :
    Calls Try.prog 39 #[.int .u8 (b : Int)] w
      fun e w' => e = .returned (.agg (bools (bitsOf b))) ∧ Below w.heap.size w w' := by
  go_enter Try.func39, Try.ntmps39
  go_wp2
  go_loopw [4] (fun i wr => ∃ k : Nat, k ≤ 8 ∧ i = .int .i64 (k : Int) ∧ wr = (w.alloc (.cells (bools fun _ => false) 57)).alloc (.cells (bools (bitsK b k)) 57)) (fun i _ => 8 - (intOf i).toNat)
  case atStart => exact ⟨0, Nat.zero_le _, rfl, rfl⟩
  case round =>
    obtain ⟨k, hk, rfl, rfl⟩ := hrel
    by_cases hlt : k < 8
    · have hg := bools_get (bitsK b k) k hlt
      have hs := fun x => bools_set (bitsK b k) k x hlt
      have e1 := bools_congr (bitsK_succ b k)
      have E1 := hide e1; clear e1
      go_wp2_with (go_at_call 33; refine (refBit_calls _ _ _ (by assumption)).mono ?_; rintro e w' ⟨rfl, rfl⟩)
      go_roundw
      case rel => exact ⟨k + 1, by omega, by go_num, by rw [← E1.out]⟩
      case measure => simp [intOf]; omega
    · obtain rfl : k = 8 := by omega
      have h1 : Blk ((w.alloc (.cells (bools fun _ => false) 57)).alloc (.cells (bools (bitsK b 8)) 57)) (w.heap.size + 1) 57 (bools (bitsK b 8)) := heap_alloc2_new w _ _
      have h0 : Blk ((w.alloc (.cells (bools fun _ => false) 57)).alloc (.cells (bools (bitsK b 8)) 57)) w.heap.size 57 (bools fun _ => false) := heap_alloc2_old w _ _
      have hb2 : Below w.heap.size w ((w.alloc (.cells (bools fun _ => false) 57)).alloc (.cells (bools (bitsK b 8)) 57)) := ((Below.refl _ _).alloc (Nat.le_refl _) _).alloc (by simp) _
      generalize (w.alloc _).alloc _ = wx at h1 h0 hb2 ⊢
      go_wp2_with (first
        | (refine wpList_load_row rfl 57 _ rfl (w.heap.size + 1) rfl 57 _ (0, 0) _ h1 Try.underlying57 rfl (by kernel_rfl) ?_)
        | (refine wpList_store_row rfl 57 _ _ rfl w.heap.size (bools (bitsK b 8)) rfl rfl 57 _ h0 (by kernel_rfl) rfl (by kernel_rfl) ?_))
      refine bodyPost_ret (results_cell_row rfl _ _ w.heap.size 57 (bools (bitsK b 8)) (0, 0) _ rfl (setRow_heap _ _ _ _ _ _ h0) Try.underlying57 rfl (by kernel_rfl)) rfl ⟨by rw [bitsK_all], ?_⟩
      exact below_setRow hb2 (Nat.le_refl _) _

theorem refWith_calls (b : Nat) (n : Int) (on : Bool) (w : World) (hb : b < 256) :
    Calls Try.prog 36 #[.int .u8 (b : Int), .int .i64 n, .bool on] w
      fun e w' => e = .returned (.int .u8 (wth b n on : Nat)) ∧ Below w.heap.size w w' := by
  by_cases h1 : n < 0
  · go_enter Try.func36, Try.ntmps36
    go_wp2
    go_ret
    exact ⟨ret_int (by rw [wth_out b n on (by omega)]), Below.refl _ _⟩
  · by_cases h2 : 7 < n
    · go_enter Try.func36, Try.ntmps36
      go_wp2
      go_ret
      exact ⟨ret_int (by rw [wth_out b n on (by omega)]), Below.refl _ _⟩
    · obtain ⟨k, rfl⟩ := Int.eq_ofNat_of_zero_le (show 0 ≤ n by omega)
      have hk : k < 8 := by omega
      have hg := bools_get (bitsOf b) k hk
      have hs := bools_set (bitsOf b) k on hk
      go_enter Try.func36, Try.ntmps36
      go_wp2_with fail
      refine (refBits_calls b _ hb).mono ?_
      rintro e w1 ⟨rfl, hb1⟩
      have hz : Blk (w1.alloc (.cells (bools fun _ => false) 57)) w1.heap.size 57 (bools fun _ => false) := Blk.new _ _ _
      go_wp2_with (first
        | (refine wpList_store_row rfl 57 _ _ rfl w1.heap.size (bools (bitsOf b)) rfl rfl 57 _ hz (by kernel_rfl) rfl (by kernel_rfl) ?_; rw [setRow_new])
        | (refine wpList_load_row rfl 57 _ rfl w1.heap.size rfl 57 _ (0, 0) _ (heap_alloc_new w1 _) Try.underlying57 rfl (by kernel_rfl) ?_)
        | (go_at_call 40; refine (refOf_calls _ _).mono ?_; rintro e w' ⟨rfl, hb2⟩))
      go_ret
      exact ⟨ret_int (congrArg (Nat.cast (R := Int)) (wth_of b k on hb hk)), (hb1.alloc hb1.size _).trans (hb2.mono (by have := hb1.size; simp; omega))⟩
end Go.Proofs.Ytnjnhfkfpahniaa
