/-
  gannetref01: Bits, With.
-/
import Derived.Test.YtichdknfakmjlaaRbit
import Derived.Test.YtichdknfakmjlaaRof
import Derived.Test.YtichdknfakmjlaaArr
namespace Go.Proofs.Ytichdknfakmjlaa
open Go.RowKit Pl

def bitsK (b k : Nat) : Nat → Bool := fun i => if i < k then tb b (i : Int) else false
theorem bitsK_succ (b k : Nat) : ∀ i, i < 8 → upd (bitsK b k) k (tb b (k : Int)) i = bitsK b (k + 1) i := by
  intro i _
  unfold upd bitsK
  by_cases e : i = k
  · subst e; simp
  · rw [if_neg e]
    by_cases h1 : i < k
    · rw [if_pos h1, if_pos (by omega)]
    · rw [if_neg h1, if_neg (by omega)]
def bitsOf (b : Nat) : Nat → Bool := fun i => tb b (i : Int)
theorem bitsK_all (b : Nat) : bools (bitsK b 8) = bools (bitsOf b) := bools_congr fun i hi => by unfold bitsK bitsOf; rw [if_pos hi]

theorem refBits_calls (b : Nat) (w : World) (hb : b < 256) :
    Calls Try.prog 21 #[.int .u8 (b : Int)] w
      fun e w' => e = .returned (.agg (bools (bitsOf b))) ∧ Below w.heap.size w w' := by
  go_enter Try.func21, Try.ntmps21
  go_wp2
  go_loopw [4] (fun i wr => ∃ k : Nat, k ≤ 8 ∧ i = .int .i64 (k : Int) ∧ wr = (w.alloc (.cells (bools fun _ => false) 50)).alloc (.cells (bools (bitsK b k)) 50)) (fun i _ => 8 - (intOf i).toNat)
  case atStart => exact ⟨0, Nat.zero_le _, rfl, rfl⟩
  case round =>
    obtain ⟨k, hk, rfl, rfl⟩ := hrel
    by_cases hlt : k < 8
    · have hg := bools_get (bitsK b k) k hlt
      have hs := fun x => bools_set (bitsK b k) k x hlt
      have e1 := bools_congr (bitsK_succ b k)
      have E1 := hide e1; clear e1
      go_wp2_with (go_at_call 13; refine (refBit_calls _ _ _ (by assumption)).mono ?_; rintro e w' ⟨rfl, rfl⟩)
      go_roundw
      case rel => exact ⟨k + 1, by omega, by go_num, by rw [← E1.out]⟩
      case measure => simp [intOf]; omega
    · obtain rfl : k = 8 := by omega
      have h1 : Blk ((w.alloc (.cells (bools fun _ => false) 50)).alloc (.cells (bools (bitsK b 8)) 50)) (w.heap.size + 1) 50 (bools (bitsK b 8)) := heap_alloc2_new w _ _
      have h0 : Blk ((w.alloc (.cells (bools fun _ => false) 50)).alloc (.cells (bools (bitsK b 8)) 50)) w.heap.size 50 (bools fun _ => false) := heap_alloc2_old w _ _
      have hb2 : Below w.heap.size w ((w.alloc (.cells (bools fun _ => false) 50)).alloc (.cells (bools (bitsK b 8)) 50)) := ((Below.refl _ _).alloc (Nat.le_refl _) _).alloc (by simp) _
      generalize (w.alloc _).alloc _ = wx at h1 h0 hb2 ⊢
      go_wp2_with (first
        | (refine wpList_load_row rfl 50 _ rfl (w.heap.size + 1) rfl 50 _ (0, 0) _ h1 Try.underlying50 rfl (by kernel_rfl) ?_)
        | (refine wpList_store_row rfl 50 _ _ rfl w.heap.size (bools (bitsK b 8)) rfl rfl 50 _ h0 (by kernel_rfl) rfl (by kernel_rfl) ?_))
      refine bodyPost_ret (results_cell_row rfl _ _ w.heap.size 50 (bools (bitsK b 8)) (0, 0) _ rfl (setRow_heap _ _ _ _ _ _ h0) Try.underlying50 rfl (by kernel_rfl)) rfl ⟨by rw [bitsK_all], ?_⟩
      exact below_setRow hb2 (Nat.le_refl _) _

end Go.Proofs.Ytichdknfakmjlaa
