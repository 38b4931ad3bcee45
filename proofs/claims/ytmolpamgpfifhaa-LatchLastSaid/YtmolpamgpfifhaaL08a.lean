/-
  gannetref08.Read.
-/
import Derived.Test.YtmolpamgpfifhaaCbit
import Derived.Test.YtmolpamgpfifhaaArr
namespace Go.Proofs.Ytmolpamgpfifhaa
open Go.RowKit Pl

theorem mixK_succ (h m b k : Nat) (hk : k < 8) : ∀ i, i < 8 → upd (mixK h m b k) k (mixBit h m b k) i = mixK h m b (k + 1) i := by
  intro i _
  unfold upd mixK
  by_cases e : i = k
  · subst e; simp
  · rw [if_neg e]
    by_cases h1 : i < k
    · rw [if_pos h1, if_pos (by omega)]
    · rw [if_neg h1, if_neg (by omega)]

theorem upd_upd (f : Nat → Bool) (k : Nat) (a b : Bool) : ∀ i, i < 8 → upd (upd f k a) k b i = upd f k b i := by
  intro i _
  unfold upd
  split <;> rfl

theorem refRead_calls (h m b : Nat) (w : World) (hh : h < 256) (hm : m < 256) (hb : b < 256) :
    Calls Try.prog 8 #[.int .u8 (h : Int), .int .u8 (m : Int), .int .u8 (b : Int)] w
      fun e w' => e = .returned (.int .u8 (mix h m b : Nat)) ∧ Below w.heap.size w w' := by
  go_enter Try.func8, Try.ntmps8
  go_wp2
  go_loopw [8] (fun i wr => ∃ k : Nat, k ≤ 8 ∧ i = .int .i64 (k : Int) ∧ wr = w.alloc (.cells (bools (mixK h m b k)) 42)) (fun i _ => 8 - (intOf i).toNat)
  case atStart => exact ⟨0, Nat.zero_le _, rfl, rfl⟩
  case round =>
    obtain ⟨k, hk, rfl, rfl⟩ := hrel
    by_cases hlt : k < 8
    · have hg := bools_get (mixK h m b k) k hlt
      have hs := fun x => bools_set (mixK h m b k) k x hlt
      have hg2 := fun x => bools_get (upd (mixK h m b k) k x) k hlt
      have hs2 := fun x y => bools_set (upd (mixK h m b k) k x) k y hlt
      have e1 := bools_congr (mixK_succ h m b k hlt)
      have E1 := hide e1; clear e1
      cases ht : tb m k
      · have e2 : mixBit h m b k = tb h k := by unfold mixBit; rw [ht]; rfl
        have E2 := hide e2; clear e2
        go_wp2_with (go_at_call 13; refine (refBit_calls _ _ _ (by assumption)).mono ?_; rintro e w' ⟨rfl, rfl⟩)
        go_roundw
        case rel => exact ⟨k + 1, by omega, by go_num, by rw [← E1.out, E2.out]⟩
        case measure => simp [intOf]; omega
      · have e2 : mixBit h m b k = tb b k := by unfold mixBit; rw [ht]; rfl
        have E2 := hide e2; clear e2
        go_wp2_with (go_at_call 13; refine (refBit_calls _ _ _ (by assumption)).mono ?_; rintro e w' ⟨rfl, rfl⟩)
        go_roundw
        case rel => exact ⟨k + 1, by omega, by go_num, by rw [← E1.out, E2.out, bools_congr (upd_upd _ _ _ _)]⟩
        case measure => simp [intOf]; omega
    · obtain rfl : k = 8 := by omega
      go_wp2_with (first
        | (refine wpList_load_row rfl 42 _ rfl w.heap.size rfl 42 _ (0, 0) _ (heap_alloc_new w _) Try.underlying42 rfl (by kernel_rfl) ?_)
        | (go_at_call 15; refine (refOf_calls _ _).mono ?_; rintro e w' ⟨rfl, hb1⟩))
      go_ret
      exact ⟨ret_int (by rw [mix_of hm hb]), ((Below.refl _ _).alloc (Nat.le_refl _) _).trans (hb1.mono (by simp))⟩
end Go.Proofs.Ytmolpamgpfifhaa
