/-
  Package flags: names, Text, Read; gannetref20.Text, Read.
-/
import Derived.Test.YtelmkpcocaogjaaDoorFlags2
import Derived.Test.YtelmkpcocaogjaaDoorBtxt
import Derived.Laws.IdiomStrings
namespace Go.Proofs.YtelmkpcocaogjaaDoor
open Go.RowKit Pl

def cells8 (f : Nat → UInt8) : Nat → Value := fun i => .int .u8 ((f i).toNat : Int)
theorem cells8_upd (p k : Nat) (h : txtC p k = 46) : ∀ i, i < 8 → updv (cells8 (txtK p k)) k (.int .u8 46) i = cells8 (txtK p (k + 1)) i := by
  intro i _
  unfold updv cells8 txtK
  by_cases e : i = k
  · subst e
    rw [if_pos rfl, if_pos (by omega), h]
    rfl
  · rw [if_neg e]
    by_cases h1 : i < k
    · rw [if_pos h1, if_pos (by omega)]
    · rw [if_neg h1, if_neg (by omega)]
theorem cells8_keep (p k : Nat) (h : txtC p k = letter k) : ∀ i, i < 8 → cells8 (txtK p k) i = cells8 (txtK p (k + 1)) i := by
  intro i _
  unfold cells8 txtK
  by_cases e : i = k
  · subst e
    rw [if_neg (by omega), if_pos (by omega), h]
  · by_cases h1 : i < k
    · rw [if_pos h1, if_pos (by omega)]
    · rw [if_neg h1, if_neg (by omega)]

theorem flNames_calls (w : World) :
    Calls Tryd.prog 47 #[] w fun e w' => e = .returned (.agg (arr 8 (cells8 letter))) ∧ Below w.heap.size w w' := by
  go_enter Tryd.func47, Tryd.ntmps47
  go_wp2_with fail
  exact bodyPost_ret (results_cell_row rfl _ _ w.heap.size 23 (arr 8 (cells8 letter)) (0, 0) _ rfl (heap_alloc_new w _) Tryd.underlying23 rfl (by kernel_rfl)) rfl ⟨rfl, (Below.refl _ _).alloc (Nat.le_refl _) _⟩

theorem flText_calls (p : Nat) (w : World) (hp : p < 256) :
    Calls Tryd.prog 24 #[.int .u8 (p : Int)] w fun e w' => e = .returned (.string ⟨(txt p).toArray⟩) ∧ Below w.heap.size w w' := by
  go_enter Tryd.func24, Tryd.ntmps24
  go_wp2_with fail
  refine (flNames_calls _).mono ?_
  rintro e w1 ⟨rfl, hb1⟩
  have hz : Blk (w1.alloc (.cells (arr 8 fun _ => .int .u8 0) 23)) w1.heap.size 23 (arr 8 fun _ => .int .u8 0) := Blk.new _ _ _
  go_wp2_with (refine wpList_store_row rfl 23 _ _ rfl w1.heap.size (arr 8 (cells8 letter)) rfl rfl 23 _ hz (by kernel_rfl) rfl (by kernel_rfl) ?_; rw [setRow_new])
  go_loopw [6] (fun i wr => ∃ k : Nat, k ≤ 8 ∧ i = .int .i64 (k : Int) ∧ wr = w1.alloc (.cells (arr 8 (cells8 (txtK p k))) 23)) (fun i _ => 8 - (intOf i).toNat)
  case atStart => exact ⟨0, Nat.zero_le _, rfl, rfl⟩
  case round =>
    obtain ⟨k, hk, rfl, rfl⟩ := hrel
    by_cases hlt : k < 8
    · have hk7 : (128 : Int) / 2 ^ k = ((2 ^ (7 - k) : Nat) : Int) := by
        match k, hlt with
        | 0, _ | 1, _ | 2, _ | 3, _ | 4, _ | 5, _ | 6, _ | 7, _ => decide
      have Hk7 := hide hk7; clear hk7
      have hg := arr_get 8 (cells8 (txtK p k)) k hlt
      have hs := arr_set 8 (cells8 (txtK p k)) k (.int .u8 46) hlt
      go_wp2_with fail
      rw [Hk7.out]
      refine (flIs_calls p (2 ^ (7 - k)) _ hp (pw_lt _ (by omega))).mono ?_
      rintro e w' ⟨rfl, rfl⟩
      cases hf : fis p (2 ^ (7 - k))
      · have ht : txtC p k = 46 := by unfold txtC; rw [hf]; rfl
        have Ht := hide ht; clear ht hf
        go_wp2_with fail
        go_roundw
        case rel => exact ⟨k + 1, by omega, by go_num, by rw [arr_congr (cells8_upd p k Ht.out)]⟩
        case measure => simp [intOf]; omega
      · have ht : txtC p k = letter k := by unfold txtC; rw [hf]; rfl
        have Ht := hide ht; clear ht hf
        go_wp2_with fail
        go_roundw
        case rel => exact ⟨k + 1, by omega, by go_num, by rw [arr_congr (cells8_keep p k Ht.out)]⟩
        case measure => simp [intOf]; omega
    · obtain rfl : k = 8 := by omega
      have hconv : ∀ (t : TypeId), (convert 42 9 (.slice (some ⟨w1.heap.size, 0, none⟩) 8 8)).run Tryd.prog (w1.alloc (.cells (arr 8 (cells8 (txtK p 8))) t)) = .ok (.string ⟨(txt p).toArray⟩) (w1.alloc (.cells (arr 8 (cells8 (txtK p 8))) t)) := fun t =>
        run_convert_bytes_back _ 42 9 5 ⟨w1.heap.size, 0, none⟩ 8 (txt p) Tryd.underlying42 Tryd.underlying5 Tryd.underlying9 (fun j hj => by
          have hj8 : j < 8 := by simpa [txt_len] using hj
          rw [show ((⟨w1.heap.size, 0, none⟩ : Addr).add j) = ⟨w1.heap.size, j, none⟩ from by unfold Addr.add; split <;> simp_all]
          rw [(Blk.new w1 t _).cell j, arr_get 8 _ j hj8]
          have he := txt_get p j hj8
          rw [List.getElem?_eq_getElem hj] at he
          injection he with he
          rw [he]
          unfold cells8 txtK
          rw [if_pos hj8])
      have hconv' := hconv 23
      clear hconv
      go_wp2_with fail
      go_ret
      exact ⟨rfl, hb1.alloc hb1.size _⟩
end Go.Proofs.YtelmkpcocaogjaaDoor
