/-
  moves: Count, way, At; gannetref26: Count, At.
-/
import Derived.Test.YticdlgbpbfcmaaaOnly
import Derived.Test.YticdlgbpbfcmaaaRet
import Derived.Test.YticdlgbpbfcmaaaBmov
namespace Go.Proofs.Yticdlgbpbfcmaaa
open Go.RowKit

theorem Blk.newAt {w : World} {t : TypeId} {cs : Array Value} {g : Nat} (h : g = w.heap.size) : Blk (w.alloc (.cells cs t)) g t cs := by
  subst h
  exact Blk.new _ _ _
theorem ret_agg2 {x x' y y' : Int} (h : x = x') (h2 : y = y') : Ending.returned (.agg #[.int .u16 x, .int .u16 y]) = .returned (.agg #[.int .u16 x', .int .u16 y']) := by rw [h, h2]
theorem ret_two {x x' y y' : Int} {a b : IntKind} (h : x = x') (h2 : y = y') : Ending.returned (.tuple #[.int a x, .int b y]) = .returned (.tuple #[.int a x', .int b y']) := by rw [h, h2]
theorem mvCount_calls (l : Nat) (w : World) (h : l < 65536) : Calls Try.prog 20 #[.int .u16 (l : Int)] w fun e w' => e = .returned (.int .i64 (cnt l : Nat)) ∧ w = w' := by
  by_cases h0 : l = 0
  · subst h0
    go_enter Try.func20, Try.ntmps20
    go_wp2_with fail
    go_ret
    exact ⟨ret_int (by decide +kernel), rfl⟩
  · have e : cnt l = l := if_neg h0
    go_enter Try.func20, Try.ntmps20
    go_wp2_with fail
    go_ret
    exact ⟨ret_int (by rw [e]; try (first | omega | (rw [IntKind.wrap_u16]; omega))), rfl⟩
theorem rCount_calls (l : Nat) (w : World) (h : l < 65536) : Calls Try.prog 22 #[.int .u16 (l : Int)] w fun e w' => e = .returned (.int .i64 (cnt l : Nat)) ∧ w = w' := by
  by_cases h0 : l = 0
  · subst h0
    go_enter Try.func22, Try.ntmps22
    go_wp2_with fail
    go_ret
    exact ⟨rfl, rfl⟩
  · have e : cnt l = l := if_neg h0
    have h0' : ((l : Int) == 0) = false := by rw [beq_eq_false_iff_ne]; omega
    go_enter Try.func22, Try.ntmps22
    go_wp2_with fail
    go_ret
    exact ⟨ret_int (by rw [e]), rfl⟩
set_option maxHeartbeats 4000000 in
theorem mvWay_calls (k f t i : Nat) (x : Int) (w : World) (hx : x = i) (hk : k < 5) (hf : f < 65536) (ht : t < 65536) (hi : i < 65536) :
    Calls Try.prog 27 #[.int .u8 (k : Int), .int .u16 (f : Int), .int .u16 (t : Int), .int .u16 x] w fun e w' => e = .returned (.agg #[.int .u16 (wyF k f i : Nat), .int .u16 (wyT k t i : Nat)]) ∧ Below w.heap.size w w' := by
  subst hx
  have hk5 : k = 0 ∨ k = 1 ∨ k = 2 ∨ k = 3 ∨ k = 4 := by omega
  rcases hk5 with rfl | rfl | rfl | rfl | rfl
  all_goals
    go_enter Try.func27, Try.ntmps27
    go_wp2_with fail
    refine bodyPost_ret (results_cell_row rfl _ _ w.heap.size 48 _ (0, 0) _ rfl (heap_alloc_new w _) Try.underlying48 rfl (by kernel_rfl)) rfl ⟨ret_agg2 ?_ ?_, (Below.refl _ _).alloc (Nat.le_refl _) _⟩
    · unfold wyF
      first | omega | (simp only [IntKind.wrap_u16]; omega) | (dsimp only; omega)
    · unfold wyT
      first | rfl | omega | (simp only [IntKind.wrap_u16]; omega) | (dsimp only; omega)
theorem mvAt_calls (k f t i : Nat) (w : World) (hk : k < 5) (hf : f < 65536) (ht : t < 65536) (hi : i < 65536) :
    Calls Try.prog 19 #[.int .u8 (k : Int), .int .u16 (f : Int), .int .u16 (t : Int), .int .i64 (i : Int)] w fun e w' => e = .returned (.tuple #[.agg #[.int .u16 (wyF k f i : Nat), .int .u16 (wyT k t i : Nat)], .bool true]) ∧ Below w.heap.size w w' := by
  have i1 : (decide ((5 : Int) ≤ (k : Int))) = false := by rw [decide_eq_false_iff_not]; omega
  have i2 : (decide ((i : Int) < 0)) = false := by rw [decide_eq_false_iff_not]; omega
  have hB : Below w.heap.size w (w.alloc (.cells #[.int .u16 0, .int .u16 0] 48)) := (Below.refl _ _).alloc (Nat.le_refl _) _
  have hz : Blk (w.alloc (.cells #[.int .u16 0, .int .u16 0] 48)) w.heap.size 48 #[.int .u16 0, .int .u16 0] := Blk.new _ _ _
  go_enter Try.func19, Try.ntmps19
  go_wp2_with fail
  refine Cl.m (mvWay_calls k f t i _ _ (by omega) hk hf ht hi) ?_
  intro w1 hb1
  have hz1 := hz.below hb1 hz.lt
  have hb2 : Below w.heap.size w w1 := hB.trans (hb1.mono (by simp))
  go_wp2_with (refine wpList_store_row rfl 48 _ _ rfl w.heap.size _ rfl rfl 48 _ hz1 (by kernel_rfl) rfl (by kernel_rfl) ?_)
  refine bodyPost_ret (results_ct rfl rfl (hz1.setRow _) Try.underlying48 rfl (by kernel_rfl)) rfl ⟨rfl, below_setRow hb2 (Nat.le_refl _) _⟩
theorem mvAtNo_calls (f t : Int) (w : World) :
    Calls Try.prog 19 #[.int .u8 9, .int .u16 f, .int .u16 t, .int .i64 0] w fun e w' => e = .returned (.tuple #[.agg #[.int .u16 0, .int .u16 0], .bool false]) ∧ Below w.heap.size w w' := by
  go_enter Try.func19, Try.ntmps19
  go_wp2_with fail
  refine bodyPost_ret (results_ct rfl rfl (heap_alloc_new w _) Try.underlying48 rfl (by kernel_rfl)) rfl ⟨rfl, (Below.refl _ _).alloc (Nat.le_refl _) _⟩
set_option maxHeartbeats 4000000 in
theorem rAt_calls (k f t i : Nat) (x : Int) (w : World) (hx : x = i) (hk : k < 5) (hf : f < 65536) (ht : t < 65536) (hi : i < 65536) :
    Calls Try.prog 28 #[.int .u8 (k : Int), .int .u16 (f : Int), .int .u16 (t : Int), .int .i64 x] w fun e w' => e = .returned (.tuple #[.int .u16 (wyF k f i : Nat), .int .u16 (wyT k t i : Nat)]) ∧ w = w' := by
  subst hx
  have hk5 : k = 0 ∨ k = 1 ∨ k = 2 ∨ k = 3 ∨ k = 4 := by omega
  rcases hk5 with rfl | rfl | rfl | rfl | rfl
  all_goals
    go_enter Try.func28, Try.ntmps28
    go_wp2_with fail
    go_ret2
    refine ⟨ret_two ?_ ?_, rfl⟩
    · unfold wyF
      first | omega | (simp only [IntKind.wrap_u16]; omega) | (dsimp only; omega)
    · unfold wyT
      first | rfl | omega | (simp only [IntKind.wrap_u16]; omega) | (dsimp only; omega)
end Go.Proofs.Yticdlgbpbfcmaaa
