/-
  cart: Make; gannetref04: Make.
-/
import Derived.Test.YtjgobmgoidioiaaCart1
import Derived.Deep.DeepCutAuto
namespace Go.Proofs.Ytjgobmgoidioiaa
open Go.RowKit

def fltA (p : Nat × Nat) : Array Value := #[.int .i64 (p.1 : Int), .int .i64 (p.2 : Int)]
/-- The bytes behind k pieces. -/
def mkF (At : Nat → Int) (Ln : Nat → Nat) (By : Nat → Nat → Int) : Nat → Nat → Int
  | 0 => fun _ => 0
  | k + 1 => layF (mkF At Ln By k) (At k).toNat (Ln k) (By k)
theorem layF_step (F L : Nat → Int) (p k : Nat) : (fun q => if q = p + k then L k else layF F p k L q) = layF F p (k + 1) L := by
  funext q
  unfold layF
  by_cases h : q = p + k
  · rw [if_pos h, if_pos (by omega), show q - p = k from by omega]
  · rw [if_neg h]
    by_cases h2 : p ≤ q ∧ q < p + k
    · rw [if_pos h2, if_pos (by omega)]
    · rw [if_neg h2, if_neg (by omega)]
theorem layF_zero (F L : Nat → Int) (p : Nat) : layF F p 0 L = F := by
  funext q
  unfold layF
  rw [if_neg (by omega)]
theorem mk_range (m : Int) (a : Option Addr) (n c : Nat) (w : World) (hm : m < 1 ∨ 128 < m) :
    Calls Try.prog 6 #[.int .i64 m, .slice a n c] w fun e w' => e = .returned (.tuple #[.slice none 0 0, .agg (fltA (6, 0))]) ∧ Below w.heap.size w w' := by
  have hz : Blk (w.alloc (.cells #[.int .i64 0, .int .i64 0] 30)) w.heap.size 30 #[.int .i64 0, .int .i64 0] := Blk.new _ _ _
  have hb : Below w.heap.size w (w.alloc (.cells #[.int .i64 0, .int .i64 0] 30)) := (Below.refl _ _).alloc (Nat.le_refl _) _
  by_cases h1 : m < 1
  · clear hm
    go_enter Try.func6, Try.ntmps6
    go_wp2_with (refine wpList_store_row rfl 30 _ _ rfl w.heap.size _ rfl rfl 30 _ hz (by kernel_rfl) rfl (by kernel_rfl) ?_)
    exact bodyPost_ret (results_tc rfl rfl (hz.setRow _) Try.underlying30 rfl (by kernel_rfl)) rfl ⟨rfl, below_setRow hb (Nat.le_refl _) _⟩
  · have i1 : (decide (m < 1)) = false := decide_eq_false h1
    have i2 : 128 < m := by omega
    clear hm h1
    go_enter Try.func6, Try.ntmps6
    go_wp2_with (refine wpList_store_row rfl 30 _ _ rfl w.heap.size _ rfl rfl 30 _ hz (by kernel_rfl) rfl (by kernel_rfl) ?_)
    exact bodyPost_ret (results_tc rfl rfl (hz.setRow _) Try.underlying30 rfl (by kernel_rfl)) rfl ⟨rfl, below_setRow hb (Nat.le_refl _) _⟩
set_option maxHeartbeats 4000000 in
theorem mk_walk (m N : Nat) (a : Option Addr) (n c : Nat) (At : Nat → Int) (O : Nat → Option Addr) (Ln Cp : Nat → Nat) (By : Nat → Nat → Int) (w : World) (hm : 1 ≤ m ∧ m ≤ 128) (hN : m * 8192 = N) (hn : n ≤ maxLen) (hP : PieB w a n At O Ln Cp By w.heap.size) :
    Calls Try.prog 6 #[.int .i64 (m : Int), .slice a n c] w fun e w' => Below w.heap.size w w' ∧
      ((∃ i, i < n ∧ (∀ j, j < i → Fits N (At j) (Ln j)) ∧ ¬ Fits N (At i) (Ln i) ∧ e = .returned (.tuple #[.slice none 0 0, .agg (fltA (1, i))])) ∨
       ((∀ j, j < n → Fits N (At j) (Ln j)) ∧ ∃ g, e = .returned (.tuple #[.slice (some ⟨g, 0, none⟩) N N, .agg (fltA (0, 0))]) ∧ RW w' g N (mkF At Ln By n) ∧ w.heap.size ≤ g)) := by
  unfold maxLen at hn
  obtain ⟨i0, hi, hz0, hz1, hz2⟩ := info_parts infoU8
  have hmk := fun W => run_make_arr (P := Try.prog) 27 5 i0 (.int .u8 0) 1 Try.underlying27 hi hz0 hz1 hz2 rfl .i64 .i64 N (by omega) (by omega) W
  have hz : Blk (w.alloc (.cells #[.int .i64 0, .int .i64 0] 30)) w.heap.size 30 #[.int .i64 0, .int .i64 0] := Blk.new _ _ _
  have hb : Below w.heap.size w (w.alloc (.cells #[.int .i64 0, .int .i64 0] 30)) := (Below.refl _ _).alloc (Nat.le_refl _) _
  have i1 : (decide ((m : Int) < 1)) = false := by rw [decide_eq_false_iff_not]; omega
  have i2 : (decide ((128 : Int) < (m : Int))) = false := by rw [decide_eq_false_iff_not]; omega
  have i3 : (m : Int) * 8192 = (N : Int) := by omega
  go_enter Try.func6, Try.ntmps6
  go_wp2_with fail
  have hZ1 : Blk ((w.alloc (.cells #[.int .i64 0, .int .i64 0] 30)).alloc (.cells (arr N fun _ => .int .u8 0) 5)) w.heap.size 30 #[.int .i64 0, .int .i64 0] := hz.alloc _
  have hR1 : RW ((w.alloc (.cells #[.int .i64 0, .int .i64 0] 30)).alloc (.cells (arr N fun _ => .int .u8 0) 5)) (w.heap.size + 1) N (mkF At Ln By 0) := Blk.newAt (by simp)
  have hb1 : Below w.heap.size w ((w.alloc (.cells #[.int .i64 0, .int .i64 0] 30)).alloc (.cells (arr N fun _ => .int .u8 0) 5)) := Bl.alloc hb _
  generalize (w.alloc (.cells #[.int .i64 0, .int .i64 0] 30)).alloc (.cells (arr N fun _ => .int .u8 0) 5) = w1 at *
  clear hz hb hmk i1 i2 i3
  go_loopw [21] (fun i wr => ∃ j : Nat, j ≤ n ∧ i = .int .i64 (j : Int) ∧ (∀ k, k < j → Fits N (At k) (Ln k)) ∧ RW wr (w.heap.size + 1) N (mkF At Ln By j) ∧ Blk wr w.heap.size 30 #[.int .i64 0, .int .i64 0] ∧ Below w.heap.size w wr) (fun i _ => n - (intOf i).toNat)
  case atStart => exact ⟨0, by omega, rfl, fun k hk => by omega, hR1, hZ1, hb1⟩
  case round =>
    obtain ⟨j, hj, rfl, hfit, hRr, hZr, hbr⟩ := hrel
    have hgl := Blk.lt hRr
    by_cases hjn : j < n
    · have hjn' : (j : Int) < (n : Int) := by omega
      obtain ⟨b, off, rfl, hlt, x0, x1, hNm⟩ := (hP.below hbr (Nat.le_refl _)) j hjn
      by_cases hft : Fits N (At j) (Ln j)
      · obtain ⟨p, hp⟩ : ∃ p : Nat, At j = (p : Int) := ⟨(At j).toNat, by have := hft.1; omega⟩
        have hpn : p + Ln j ≤ N := by have := hft.2; omega
        have hstep : mkF At Ln By (j + 1) = layF (mkF At Ln By j) p (Ln j) (By j) := by
          show layF (mkF At Ln By j) (At j).toNat (Ln j) (By j) = _
          rw [hp]; rfl
        have hfit' : ∀ k, k < j + 1 → Fits N (At k) (Ln k) := fun k hk => by
          by_cases e : k = j
          · subst e; exact hft
          · exact hfit k (by omega)
        have HF := hide hfit'
        have HS := hide hstep
        rw [hp] at x0
        have hR2 : RW (wr.alloc (.cells #[.int .i64 (p : Int), .slice (O j) (Ln j) (Cp j)] 48)) (w.heap.size + 1) N (mkF At Ln By j) := Blk.alloc hRr _
        have hZ2 : Blk (wr.alloc (.cells #[.int .i64 (p : Int), .slice (O j) (Ln j) (Cp j)] 48)) w.heap.size 30 #[.int .i64 0, .int .i64 0] := Blk.alloc hZr _
        have hb2 : Below w.heap.size w (wr.alloc (.cells #[.int .i64 (p : Int), .slice (O j) (Ln j) (Cp j)] 48)) := hbr.alloc hbr.size _
        have hN2 : NumsB (wr.alloc (.cells #[.int .i64 (p : Int), .slice (O j) (Ln j) (Cp j)] 48)) .u8 (O j) (Ln j) (By j) w.heap.size := NumsB.only (S := fun _ => False) hNm ((Only.refl _ _).alloc _) (fun _ _ e => e)
        clear hfit hfit' hstep hp hft hP hNm
        go_wp2_with fail
        generalize wr.alloc (.cells #[.int .i64 (p : Int), .slice (O j) (Ln j) (Cp j)] 48) = w2 at *
        refine (lay_ok (w.heap.size + 1) N p (Ln j) (Cp j) (mkF At Ln By j) (By j) (O j) w2 (by omega) hpn hR2 hN2.nums).mono ?_
        rintro e w3 ⟨rfl, hR3, hb3⟩
        have hZ3 := hZ2.below hb3 (by omega)
        have hb03 := hb2.trans (hb3.mono (show w.heap.size ≤ w.heap.size + 1 by omega))
        go_wp2_with fail
        go_roundw
        case rel => exact ⟨j + 1, by omega, by go_num, HF.out, by rw [HS.out]; exact hR3, hZ3, hb03⟩
        case measure => simp [intOf]; omega
      · obtain ⟨q, hq⟩ : ∃ q, At j = q := ⟨_, rfl⟩
        have hZ2 : Blk (wr.alloc (.cells #[.int .i64 q, .slice (O j) (Ln j) (Cp j)] 48)) w.heap.size 30 #[.int .i64 0, .int .i64 0] := Blk.alloc hZr _
        have hb2 : Below w.heap.size w (wr.alloc (.cells #[.int .i64 q, .slice (O j) (Ln j) (Cp j)] 48)) := hbr.alloc hbr.size _
        have HF := hide hfit
        have HT := hide hft
        have hft' : ¬ Fits N q (Ln j) := hq ▸ hft
        rw [hq] at x0
        clear hfit hft hP hNm
        go_wp2_with fail
        generalize wr.alloc (.cells #[.int .i64 q, .slice (O j) (Ln j) (Cp j)] 48) = w2 at *
        refine (lay_bad N (Ln j) (Cp j) q _ (O j) N w2 (by omega) hft').mono ?_
        rintro e w3 ⟨rfl, hb3⟩
        have hZ3 := hZ2.below hb3 hZ2.lt
        have hb03 := hb2.trans (hb3.mono hb2.size)
        go_wp2_with (refine wpList_store_row rfl 30 _ _ rfl w.heap.size _ rfl rfl 30 _ hZ3 (by kernel_rfl) rfl (by kernel_rfl) ?_)
        exact bodyPost_ret (results_tc rfl rfl (hZ3.setRow _) Try.underlying30 rfl (by kernel_rfl)) rfl ⟨below_setRow hb03 (by omega) _, Or.inl ⟨j, hjn, HF.out, HT.out, rfl⟩⟩
    · obtain rfl : j = n := by omega
      have HF := hide hfit
      clear hfit hP
      go_wp2_with (refine wpList_store_row rfl 30 _ _ rfl w.heap.size _ rfl rfl 30 _ hZr (by kernel_rfl) rfl (by kernel_rfl) ?_)
      refine bodyPost_ret (results_tc rfl rfl (hZr.setRow _) Try.underlying30 rfl (by kernel_rfl)) rfl ⟨below_setRow hbr (by omega) _, Or.inr ⟨HF.out, w.heap.size + 1, rfl, Blk.setRow_far hRr (by omega) _, by omega⟩⟩
end Go.Proofs.Ytjgobmgoidioiaa
