/-
  Package phys: Span.
-/
import Derived.Test.YtmjgkkjlgkkddaaSpan
namespace Go.Proofs.Ytmjgkkjlgkkddaa
open Go.RowKit Pl

theorem phAddrX_calls (b o : Nat) (x y : Int) (w : World) (hx : x = b) (hy : y = o) (hb : b < 256) (ho : o < 65536) :
    Calls Try.prog 8 #[.int .u8 x, .int .u16 y] w fun e w' => e = .returned (.int .u32 (adr b o : Nat)) ∧ w = w' := by
  subst hx hy
  exact phAddr_calls b o w hb ho
theorem spanL_yes (wh n : Nat) (h : whr (adr n 0) = wh) : spanL wh (n + 1) = moreL (spanL wh n) (adr n 0) 8192 := if_pos h
theorem spanL_no (wh n : Nat) (h : ¬ whr (adr n 0) = wh) : spanL wh (n + 1) = spanL wh n := if_neg h
theorem adr_le (n : Nat) (h : n < 255) : adr n 0 + 8192 ≤ 2097152 := by unfold adr; omega
theorem phSpan_calls (wh : Nat) (w : World) (hwh : wh < 256) :
    Calls Try.prog 23 #[.int .u8 (wh : Int)] w fun e w' => ∃ v, e = .returned v ∧ Own2 w' w.heap.size v (rowsL wh) ∧ Below w.heap.size w w' := by
  go_enter Try.func23, Try.ntmps23
  go_wp2_with fail
  go_loopw [3, 4, 5, 6] (fun v bk fi i wr => ∃ n : Nat, n ≤ 255 ∧ i = .int .i64 (n : Int) ∧ Own2 wr w.heap.size v (spanL wh n) ∧ Below w.heap.size w wr) (fun _ _ _ i _ => 255 - (intOf i).toNat)
  case atStart => exact ⟨0, by omega, rfl, World.ownsRow_nil _ _ _ _, by (repeat (first | exact Below.refl _ _ | assumption | refine Below.drew ?_ | refine Bl.alloc ?_ _ | refine below_drewN ?_ _ | refine Bl.chain ?_ (by assumption) (Nat.le_refl _)))⟩
  case round =>
    obtain ⟨n, hn, rfl, hown, hbel⟩ := hrel
    obtain ⟨hsm, hln⟩ : small 2097152 (spanL wh n) ∧ (spanL wh n).length ≤ n := by
      rcases spanL_small wh n with h | h
      · exact h
      · omega
    by_cases hlt : n < 255
    · have hlt' : (n : Int) < 255 := by omega
      have hal := adr_le n hlt
      by_cases heq : whr (adr n 0) = wh
      · have heq' : (((whr (adr n 0) : Nat) : Int) == (wh : Int)) = true := by rw [beq_iff_eq]; omega
        have hR := hide (spanL_yes wh n heq)
        clear heq
        go_wp2_with fail
        refine Cl.p (phAddrX_calls n 0 _ _ _ (by omega) rfl (by omega) (by omega)) ?_
        (go_wp2_with fail; refine Cl.m (phWhere_calls (adr n 0) _ (by omega)) ?_; intro w1 hb1)
        go_wp2_with fail
        refine (phMore_calls (spanL wh n) (adr n 0) 8192 w.heap.size _ w1 (Nat.le_trans hbel.size hb1.size) hal hsm (by omega) (own_below hown hb1 (Nat.le_refl _))).mono ?_
        rintro e w2 ⟨v', rfl, hown2, hbel2, _, _⟩
        go_wp2_with fail
        go_roundw
        case rel => exact ⟨n + 1, by omega, by go_num, by rw [hR.out]; exact hown2, (hbel.trans (hb1.mono hbel.size)).trans hbel2⟩
        case measure => simp [intOf]; omega
      · have heq' : (((whr (adr n 0) : Nat) : Int) == (wh : Int)) = false := by rw [beq_eq_false_iff_ne]; omega
        have hR := hide (spanL_no wh n heq)
        clear heq
        go_wp2_with fail
        refine Cl.p (phAddrX_calls n 0 _ _ _ (by omega) rfl (by omega) (by omega)) ?_
        (go_wp2_with fail; refine Cl.m (phWhere_calls (adr n 0) _ (by omega)) ?_; intro w1 hb1)
        go_wp2_with fail
        go_roundw
        case rel => exact ⟨n + 1, by omega, by go_num, by rw [hR.out]; exact own_below hown hb1 (Nat.le_refl _), by (repeat (first | exact Below.refl _ _ | assumption | refine Below.drew ?_ | refine Bl.alloc ?_ _ | refine below_drewN ?_ _ | refine Bl.chain ?_ (by assumption) (Nat.le_refl _)))⟩
        case measure => simp [intOf]; omega
    · obtain rfl : n = 255 := by omega
      go_wp2_with fail
      refine (phLast_calls (spanL wh 255) wh w.heap.size _ wr hwh hbel.size hsm (by omega) hown).mono ?_
      rintro e w2 ⟨v', rfl, hown2, hbel2⟩
      go_wp2_with fail
      go_ret
      exact ⟨_, rfl, hown2, hbel.trans hbel2⟩
end Go.Proofs.Ytmjgkkjlgkkddaa
