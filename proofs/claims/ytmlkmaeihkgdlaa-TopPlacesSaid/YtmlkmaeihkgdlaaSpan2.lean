/-
  Package phys: Span.
-/
import Derived.Test.YtmlkmaeihkgdlaaSpan
namespace Go.Proofs.Ytmlkmaeihkgdlaa
open Go.RowKit Pl

theorem phAddrX_calls (b o : Nat) (x y : Int) (w : World) (hx : x = b) (hy : y = o) (hb : b < 256) (ho : o < 65536) :
    Calls Try.prog 9 #[.int .u8 x, .int .u16 y] w fun e w' => e = .returned (.int .u32 (adr b o : Nat)) ∧ w = w' := by
  subst hx hy
  exact phAddr_calls b o w hb ho
theorem spanL_yes (wh n : Nat) (h : whr (adr n 0) = wh) : spanL wh (n + 1) = moreL (spanL wh n) (adr n 0) 8192 := if_pos h
theorem spanL_no (wh n : Nat) (h : ¬ whr (adr n 0) = wh) : spanL wh (n + 1) = spanL wh n := if_neg h
theorem adr_le (n : Nat) (h : n < 255) : adr n 0 + 8192 ≤ 2097152 := by unfold adr; omega
end Go.Proofs.Ytmlkmaeihkgdlaa
