/-
  gannettop: TopPlaces.
-/
import Derived.Test.YtmlkmaeihkgdlaaCart7
import Derived.Test.YtmlkmaeihkgdlaaCart2
import Derived.Test.YtmlkmaeihkgdlaaPtext
import Derived.Test.YtmlkmaeihkgdlaaOpenP
import Derived.Test.YtmlkmaeihkgdlaaObit
namespace Go.Proofs.Ytmlkmaeihkgdlaa
open Go.RowKit Pl

set_option maxRecDepth 100000 in
set_option maxHeartbeats 4000000 in
theorem topPlaces_calls (a : Option Addr) (n c : Nat) (At : Nat → Int) (O : Nat → Option Addr) (Ln Cp : Nat → Nat) (By : Nat → Nat → Int) (b o : Nat) (w : World) (hn : n ≤ maxLen) (hb : b < 256) (ho : o < 65536) (hP : PieB w a n At O Ln Cp By w.heap.size) :
    Calls Try.prog 3 #[.slice a n c, .int .u8 (b : Int), .int .u16 (o : Int)] w fun e w' => e = .returned (.bool true) ∧ Below w.heap.size w w' := by
  have htb : tb 1 0 = true := by decide
  have hbit := fun W => octBit_calls 1 0 W (by omega)
  rw [htb] at hbit
  have hchk := fun W => ctCheck_bad 0 0 none W (by decide) (by unfold ChkOk; omega)
  by_cases h20 : 20 < n
  · have i20 : (20 : Int) < (n : Int) := by omega
    go_enter Try.func3, Try.ntmps3
    go_wp2_with fail
    refine Cl.p (hbit _) ?_
    go_wp2_with fail
    refine Cl.p (hchk _) ?_
    (go_wp2_with fail; go_ret; exact ⟨rfl, by (repeat (first | exact Below.refl _ _ | assumption | refine Below.drew ?_ | refine Bl.alloc ?_ _ | refine below_drewN ?_ _ | refine Bl.chain ?_ (by assumption) (Nat.le_refl _)))⟩)
  · have i20 : (decide ((20 : Int) < (n : Int))) = false := by rw [decide_eq_false_iff_not]; omega
    obtain ⟨x, hx⟩ : ∃ x, adr b o = x := ⟨_, rfl⟩
    obtain ⟨q, hq⟩ : ∃ q, o % 8192 = q := ⟨_, rfl⟩
    have hxq : b * 8192 + q = x := by rw [← hq, ← hx]; rfl
    have hbx : bnk x = b := by rw [← hx]; exact bnk_adr b o hb
    have hx2 : x < 2097152 := by omega
    have had := fun W => phAddr_calls b o W hb ho
    rw [hx] at had
    have htx := fun W => phText_calls x W (by omega)
    have e1 : ofP (ByteArray.mk (tx x).toArray).toList = (x, 0) := by rw [ByteArray.toList_mk, of_tx x, show x % 2097152 = x from by omega]
    have hz : (ByteArray.mk (tx x).toArray).size ≤ maxLen := by
      show (tx x).toArray.size ≤ maxLen
      simp [tx_len, maxLen]
    have hof := fun W => phOf_calls (ByteArray.mk (tx x).toArray) W hz
    rw [e1] at hof
    unfold fhV at hof
    dsimp only at hof
    have hbk := fun W => phBank_calls x W (by omega)
    rw [hbx] at hbk
    have hr1 : ∀ F, b < 2 → rdR 16384 F x = F x := fun F h => by
      unfold rdR
      rw [whr_rom x (by omega), show x % 2097152 = x from by omega, if_pos ⟨rfl, by omega⟩]
    have hr2 : ∀ F, ¬ b < 2 → rdR 16384 F x = 255 := fun F h => by
      unfold rdR
      rw [if_neg (by omega)]
    have k1 : (o : Int) % 8192 = (q : Int) := by omega
    have k2 : (o : Int).tmod 8192 = (q : Int) := by rw [Int.tmod_eq_emod_of_nonneg (by omega)]; omega
    have k3 : (b : Int) * 8192 + (q : Int) = (x : Int) := by omega
    have z2 : ((b : Int) == (b : Int)) = true := beq_self_eq_true _
    have hq2 : q < 8192 := by omega
    clear e1 hbx hq hx h20
    generalize (ByteArray.mk (tx x).toArray) = T at *
    go_enter Try.func3, Try.ntmps3
    go_wp2_with fail
    refine Cl.p (hbit _) ?_
    go_wp2_with fail
    refine Cl.p (hchk _) ?_
    go_wp2_with fail
    refine (mk_walk 2 16384 a n c At O Ln Cp By w ⟨by omega, by omega⟩ rfl hn hP).mono ?_
    rintro e w1 ⟨hb1, ⟨i, hi, _, hnf, rfl⟩ | ⟨_, g, rfl, hR1, _⟩⟩
    · have hz3 : Blk (w1.alloc (.cells #[.int .i64 0, .int .i64 0] 29)) w1.heap.size 29 #[.int .i64 0, .int .i64 0] := Blk.new _ _ _
      have hF3 : Blk (w1.alloc (.cells (fltA (1, i)) 29)) w1.heap.size 29 (fltA (1, i)) := Blk.new _ _ _
      have c0 : (w1.alloc (.cells (fltA (1, i)) 29)).cell? ⟨w1.heap.size, 0, none⟩ = some (.int .i64 1) := hF3.cell 0
      have hb13 : Below w.heap.size w (w1.alloc (.cells (fltA (1, i)) 29)) := Bl.alloc hb1 _
      go_wp2_with (refine wpList_store_row rfl 29 _ _ rfl w1.heap.size _ rfl rfl 29 _ hz3 (by kernel_rfl) rfl (by kernel_rfl) ?_; rw [setRow_new])
      go_ret
      exact ⟨rfl, hb13⟩
    · have hz3 : Blk (w1.alloc (.cells #[.int .i64 0, .int .i64 0] 29)) w1.heap.size 29 #[.int .i64 0, .int .i64 0] := Blk.new _ _ _
      have hF3 : Blk (w1.alloc (.cells (fltA (0, 0)) 29)) w1.heap.size 29 (fltA (0, 0)) := Blk.new _ _ _
      have c0 : (w1.alloc (.cells (fltA (0, 0)) 29)).cell? ⟨w1.heap.size, 0, none⟩ = some (.int .i64 0) := hF3.cell 0
      have hb13 : Below w.heap.size w (w1.alloc (.cells (fltA (0, 0)) 29)) := Bl.alloc hb1 _
      have hR3 : RW (w1.alloc (.cells (fltA (0, 0)) 29)) g 16384 (mkF At Ln By n) := hR1.alloc _
      go_wp2_with (refine wpList_store_row rfl 29 _ _ rfl w1.heap.size _ rfl rfl 29 _ hz3 (by kernel_rfl) rfl (by kernel_rfl) ?_; rw [setRow_new])
      refine Cl.p (had _) ?_
      generalize w1.alloc (.cells (fltA (0, 0)) 29) = w3 at *
      generalize mkF At Ln By n = F at *
      clear hz3 hR1 hb1
      go_wp2_with fail
      refine Cl.m (htx _) ?_
      intro w4 hb4
      have hb04 := hb13.trans (hb4.mono hb13.size)
      have hR4 := Blk.below hR3 hb4 hR3.lt
      go_wp2_with fail
      refine Cl.m (hof _) ?_
      intro w5 hb5
      have hb05 := hb04.trans (hb5.mono hb04.size)
      have hR5 : RW w5 g 16384 F := Blk.below hR4 hb5 hR4.lt
      have hrd := ctRead_calls 16384 16384 x (some ⟨g, 0, none⟩) F w5 (by omega) (by omega) hR5.nums
      clear hR3 hR4 hb4 hb5 hof htx had hbit hchk
      by_cases hb2 : b < 2
      · rw [hr1 F hb2] at hrd
        have i2 : (b : Int) < 2 := by omega
        have hx3 : x < 16384 := by omega
        have i3 : (x : Int) < 16384 := by omega
        have cx := hR5.cell x hx3
        have z1 : (F x == F x) = true := beq_self_eq_true _
        clear hr1 hr2
        go_wp2_with fail
        refine Cl.m hrd ?_
        intro w6 hb6
        have hb06 := hb05.trans (hb6.mono hb05.size)
        go_wp2_with fail
        refine Cl.p (hbk _) ?_
        go_wp2_with fail
        go_ret
        exact ⟨rfl, hb06⟩
      · rw [hr2 F hb2] at hrd
        have i2 : (decide ((b : Int) < 2)) = false := by rw [decide_eq_false_iff_not]; omega
        clear hr1 hr2
        go_wp2_with fail
        refine Cl.m hrd ?_
        intro w6 hb6
        have hb06 := hb05.trans (hb6.mono hb05.size)
        go_wp2_with fail
        refine Cl.p (hbk _) ?_
        go_wp2_with fail
        go_ret
        exact ⟨rfl, hb06⟩
section
open Go.ChangeShapes Go.WideShapes Go.ChangeAt
variable {H : Type} {enc : TypeId × Value → H} {W : World} {base : Nat}
theorem walk_TopPlaces {v0 v1 v2 : Value} {d0 d1 d2 : DataW H} {p0 p1 p2 : List MemPlace}
    (_hsh : W.ShapedOpen Try.prog) (_hsz : (DataW.weightsEach Try.prog [22, 5, 23] [d0, d1, d2]).all (· ≤ reachBytes) = true)
    (hv0 : Value.okWide Try.prog W .any base 22 v0) (hd0 : DataW.Trod enc Try.prog W 0 (fun _ => true) true 22 v0 d0 p0) (hv1 : Value.okWide Try.prog W .any base 5 v1) (hd1 : DataW.Trod enc Try.prog W 0 (fun _ => true) true 5 v1 d1 p1) (hv2 : Value.okWide Try.prog W .any base 23 v2) (hd2 : DataW.Trod enc Try.prog W 0 (fun _ => true) true 23 v2 d2 p2) :
    Calls Try.prog 3 #[v0, v1, v2] W fun e W' => e = .returned (.bool true) ∧ Below W.heap.size W W' := by
  obtain ⟨a, n, c, At, O, Ln, Cp, By, rfl, hP, hn, _⟩ := open_pieces hv0 hd0
  obtain ⟨x1, rfl, h1⟩ := open_u8 Try.underlying5 hv1 hd1
  obtain ⟨x2, rfl, h2⟩ := open_u16 Try.underlying23 hv2 hd2
  exact topPlaces_calls a n c At O Ln Cp By x1 x2 W hn h1 h2 hP
end
end Go.Proofs.Ytmlkmaeihkgdlaa
