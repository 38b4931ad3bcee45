/-
  gannetlaw22: live, and the walks of the laws.
-/
import Derived.Test.YtbnpjmmgnijjlaaL22a
namespace Go.Proofs.Ytbnpjmmgnijjlaa
open Go.RowKit Pl

theorem live22_calls (w : World) : Calls Try.prog 6 #[] w fun e w' => e = .returned (.bool true) ∧ Below w.heap.size w w' := by
  have l1 : lft 129 false = 2 := by decide
  have l2 : fres (fset 0 1 (tb 129 7)) 2 = 1 := by decide
  have l3 : 240 ||| 15 = 255 := by decide
  have l4 : tst 15 240 0 = 194 := by decide
  have l5 : tst 1 2 0 = 2 := by decide
  have heq : ∀ w, (binOp .eql 34 (.agg #[.int .i64 0, .int .i64 0]) (.agg #[.int .i64 0, .int .i64 0])).run Try.prog w = .ok (.bool true) w := fun w => by kernel_rfl
  have hgd : Try.prog.eqGuardType Try.prog.depth 34 = false := by kernel_rfl
  go_enter Try.func6, Try.ntmps6
  (go_wp2_with fail; refine Cl.p (lgAsl_calls 129 0 _ (by omega) (by omega)) ?_)
  rw [l1, l2]
  unfold bf
  (go_wp2_with fail; refine Cl.m (lgTsb_calls 15 240 0 _ (by omega) (by omega) (by omega)) ?_; intro w1 hb1)
  rw [l3, l4]
  unfold bf
  (go_wp2_with fail; refine Cl.m (lgChain_calls _) ?_; intro w2 hb2)
  (go_wp2_with fail; refine Cl.m (lgTest_calls 1 2 0 _ (by omega) (by omega) (by omega)) ?_; intro w3 hb3)
  rw [l5]
  (go_wp2_with fail; go_ret; exact ⟨rfl, by (repeat (first | exact Below.refl _ _ | assumption | refine Below.drew ?_ | refine Bl.alloc ?_ _ | refine below_drewN ?_ _ | refine Bl.chain ?_ (by assumption) (Nat.le_refl _)))⟩)

theorem logicJoins_calls (a b p : Nat) (w : World) (ha : a < 256) (hb : b < 256) (hp : p < 256) :
    Calls Try.prog 3 #[.int .u8 (a : Int), .int .u8 (b : Int), .int .u8 (p : Int)] w fun e w' => e = .returned (.bool true) ∧ Below w.heap.size w w' := by
  have hand : a &&& b < 256 := and_lt hb
  have hor : a ||| b < 256 := or_lt ha hb
  have hxor : a ^^^ b < 256 := xor_lt ha hb
  have e1 : layK a b true 8 = b ||| a := lay_on a b ha hb
  have e2 : layK a b false 8 = b &&& (255 - a) := lay_off a b ha hb
  have E1 := hide e1
  have E2 := hide e2
  clear e1 e2
  go_enter Try.func3, Try.ntmps3
  (go_wp2_with fail; refine Cl.m (live22_calls _) ?_; intro w1 hb1)
  (go_wp2_with fail; refine Cl.p (lgAnd_calls a b p _ ha hb hp) ?_)
  unfold bf
  (go_wp2_with fail; refine Cl.p (lgOr_calls a b p _ ha hb hp) ?_)
  unfold bf
  (go_wp2_with fail; refine Cl.p (lgEor_calls a b p _ ha hb hp) ?_)
  unfold bf
  (go_wp2_with fail; refine Cl.m (lgTsb_calls a b p _ ha hb hp) ?_; intro w2 hb2)
  unfold bf
  (go_wp2_with fail; refine Cl.m (lgTrb_calls a b p _ ha hb hp) ?_; intro w3 hb3)
  unfold bf
  (go_wp2_with fail; refine Cl.m (r22Test_calls a b p _ ha hb hp) ?_; intro w4 hb4)
  (go_wp2_with fail; refine Cl.m (r22And_calls a b _ ha hb) ?_; intro w5 hb5)
  (go_wp2_with fail; refine Cl.m (r22Or_calls a b _ ha hb) ?_; intro w6 hb6)
  (go_wp2_with fail; refine Cl.m (r22Eor_calls a b _ ha hb) ?_; intro w7 hb7)
  (go_wp2_with fail; refine Cl.m (r22Lay_calls a b true _ ha hb) ?_; intro w8 hb8)
  rw [E1.out]
  (go_wp2_with fail; refine Cl.m (r22Lay_calls a b false _ ha hb) ?_; intro w9 hb9)
  rw [E2.out]
  (go_wp2_with fail; refine Cl.m (r20Result_calls p (a &&& b) _ hp hand) ?_; intro w10 hb10)
  (go_wp2_with fail; refine Cl.m (r20Result_calls p (a ||| b) _ hp hor) ?_; intro w11 hb11)
  (go_wp2_with fail; refine Cl.m (r20Result_calls p (a ^^^ b) _ hp hxor) ?_; intro w12 hb12)
  (go_wp2_with fail; refine Cl.m (lgTest_calls a b p _ ha hb hp) ?_; intro w13 hb13)
  (go_wp2_with fail; go_ret; exact ⟨rfl, by (repeat (first | exact Below.refl _ _ | assumption | refine Below.drew ?_ | refine Bl.alloc ?_ _ | refine below_drewN ?_ _ | refine Bl.chain ?_ (by assumption) (Nat.le_refl _)))⟩)

theorem undo_bit0 (p v : Nat) (i : Bool) (hv : v < 256) (q r : Nat) (hq : q = fres (fset p 1 (tb v 7)) r) : fis q 1 = tb v 7 := by
  subst hq
  rw [fis1, fres_bit0, fset1_bit0]

theorem logicUndoes_calls (a v p : Nat) (w : World) (ha : a < 256) (hv : v < 256) (hp : p < 256) :
    Calls Try.prog 4 #[.int .u8 (a : Int), .int .u8 (v : Int), .int .u8 (p : Int)] w fun e w' => e = .returned (.bool true) ∧ Below w.heap.size w w' := by
  obtain ⟨l, hl⟩ : ∃ l, lft v (fis p 1) = l := ⟨_, rfl⟩
  obtain ⟨q, hq⟩ : ∃ q, fres (fset p 1 (tb v 7)) l = q := ⟨_, rfl⟩
  have hl256 : l < 256 := by rw [← hl]; exact lft_lt _ _
  have hq256 : q < 256 := by rw [← hq]; exact fres_lt (fset_lt hp (by omega))
  have hfq : fis q 1 = v.testBit 7 := by rw [← hq, fis1, fres_bit0, fset1_bit0]; exact tb_nat v 7 (by omega)
  have e1 : rgt l (fis q 1) = v := by rw [hfq, ← hl]; exact rgt_lft v _ hv
  have e2 : tb l 0 = fis p 1 := by rw [show (0 : Int) = ((0 : Nat) : Int) from rfl, tb_nat _ 0 (by omega), ← hl]; exact lft_out0 v _
  have e3 : tb (fres (fset q 1 (tb l 0)) v) 0 = tb p 0 := by
    rw [show (0 : Int) = ((0 : Nat) : Int) from rfl, tb_nat _ 0 (by omega), fres_bit0, fset1_bit0]
    exact e2.trans ((fis1 p).trans (tb_nat p 0 (by omega)).symm)
  have hs256 : fres (fset q 1 (tb l 0)) v < 256 := fres_lt (fset_lt hq256 (by omega))
  have e4 : ((v + 1) % 256 + 255) % 256 = v := by omega
  have hm256 : (v + 1) % 256 < 256 := by omega
  have hx256 : fres p ((v + 1) % 256) < 256 := fres_lt hp
  have hu256 : v ||| a < 256 := or_lt hv ha
  have hw256 : (v ||| a) &&& (255 - a) < 256 := and_lt (by omega)
  have hy256 : tst a v p < 256 := tst_lt a v hp
  have hz256 : tst a (v ||| a) (tst a v p) < 256 := tst_lt _ _ hy256
  have e5 : ((v ||| a) &&& (255 - a)) &&& a = 0 := undo_and a v ha hv
  have e6 : ((v ||| a) &&& (255 - a)) ||| a = v ||| a := undo_or a v ha hv
  have E1 := hide e1
  have E3 := hide e3
  have E4 := hide e4
  have E5 := hide e5
  have E6 := hide e6
  have HL := hide hl
  have HQ := hide hq
  clear e1 e2 e3 e4 e5 e6 hl hq hfq
  go_enter Try.func4, Try.ntmps4
  (go_wp2_with fail; refine Cl.m (live22_calls _) ?_; intro w1 hb1)
  (go_wp2_with fail; refine Cl.p (lgRol_calls v p _ hv hp) ?_)
  rw [HL.out, HQ.out]
  unfold bf
  (go_wp2_with fail; refine Cl.p (lgRor_calls l q _ hl256 hq256) ?_)
  rw [E1.out]
  unfold bf
  generalize fres (fset q 1 (tb l 0)) v = s at hs256 E3 ⊢
  (go_wp2_with fail; refine Cl.p (lgInc_calls v p _ hv hp) ?_)
  unfold bf
  generalize (v + 1) % 256 = m at hm256 hx256 E4 ⊢
  generalize fres p m = x at hx256 ⊢
  (go_wp2_with fail; refine Cl.p (lgDec_calls m x _ hm256 hx256) ?_)
  rw [E4.out]
  unfold bf
  (go_wp2_with fail; refine Cl.m (lgTsb_calls a v p _ ha hv hp) ?_; intro w2 hb2)
  unfold bf
  generalize v ||| a = u at hu256 hw256 hz256 E5 E6 ⊢
  generalize tst a v p = y at hy256 hz256 ⊢
  (go_wp2_with fail; refine Cl.m (lgTrb_calls a u y _ ha hu256 hy256) ?_; intro w3 hb3)
  unfold bf
  generalize u &&& (255 - a) = t at hw256 E5 E6 ⊢
  generalize tst a u y = z at hz256 ⊢
  (go_wp2_with fail; refine Cl.p (lgAnd_calls t a z _ hw256 ha hz256) ?_)
  rw [E5.out]
  unfold bf
  (go_wp2_with fail; refine Cl.p (lgOr_calls t a z _ hw256 ha hz256) ?_)
  rw [E6.out]
  unfold bf
  (go_wp2_with fail; refine Cl.p (r20Is_calls s 0 _ hs256) ?_)
  rw [E3.out]
  (go_wp2_with fail; refine Cl.p (r20Is_calls p 0 _ hp) ?_)
  (go_wp2_with fail; go_ret; exact ⟨rfl, by (repeat (first | exact Below.refl _ _ | assumption | refine Below.drew ?_ | refine Bl.alloc ?_ _ | refine below_drewN ?_ _ | refine Bl.chain ?_ (by assumption) (Nat.le_refl _)))⟩)

theorem turn_A (v p : Nat) : turnV 65 v p = bf (lft v false) (fres (fset p 1 (tb v 7)) (lft v false)) := by rw [fset1_wth]; rfl
theorem turn_L (v p : Nat) : turnV 76 v p = bf (rgt v false) (fres (fset p 1 (tb v 0)) (rgt v false)) := by rw [fset1_wth]; rfl
theorem fis1_tb (p : Nat) : fis p 1 = tb p 0 := (fis1 p).trans (tb_nat p 0 (by omega)).symm
theorem turn_R (v p : Nat) : turnV 82 v p = bf (lft v (fis p 1)) (fres (fset p 1 (tb v 7)) (lft v (fis p 1))) := by rw [fset1_wth, fis1_tb]; rfl
theorem turn_O (v p : Nat) : turnV 79 v p = bf (rgt v (fis p 1)) (fres (fset p 1 (tb v 0)) (rgt v (fis p 1))) := by rw [fset1_wth, fis1_tb]; rfl
theorem turn_I (v p : Nat) (hp : p < 256) : turnV 73 v p = bf ((v + 1) % 256) (fres p ((v + 1) % 256)) := by
  have : turnV 73 v p = bf ((v + 1) % 256) (fres (wth p 0 (tb p 0)) ((v + 1) % 256)) := rfl
  rw [this, wth0_self p hp]
theorem turn_D (v p : Nat) (hp : p < 256) : turnV 68 v p = bf ((v + 255) % 256) (fres p ((v + 255) % 256)) := by
  have : turnV 68 v p = bf ((v + 255) % 256) (fres (wth p 0 (tb p 0)) ((v + 255) % 256)) := rfl
  rw [this, wth0_self p hp]

theorem logicTurns_calls (v p : Nat) (w : World) (hv : v < 256) (hp : p < 256) :
    Calls Try.prog 5 #[.int .u8 (v : Int), .int .u8 (p : Int)] w fun e w' => e = .returned (.bool true) ∧ Below w.heap.size w w' := by
  go_enter Try.func5, Try.ntmps5
  (go_wp2_with fail; refine Cl.m (live22_calls _) ?_; intro w1 hb1)
  go_wp2_with fail
  go_loopw [5] (fun i wr => ∃ k : Nat, k ≤ 6 ∧ i = .int .i64 (k : Int) ∧ Below w.heap.size w wr) (fun i _ => 6 - (intOf i).toNat)
  case atStart => exact ⟨0, Nat.zero_le _, rfl, hb1⟩
  case round =>
    clear hb1
    obtain ⟨k, hk, rfl, hbel⟩ := hrel
    by_cases hlt : k < 6
    · obtain rfl | rfl | rfl | rfl | rfl | rfl : k = 0 ∨ k = 1 ∨ k = 2 ∨ k = 3 ∨ k = 4 ∨ k = 5 := by omega
      · (go_wp2_with fail; refine Cl.p (lgAsl_calls v p _ hv hp) ?_)
        rw [← turn_A v p]
        obtain ⟨x, y, hxy⟩ : ∃ x y : Nat, turnV 65 v p = bf x y := ⟨_, _, rfl⟩
        rw [hxy]
        unfold bf
        go_wp2_with fail
        refine Cl.m (r22Turn_calls 65 v p _ (by omega) hv hp) ?_
        intro w2 hb2
        rw [hxy]
        unfold bf
        clear hxy
        go_wp2_with fail
        go_roundw
        case rel => exact ⟨1, by omega, rfl, by (repeat (first | exact Below.refl _ _ | assumption | refine Below.drew ?_ | refine Bl.alloc ?_ _ | refine below_drewN ?_ _ | refine Bl.chain ?_ (by assumption) (Nat.le_refl _)))⟩
        case measure => simp [intOf]
      · (go_wp2_with fail; refine Cl.p (lgLsr_calls v p _ hv hp) ?_)
        rw [← turn_L v p]
        obtain ⟨x, y, hxy⟩ : ∃ x y : Nat, turnV 76 v p = bf x y := ⟨_, _, rfl⟩
        rw [hxy]
        unfold bf
        go_wp2_with fail
        refine Cl.m (r22Turn_calls 76 v p _ (by omega) hv hp) ?_
        intro w2 hb2
        rw [hxy]
        unfold bf
        clear hxy
        go_wp2_with fail
        go_roundw
        case rel => exact ⟨2, by omega, rfl, by (repeat (first | exact Below.refl _ _ | assumption | refine Below.drew ?_ | refine Bl.alloc ?_ _ | refine below_drewN ?_ _ | refine Bl.chain ?_ (by assumption) (Nat.le_refl _)))⟩
        case measure => simp [intOf]
      · (go_wp2_with fail; refine Cl.p (lgRol_calls v p _ hv hp) ?_)
        rw [← turn_R v p]
        obtain ⟨x, y, hxy⟩ : ∃ x y : Nat, turnV 82 v p = bf x y := ⟨_, _, rfl⟩
        rw [hxy]
        unfold bf
        go_wp2_with fail
        refine Cl.m (r22Turn_calls 82 v p _ (by omega) hv hp) ?_
        intro w2 hb2
        rw [hxy]
        unfold bf
        clear hxy
        go_wp2_with fail
        go_roundw
        case rel => exact ⟨3, by omega, rfl, by (repeat (first | exact Below.refl _ _ | assumption | refine Below.drew ?_ | refine Bl.alloc ?_ _ | refine below_drewN ?_ _ | refine Bl.chain ?_ (by assumption) (Nat.le_refl _)))⟩
        case measure => simp [intOf]
      · (go_wp2_with fail; refine Cl.p (lgRor_calls v p _ hv hp) ?_)
        rw [← turn_O v p]
        obtain ⟨x, y, hxy⟩ : ∃ x y : Nat, turnV 79 v p = bf x y := ⟨_, _, rfl⟩
        rw [hxy]
        unfold bf
        go_wp2_with fail
        refine Cl.m (r22Turn_calls 79 v p _ (by omega) hv hp) ?_
        intro w2 hb2
        rw [hxy]
        unfold bf
        clear hxy
        go_wp2_with fail
        go_roundw
        case rel => exact ⟨4, by omega, rfl, by (repeat (first | exact Below.refl _ _ | assumption | refine Below.drew ?_ | refine Bl.alloc ?_ _ | refine below_drewN ?_ _ | refine Bl.chain ?_ (by assumption) (Nat.le_refl _)))⟩
        case measure => simp [intOf]
      · (go_wp2_with fail; refine Cl.p (lgInc_calls v p _ hv hp) ?_)
        rw [← turn_I v p hp]
        obtain ⟨x, y, hxy⟩ : ∃ x y : Nat, turnV 73 v p = bf x y := ⟨_, _, rfl⟩
        rw [hxy]
        unfold bf
        go_wp2_with fail
        refine Cl.m (r22Turn_calls 73 v p _ (by omega) hv hp) ?_
        intro w2 hb2
        rw [hxy]
        unfold bf
        clear hxy
        go_wp2_with fail
        go_roundw
        case rel => exact ⟨5, by omega, rfl, by (repeat (first | exact Below.refl _ _ | assumption | refine Below.drew ?_ | refine Bl.alloc ?_ _ | refine below_drewN ?_ _ | refine Bl.chain ?_ (by assumption) (Nat.le_refl _)))⟩
        case measure => simp [intOf]
      · (go_wp2_with fail; refine Cl.p (lgDec_calls v p _ hv hp) ?_)
        rw [← turn_D v p hp]
        obtain ⟨x, y, hxy⟩ : ∃ x y : Nat, turnV 68 v p = bf x y := ⟨_, _, rfl⟩
        rw [hxy]
        unfold bf
        go_wp2_with fail
        refine Cl.m (r22Turn_calls 68 v p _ (by omega) hv hp) ?_
        intro w2 hb2
        rw [hxy]
        unfold bf
        clear hxy
        go_wp2_with fail
        go_roundw
        case rel => exact ⟨6, by omega, rfl, by (repeat (first | exact Below.refl _ _ | assumption | refine Below.drew ?_ | refine Bl.alloc ?_ _ | refine below_drewN ?_ _ | refine Bl.chain ?_ (by assumption) (Nat.le_refl _)))⟩
        case measure => simp [intOf]
    · obtain rfl : k = 6 := by omega
      (go_wp2_with fail; go_ret; exact ⟨rfl, by (repeat (first | exact Below.refl _ _ | assumption | refine Below.drew ?_ | refine Bl.alloc ?_ _ | refine below_drewN ?_ _ | refine Bl.chain ?_ (by assumption) (Nat.le_refl _)))⟩)

section
open Go.ChangeShapes Go.WideShapes Go.ChangeAt
variable {H : Type} {enc : TypeId × Value → H} {W : World} {base : Nat}
theorem walk_LogicJoins {v0 v1 v2 : Value} {d0 d1 d2 : DataW H} {p0 p1 p2 : List MemPlace}
    (_hsh : W.ShapedOpen Try.prog) (_hsz : (DataW.weightsEach Try.prog [5, 5, 5] [d0, d1, d2]).all (· ≤ reachBytes) = true)
    (hv0 : Value.okWide Try.prog W .any base 5 v0) (hd0 : DataW.Trod enc Try.prog W 0 (fun _ => true) true 5 v0 d0 p0) (hv1 : Value.okWide Try.prog W .any base 5 v1) (hd1 : DataW.Trod enc Try.prog W 0 (fun _ => true) true 5 v1 d1 p1) (hv2 : Value.okWide Try.prog W .any base 5 v2) (hd2 : DataW.Trod enc Try.prog W 0 (fun _ => true) true 5 v2 d2 p2) :
    Calls Try.prog 3 #[v0, v1, v2] W fun e W' => e = .returned (.bool true) ∧ Below W.heap.size W W' := by
  obtain ⟨x0, rfl, h0⟩ := open_u8 Try.underlying5 hv0 hd0
  obtain ⟨x1, rfl, h1⟩ := open_u8 Try.underlying5 hv1 hd1
  obtain ⟨x2, rfl, h2⟩ := open_u8 Try.underlying5 hv2 hd2
  exact logicJoins_calls x0 x1 x2 W h0 h1 h2
theorem walk_LogicUndoes {v0 v1 v2 : Value} {d0 d1 d2 : DataW H} {p0 p1 p2 : List MemPlace}
    (_hsh : W.ShapedOpen Try.prog) (_hsz : (DataW.weightsEach Try.prog [5, 5, 5] [d0, d1, d2]).all (· ≤ reachBytes) = true)
    (hv0 : Value.okWide Try.prog W .any base 5 v0) (hd0 : DataW.Trod enc Try.prog W 0 (fun _ => true) true 5 v0 d0 p0) (hv1 : Value.okWide Try.prog W .any base 5 v1) (hd1 : DataW.Trod enc Try.prog W 0 (fun _ => true) true 5 v1 d1 p1) (hv2 : Value.okWide Try.prog W .any base 5 v2) (hd2 : DataW.Trod enc Try.prog W 0 (fun _ => true) true 5 v2 d2 p2) :
    Calls Try.prog 4 #[v0, v1, v2] W fun e W' => e = .returned (.bool true) ∧ Below W.heap.size W W' := by
  obtain ⟨x0, rfl, h0⟩ := open_u8 Try.underlying5 hv0 hd0
  obtain ⟨x1, rfl, h1⟩ := open_u8 Try.underlying5 hv1 hd1
  obtain ⟨x2, rfl, h2⟩ := open_u8 Try.underlying5 hv2 hd2
  exact logicUndoes_calls x0 x1 x2 W h0 h1 h2
theorem walk_LogicTurns {v0 v1 : Value} {d0 d1 : DataW H} {p0 p1 : List MemPlace}
    (_hsh : W.ShapedOpen Try.prog) (_hsz : (DataW.weightsEach Try.prog [5, 5] [d0, d1]).all (· ≤ reachBytes) = true)
    (hv0 : Value.okWide Try.prog W .any base 5 v0) (hd0 : DataW.Trod enc Try.prog W 0 (fun _ => true) true 5 v0 d0 p0) (hv1 : Value.okWide Try.prog W .any base 5 v1) (hd1 : DataW.Trod enc Try.prog W 0 (fun _ => true) true 5 v1 d1 p1) :
    Calls Try.prog 5 #[v0, v1] W fun e W' => e = .returned (.bool true) ∧ Below W.heap.size W W' := by
  obtain ⟨x0, rfl, h0⟩ := open_u8 Try.underlying5 hv0 hd0
  obtain ⟨x1, rfl, h1⟩ := open_u8 Try.underlying5 hv1 hd1
  exact logicTurns_calls x0 x1 W h0 h1
end
end Go.Proofs.Ytbnpjmmgnijjlaa
