/-
  gannetref22: all of it.
-/
import Derived.Test.YtbnpjmmgnijjlaaLogic
import Derived.Test.YtbnpjmmgnijjlaaR01b
namespace Go.Proofs.Ytbnpjmmgnijjlaa
open Go.RowKit Pl

theorem r22Test_calls (a m p : Nat) (w : World) (ha : a < 256) (hm : m < 256) (hp : p < 256) :
    Calls Try.prog 12 #[.int .u8 (a : Int), .int .u8 (m : Int), .int .u8 (p : Int)] w fun e w' => e = .returned (.int .u8 (tst a m p : Nat)) ∧ Below w.heap.size w w' := by
  go_enter Try.func12, Try.ntmps12
  go_wp2_with fail
  go_loop [7, 8] (fun x i => ∃ k : Nat, k ≤ 8 ∧ x = .bool (noneK a m k) ∧ i = .int .i64 (k : Int)) (fun _ i => 8 - (intOf i).toNat)
  case atStart => exact ⟨0, Nat.zero_le _, rfl, rfl⟩
  case round =>
    obtain ⟨k, hk, rfl, rfl⟩ := hrel
    by_cases hlt : k < 8
    · have hlt' : (k : Int) < 8 := by omega
      have hA := tb_nat a k (by omega)
      have hM := tb_nat m k (by omega)
      have hN : noneK a m (k + 1) = (noneK a m k && !(a.testBit k && m.testBit k)) := rfl
      (go_wp2_with fail; refine Cl.p (refBit_calls a (k : Int) _ ha) ?_)
      rw [hA]
      cases h1 : a.testBit k
      · have hN1 : noneK a m (k + 1) = noneK a m k := by rw [hN, h1]; simp
        have HN := hide hN1
        clear hN hN1 h1 hA hM
        go_wp2_with fail
        go_round
        case rel => exact ⟨k + 1, by omega, by rw [HN.out], by go_num⟩
        case measure => simp [intOf]; omega
      · (go_wp2_with fail; refine Cl.p (refBit_calls m (k : Int) _ hm) ?_)
        rw [hM]
        cases h2 : m.testBit k
        · have hN1 : noneK a m (k + 1) = noneK a m k := by rw [hN, h1, h2]; simp
          have HN := hide hN1
          clear hN hN1 h1 h2 hA hM
          go_wp2_with fail
          go_round
          case rel => exact ⟨k + 1, by omega, by rw [HN.out], by go_num⟩
          case measure => simp [intOf]; omega
        · have hN1 : noneK a m (k + 1) = false := by rw [hN, h1, h2]; simp
          have HN := hide hN1
          clear hN hN1 h1 h2 hA hM
          go_wp2_with fail
          go_round
          case rel => exact ⟨k + 1, by omega, by rw [HN.out], by go_num⟩
          case measure => simp [intOf]; omega
    · obtain rfl : k = 8 := by omega
      rw [noneK_all a m hm]
      (go_wp2_with fail; refine Cl.p (refBit_calls m 7 _ hm) ?_)
      (go_wp2_with fail; refine Cl.m (r20Set_calls p 7 (tb m 7) _ hp) ?_; intro w1 hb1)
      (go_wp2_with fail; refine Cl.p (refBit_calls m 6 _ hm) ?_)
      (go_wp2_with fail; refine Cl.m (r20Set_calls _ 6 (tb m 6) _ (wth_lt hp)) ?_; intro w2 hb2)
      (go_wp2_with fail; refine Cl.m (r20Set_calls _ 1 (a &&& m == 0) _ (wth_lt (wth_lt hp))) ?_; intro w3 hb3)
      go_wp2_with fail
      go_ret
      exact ⟨rfl, by (repeat (first | exact Below.refl _ _ | assumption | refine Below.drew ?_ | refine Bl.alloc ?_ _ | refine below_drewN ?_ _ | refine Bl.chain ?_ (by assumption) (Nat.le_refl _)))⟩

theorem r22Lay_calls (a m : Nat) (on : Bool) (w : World) (ha : a < 256) (hm : m < 256) :
    Calls Try.prog 16 #[.int .u8 (a : Int), .int .u8 (m : Int), .bool on] w fun e w' => e = .returned (.int .u8 (layK a m on 8 : Nat)) ∧ Below w.heap.size w w' := by
  go_enter Try.func16, Try.ntmps16
  go_wp2_with fail
  go_loopw [1, 7] (fun x i wr => ∃ k : Nat, k ≤ 8 ∧ x = .int .u8 ((layK a m on k : Nat) : Int) ∧ i = .int .i64 (k : Int) ∧ Below w.heap.size w wr) (fun _ i _ => 8 - (intOf i).toNat)
  case atStart => exact ⟨0, Nat.zero_le _, rfl, rfl, Below.refl _ _⟩
  case round =>
    obtain ⟨k, hk, rfl, rfl, hbel⟩ := hrel
    by_cases hlt : k < 8
    · have hlt' : (k : Int) < 8 := by omega
      have hA := tb_nat a k (by omega)
      have hN : layK a m on (k + 1) = if a.testBit k then wth (layK a m on k) (k : Int) on else layK a m on k := rfl
      have hL := layK_lt a on hm k
      (go_wp2_with fail; refine Cl.p (refBit_calls a (k : Int) _ ha) ?_)
      rw [hA]
      cases h1 : a.testBit k
      · have hN1 : layK a m on (k + 1) = layK a m on k := by rw [hN, h1]; rfl
        have HN := hide hN1
        clear hN hN1 h1 hA
        go_wp2_with fail
        go_roundw
        case rel => exact ⟨k + 1, by omega, by rw [HN.out], by go_num, hbel⟩
        case measure => simp [intOf]; omega
      · have hN1 : layK a m on (k + 1) = wth (layK a m on k) (k : Int) on := by rw [hN, h1]; rfl
        have HN := hide hN1
        clear hN hN1 h1 hA
        (go_wp2_with fail; refine Cl.m (refWith_calls (layK a m on k) (k : Int) on _ hL) ?_; intro w1 hb1)
        go_wp2_with fail
        go_roundw
        case rel => exact ⟨k + 1, by omega, by rw [HN.out], by go_num, by (repeat (first | exact Below.refl _ _ | assumption | refine Below.drew ?_ | refine Bl.alloc ?_ _ | refine below_drewN ?_ _ | refine Bl.chain ?_ (by assumption) (Nat.le_refl _)))⟩
        case measure => simp [intOf]; omega
    · obtain rfl : k = 8 := by omega
      go_wp2_with fail
      go_ret
      exact ⟨rfl, hbel⟩

theorem r22And_calls (a b : Nat) (w : World) (ha : a < 256) (hb : b < 256) :
    Calls Try.prog 13 #[.int .u8 (a : Int), .int .u8 (b : Int)] w fun e w' => e = .returned (.int .u8 (a &&& b : Nat)) ∧ Below w.heap.size w w' := by
  have h255 : (255 : Int) - (a : Int) = ((255 - a : Nat) : Int) := by omega
  have H255 := hide h255
  clear h255
  go_enter Try.func13, Try.ntmps13
  go_wp2_with fail
  rw [H255.out]
  refine Cl.m (r22Lay_calls (255 - a) b false _ (by omega) hb) ?_
  intro w1 hb1
  rw [lay_and a b ha hb]
  go_wp2_with fail
  go_ret
  exact ⟨rfl, hb1⟩

theorem r22Or_calls (a b : Nat) (w : World) (ha : a < 256) (hb : b < 256) :
    Calls Try.prog 14 #[.int .u8 (a : Int), .int .u8 (b : Int)] w fun e w' => e = .returned (.int .u8 (a ||| b : Nat)) ∧ Below w.heap.size w w' := by
  go_enter Try.func14, Try.ntmps14
  (go_wp2_with fail; refine Cl.m (r22Lay_calls a b true _ ha hb) ?_; intro w1 hb1)
  rw [lay_on a b ha hb, Nat.or_comm]
  go_wp2_with fail
  go_ret
  exact ⟨rfl, hb1⟩

def xorK (a b k : Nat) : Nat → Bool := fun i => if i < k then a.testBit i != b.testBit i else false
theorem xorK_succ (a b k : Nat) : ∀ i, i < 8 → upd (xorK a b k) k (a.testBit k != b.testBit k) i = xorK a b (k + 1) i := by
  intro i _
  unfold upd xorK
  by_cases e : i = k
  · subst e
    rw [if_pos rfl, if_pos (by omega)]
  · rw [if_neg e]
    by_cases h1 : i < k
    · rw [if_pos h1, if_pos (by omega)]
    · rw [if_neg h1, if_neg (by omega)]
theorem xorK_all (a b : Nat) : ∀ i, i < 8 → xorK a b 8 i = (a.testBit i != b.testBit i) := fun i hi => by unfold xorK; rw [if_pos hi]

theorem r22Eor_calls (a b : Nat) (w : World) (ha : a < 256) (hb : b < 256) :
    Calls Try.prog 15 #[.int .u8 (a : Int), .int .u8 (b : Int)] w fun e w' => e = .returned (.int .u8 (a ^^^ b : Nat)) ∧ Below w.heap.size w w' := by
  go_enter Try.func15, Try.ntmps15
  go_wp2_with fail
  go_loopw [6] (fun i wr => ∃ k : Nat, k ≤ 8 ∧ i = .int .i64 (k : Int) ∧ wr = w.alloc (.cells (bools (xorK a b k)) 38)) (fun i _ => 8 - (intOf i).toNat)
  case atStart => exact ⟨0, Nat.zero_le _, rfl, rfl⟩
  case round =>
    obtain ⟨k, hk, rfl, rfl⟩ := hrel
    by_cases hlt : k < 8
    · have hlt' : (k : Int) < 8 := by omega
      have hA := tb_nat a k (by omega)
      have hB := tb_nat b k (by omega)
      have hg := bools_get (xorK a b k) k hlt
      have hs := fun x => bools_set (xorK a b k) k x hlt
      have e1 := bools_congr (xorK_succ a b k)
      have E1 := hide e1; clear e1
      (go_wp2_with fail; refine Cl.p (refBit_calls a (k : Int) _ ha) ?_)
      rw [hA]
      (go_wp2_with fail; refine Cl.p (refBit_calls b (k : Int) _ hb) ?_)
      rw [hB]
      clear hA hB
      go_wp2_with fail
      go_roundw
      case rel => exact ⟨k + 1, by omega, by go_num, by rw [← E1.out, show (!a.testBit k == b.testBit k) = (a.testBit k != b.testBit k) from by cases a.testBit k <;> cases b.testBit k <;> rfl]⟩
      case measure => simp [intOf]; omega
    · obtain rfl : k = 8 := by omega
      rw [bools_congr (xorK_all a b)]
      have h1 : Blk (w.alloc (.cells (bools fun i => a.testBit i != b.testBit i) 38)) w.heap.size 38 (bools fun i => a.testBit i != b.testBit i) := heap_alloc_new w _
      go_wp2_with (refine wpList_load_row rfl 38 _ rfl w.heap.size rfl 38 _ (0, 0) _ h1 Try.underlying38 rfl (by kernel_rfl) ?_)
      refine Cl.m (refOf_calls (fun i => a.testBit i != b.testBit i) _) ?_
      intro w1 hb1
      rw [xor_of a b ha hb]
      go_wp2_with fail
      go_ret
      exact ⟨rfl, by (repeat (first | exact Below.refl _ _ | assumption | refine Below.drew ?_ | refine Bl.alloc ?_ _ | refine below_drewN ?_ _ | refine Bl.chain ?_ (by assumption) (Nat.le_refl _)))⟩

def turnR (c v p : Nat) : Nat := if c = 65 then lft v false else if c = 76 then rgt v false else if c = 82 then lft v (tb p 0) else if c = 79 then rgt v (tb p 0) else if c = 73 then (v + 1) % 256 else (v + 255) % 256
def turnO (c v p : Nat) : Bool := if c = 65 then tb v 7 else if c = 76 then tb v 0 else if c = 82 then tb v 7 else if c = 79 then tb v 0 else tb p 0
def turnV (c v p : Nat) : Value := bf (turnR c v p) (fres (wth p 0 (turnO c v p)) (turnR c v p))

theorem r22Turn_calls (c v p : Nat) (w : World) (hc : c < 256) (hv : v < 256) (hp : p < 256) :
    Calls Try.prog 26 #[.int .u8 (c : Int), .int .u8 (v : Int), .int .u8 (p : Int)] w fun e w' => e = .returned (turnV c v p) ∧ Below w.heap.size w w' := by
  have hw1 : ((v : Int) + 1) % 256 = (((v + 1) % 256 : Nat) : Int) := by omega
  have Hw1 := hide hw1
  have hw2 : ((v : Int) - 1) % 256 = (((v + 255) % 256 : Nat) : Int) := by omega
  have Hw2 := hide hw2
  clear hw1 hw2
  by_cases c1 : c = 65
  · subst c1
    go_enter Try.func26, Try.ntmps26
    (go_wp2_with fail; refine Cl.p (r20Is_calls p 0 _ hp) ?_)
    (go_wp2_with fail; refine Cl.m (refLeft_calls v false _ hv) ?_; intro w1 hb1)
    (go_wp2_with fail; refine Cl.m (r20Set_calls p 0 (tb v 7) _ hp) ?_; intro w2 hb2)
    (go_wp2_with fail; refine Cl.m (r20Result_calls _ (lft v false) _ (wth_lt hp) (lft_lt v _)) ?_; intro w3 hb3)
    go_wp2_with fail
    go_ret2
    exact ⟨rfl, by (repeat (first | exact Below.refl _ _ | assumption | refine Below.drew ?_ | refine Bl.alloc ?_ _ | refine below_drewN ?_ _ | refine Bl.chain ?_ (by assumption) (Nat.le_refl _)))⟩
  by_cases c2 : c = 76
  · subst c2
    go_enter Try.func26, Try.ntmps26
    (go_wp2_with fail; refine Cl.p (r20Is_calls p 0 _ hp) ?_)
    (go_wp2_with fail; refine Cl.m (refRight_calls v false _ hv) ?_; intro w1 hb1)
    (go_wp2_with fail; refine Cl.m (r20Set_calls p 0 (tb v 0) _ hp) ?_; intro w2 hb2)
    (go_wp2_with fail; refine Cl.m (r20Result_calls _ (rgt v false) _ (wth_lt hp) (rgt_lt _ hv)) ?_; intro w3 hb3)
    go_wp2_with fail
    go_ret2
    exact ⟨rfl, by (repeat (first | exact Below.refl _ _ | assumption | refine Below.drew ?_ | refine Bl.alloc ?_ _ | refine below_drewN ?_ _ | refine Bl.chain ?_ (by assumption) (Nat.le_refl _)))⟩
  by_cases c3 : c = 82
  · subst c3
    go_enter Try.func26, Try.ntmps26
    (go_wp2_with fail; refine Cl.p (r20Is_calls p 0 _ hp) ?_)
    (go_wp2_with fail; refine Cl.m (refLeft_calls v (tb p 0) _ hv) ?_; intro w1 hb1)
    (go_wp2_with fail; refine Cl.m (r20Set_calls p 0 (tb v 7) _ hp) ?_; intro w2 hb2)
    (go_wp2_with fail; refine Cl.m (r20Result_calls _ (lft v (tb p 0)) _ (wth_lt hp) (lft_lt v _)) ?_; intro w3 hb3)
    go_wp2_with fail
    go_ret2
    exact ⟨rfl, by (repeat (first | exact Below.refl _ _ | assumption | refine Below.drew ?_ | refine Bl.alloc ?_ _ | refine below_drewN ?_ _ | refine Bl.chain ?_ (by assumption) (Nat.le_refl _)))⟩
  by_cases c4 : c = 79
  · subst c4
    go_enter Try.func26, Try.ntmps26
    (go_wp2_with fail; refine Cl.p (r20Is_calls p 0 _ hp) ?_)
    (go_wp2_with fail; refine Cl.m (refRight_calls v (tb p 0) _ hv) ?_; intro w1 hb1)
    (go_wp2_with fail; refine Cl.m (r20Set_calls p 0 (tb v 0) _ hp) ?_; intro w2 hb2)
    (go_wp2_with fail; refine Cl.m (r20Result_calls _ (rgt v (tb p 0)) _ (wth_lt hp) (rgt_lt _ hv)) ?_; intro w3 hb3)
    go_wp2_with fail
    go_ret2
    exact ⟨rfl, by (repeat (first | exact Below.refl _ _ | assumption | refine Below.drew ?_ | refine Bl.alloc ?_ _ | refine below_drewN ?_ _ | refine Bl.chain ?_ (by assumption) (Nat.le_refl _)))⟩
  by_cases c5 : c = 73
  · subst c5
    go_enter Try.func26, Try.ntmps26
    (go_wp2_with fail; refine Cl.p (r20Is_calls p 0 _ hp) ?_)
    (go_wp2_with fail; refine Cl.m (r20Set_calls p 0 (tb p 0) _ hp) ?_; intro w2 hb2)
    go_wp2_with fail
    rw [Hw1.out]
    refine Cl.m (r20Result_calls _ ((v + 1) % 256) _ (wth_lt hp) (Nat.mod_lt _ (by omega))) ?_
    intro w3 hb3
    go_wp2_with fail
    go_ret2
    exact ⟨rfl, by (repeat (first | exact Below.refl _ _ | assumption | refine Below.drew ?_ | refine Bl.alloc ?_ _ | refine below_drewN ?_ _ | refine Bl.chain ?_ (by assumption) (Nat.le_refl _)))⟩
  · have d1 : ((c : Int) == 65) = false := by rw [beq_eq_false_iff_ne]; omega
    have d2 : ((c : Int) == 76) = false := by rw [beq_eq_false_iff_ne]; omega
    have d3 : ((c : Int) == 82) = false := by rw [beq_eq_false_iff_ne]; omega
    have d4 : ((c : Int) == 79) = false := by rw [beq_eq_false_iff_ne]; omega
    have d5 : ((c : Int) == 73) = false := by rw [beq_eq_false_iff_ne]; omega
    have e1 : turnV c v p = bf ((v + 255) % 256) (fres (wth p 0 (tb p 0)) ((v + 255) % 256)) := by
      unfold turnV turnR turnO
      rw [if_neg c1, if_neg c2, if_neg c3, if_neg c4, if_neg c5, if_neg c1, if_neg c2, if_neg c3, if_neg c4]
    have E1 := hide e1
    clear e1
    go_enter Try.func26, Try.ntmps26
    (go_wp2_with fail; refine Cl.p (r20Is_calls p 0 _ hp) ?_)
    (go_wp2_with fail; refine Cl.m (r20Set_calls p 0 (tb p 0) _ hp) ?_; intro w2 hb2)
    go_wp2_with fail
    rw [Hw2.out]
    refine Cl.m (r20Result_calls _ ((v + 255) % 256) _ (wth_lt hp) (Nat.mod_lt _ (by omega))) ?_
    intro w3 hb3
    go_wp2_with fail
    go_ret2
    exact ⟨by rw [E1.out]; rfl, by (repeat (first | exact Below.refl _ _ | assumption | refine Below.drew ?_ | refine Bl.alloc ?_ _ | refine below_drewN ?_ _ | refine Bl.chain ?_ (by assumption) (Nat.le_refl _)))⟩
end Go.Proofs.Ytbnpjmmgnijjlaa
