/-
  gannetlaw18: MmuFixed, MmuBack.
-/
import Derived.Test.YtjaibacpojpfhaaL18
import Derived.Test.YtjaibacpojpfhaaR03
import Derived.Test.YtjaibacpojpfhaaRbit
import Derived.Test.YtjaibacpojpfhaaOpenA
namespace Go.Proofs.Ytjaibacpojpfhaa
open Go.RowKit Pl

def prtA : Array Value := #[.int .u32 2088960, .int .u32 2088962, .int .u32 2088963]
theorem rPorts_calls (w : World) : Calls Try.prog 23 #[] w fun e w' => e = .returned (.agg prtA) ∧ Below w.heap.size w w' := by
  go_enter Try.func23, Try.ntmps23
  go_wp2_with fail
  refine bodyPost_ret (results_cell_row rfl _ _ w.heap.size 49 prtA (0, 0) _ rfl (heap_alloc_new w _) Try.underlying49 rfl (by kernel_rfl)) rfl ⟨rfl, (Below.refl _ _).alloc (Nat.le_refl _) _⟩
set_option maxRecDepth 100000 in
set_option maxHeartbeats 8000000 in
theorem mmuFixed_calls (b : Nat) (n : Int) (w : World) (hb : b < 256) :
    Calls Try.prog 6 #[.int .u8 (b : Int), .int .i64 n] w fun e w' => e = .returned (.bool true) ∧ Below w.heap.size w w' := by
  have hP := fun W => mmPort_calls n W
  by_cases h0 : n < 0
  · rw [if_pos (Or.inl h0), decide_eq_false (by omega)] at hP
    go_enter Try.func6, Try.ntmps6
    (go_wp2_with fail; refine Cl.m (live18_calls _) ?_; intro w1 hb1)
    (go_wp2_with fail; refine Cl.m (hP _) ?_; intro w2 hb2)
    (go_wp2_with fail; go_ret; exact ⟨rfl, by (repeat (first | exact Below.refl _ _ | assumption | refine Below.drew ?_ | refine Bl.alloc ?_ _ | refine below_drewN ?_ _ | refine Bl.chain ?_ (by assumption) (Nat.le_refl _)))⟩)
  · have i0 : (decide (n < 0)) = false := by rw [decide_eq_false_iff_not]; exact h0
    by_cases h1 : 2 < n
    · rw [if_pos (Or.inr h1), decide_eq_false (by omega)] at hP
      clear h0
      go_enter Try.func6, Try.ntmps6
      (go_wp2_with fail; refine Cl.m (live18_calls _) ?_; intro w1 hb1)
      (go_wp2_with fail; refine Cl.m (hP _) ?_; intro w2 hb2)
      (go_wp2_with fail; go_ret; exact ⟨rfl, by (repeat (first | exact Below.refl _ _ | assumption | refine Below.drew ?_ | refine Bl.alloc ?_ _ | refine below_drewN ?_ _ | refine Bl.chain ?_ (by assumption) (Nat.le_refl _)))⟩)
    · rw [if_neg (by omega), decide_eq_true (by omega)] at hP
      have hn : n = 0 ∨ n = 1 ∨ n = 2 := by omega
      have hz := fun W => mmZero_calls b W hb
      have hs := fun W => mmStack_calls b W hb
      have z1 : (((8192 + b : Nat) : Int) == 8192 + (b : Int)) = true := by rw [beq_iff_eq]; omega
      have z2 : (((8448 + b : Nat) : Int) == 8448 + (b : Int)) = true := by rw [beq_iff_eq]; omega
      have hw3 : ∀ p : Nat, p = 2088960 ∨ p = 2088962 ∨ p = 2088963 → whr p = 3 := by
        intro p hp
        rcases hp with rfl | rfl | rfl <;> decide +kernel
      obtain ⟨N, hN, rfl⟩ : ∃ N : Nat, N < 3 ∧ n = (N : Int) := ⟨n.toNat, by omega, by omega⟩
      have hx : ∀ W, (Instr.index 49 (.agg #[.int .u32 2088960, .int .u32 2088962, .int .u32 2088963]) (.int .i64 (N : Int))).run Try.prog W = .ok (.int .u32 (prt N : Nat)) W := fun W =>
        run_index_row 49 36 3 Try.underlying49 (fun _ => by kernel_rfl) (fun _ => by kernel_rfl) _ .i64 N hN _ (by
          have h3 : N = 0 ∨ N = 1 ∨ N = 2 := by omega
          rcases h3 with rfl | rfl | rfl <;> rfl) W
      have hp3 : prt N = 2088960 ∨ prt N = 2088962 ∨ prt N = 2088963 := by
        have h3 : N = 0 ∨ N = 1 ∨ N = 2 := by omega
        rcases h3 with rfl | rfl | rfl <;> simp [prt]
      have hW := fun W => r03Where_calls (prt N) W (by omega)
      rw [hw3 _ hp3] at hW
      rw [Int.toNat_natCast] at hP
      have i1 : (decide ((2 : Int) < (N : Int))) = false := by rw [decide_eq_false_iff_not]; exact h1
      have zp : ((prt N : Int) == (prt N : Int)) = true := beq_self_eq_true _
      generalize prt N = Q at *
      clear h0 h1 hn hp3 hw3
      go_enter Try.func6, Try.ntmps6
      (go_wp2_with fail; refine Cl.m (live18_calls _) ?_; intro w1 hb1)
      (go_wp2_with fail; refine Cl.m (hP _) ?_; intro w2 hb2)
      (go_wp2_with fail; refine Cl.p (hz _) ?_)
      (go_wp2_with fail; refine Cl.p (hs _) ?_)
      (go_wp2_with fail; refine Cl.m (rPorts_calls _) ?_; intro w3 hb3)
      unfold prtA
      (go_wp2_with fail; refine Cl.m (hW _) ?_; intro w4 hb4)
      (go_wp2_with fail; go_ret; exact ⟨rfl, by (repeat (first | exact Below.refl _ _ | assumption | refine Below.drew ?_ | refine Bl.alloc ?_ _ | refine below_drewN ?_ _ | refine Bl.chain ?_ (by assumption) (Nat.le_refl _)))⟩)
theorem get_bit (j : Nat) (A : Nat → Nat) (l : Nat) (h : j < 8) : getK (2 ^ j) A l = A j := by
  have : (eL (tbN (2 ^ j)) 8).map (·.1) = [j] := by
    have h8 : j = 0 ∨ j = 1 ∨ j = 2 ∨ j = 3 ∨ j = 4 ∨ j = 5 ∨ j = 6 ∨ j = 7 := by omega
    clear h
    rcases h8 with rfl | rfl | rfl | rfl | rfl | rfl | rfl | rfl <;> decide +kernel
  unfold getK
  match eL (tbN (2 ^ j)) 8, this with
  | x :: _, this =>
    simp at this
    show A x.1 = A j
    rw [this.1]
set_option maxRecDepth 100000 in
set_option maxHeartbeats 8000000 in
theorem mmuBack_calls (k b : Nat) (A : Nat → Nat) (w : World) (hk : k < 256) :
    Calls Try.prog 5 #[.agg (bk8 A), .int .u8 (k : Int), .int .u8 (b : Int)] w fun e w' => e = .returned (.bool true) ∧ Below w.heap.size w w' := by
  have hO : ∀ W, Calls Try.prog 8 #[.agg (bk8 A), .int .u8 0] W fun e w' => ∃ g, e = .returned (.pointer (some ⟨g, 0, none⟩)) ∧ MB w' g A 0 ∧ W.heap.size ≤ g ∧ Below W.heap.size W w' := fun W => mmOf_calls 0 A W
  have hX0 : Blk (w.alloc (.cells (bk8 A) 22)) w.heap.size 22 (bk8 A) := Blk.new _ _ _
  have hbA : Below w.heap.size w (w.alloc (.cells (bk8 A) 22)) := Bl.alloc (Below.refl _ _) _
  go_enter Try.func5, Try.ntmps5
  (go_wp2_with fail; refine Cl.m (live18_calls _) ?_; intro w1 hb1)
  have hX1 := hX0.below hb1 hX0.lt
  have hb01 : Below w.heap.size w w1 := hbA.trans (hb1.mono hbA.size)
  go_wp2_with (refine wpList_load_row rfl 22 _ rfl w.heap.size rfl _ (bk8 A) (0, 0) _ hX1 Try.underlying22 rfl (by kernel_rfl) ?_)
  refine (hO _).mono ?_
  rintro e w2 ⟨g, rfl, hM2, hg, hb2⟩
  have hX2 := hX1.below hb2 hX1.lt
  have hb02 : Below w.heap.size w w2 := hb01.trans (hb2.mono hb01.size)
  go_wp2_with fail
  refine (mmSet_calls g k b 0 A _ hk hM2).mono ?_
  rintro e w3 ⟨⟨_, rfl⟩, hM3, ho3⟩
  have hgX : w.heap.size < g := Nat.lt_of_lt_of_le hX1.lt hg
  have hX3 := hX2.only ho3 (by omega)
  have hb03 : Below w.heap.size w w3 := hb02.trans (ho3.below hb02.size (fun j e => by omega))
  clear hO hX0 hbA hb1 hX1 hb01 hM2 hb2 hX2 hb02 ho3
  go_wp2_with fail
  go_loopw [8] (fun i wr => ∃ j l : Nat, j ≤ 8 ∧ i = .int .i64 (j : Int) ∧ MB wr g (setK k b A) l ∧ Only (fun q => q = g) w3 wr) (fun i _ => 8 - (intOf i).toNat)
  case atStart => exact ⟨0, b, by omega, rfl, hM3, Only.refl _ _⟩
  case round =>
    obtain ⟨j, l, hj, rfl, hM, hor⟩ := hrel
    by_cases hjn : j < 8
    · have hjn' : (j : Int) < 8 := by omega
      have hXr := hX3.only hor (by omega)
      have x0 : wr.cell? ⟨w.heap.size, j, none⟩ = some (.int .u8 (A j : Int)) := (hXr.cell j).trans (bk8_get A j hjn)
      obtain ⟨m, hm⟩ : ∃ m : Nat, 2 ^ j = m := ⟨_, rfl⟩
      have hm256 : m < 256 := by rw [← hm]; exact Nat.lt_of_le_of_lt (Nat.pow_le_pow_right (by omega) (show j ≤ 7 by omega)) (by decide)
      have hG := mmGet_calls g m l (setK k b A) wr hm256 hM
      have hgb := get_bit j (setK k b A) l hjn
      rw [hm] at hgb
      rw [hgb] at hG
      have hpw : (2 : Int) ^ j % 256 = (m : Int) := by rw [← hm]; exact pow_mod j (by omega)
      clear hm hgb
      have hbit := fun W => refBit_calls k (j : Int) W hk
      have hsk : setK k b A j = if tb k (j : Int) = true then b else A j := rfl
      by_cases hp : tb k (j : Int) = true
      · rw [hp] at hbit
        rw [if_pos hp] at hsk
        rw [hsk] at hG
        clear hp hsk
        go_wp2_with fail
        refine Cl.p (hbit _) ?_
        go_wp2_with fail
        refine hG.mono ?_
        rintro e w5 ⟨rfl, hM5, ho5⟩
        have zb : ((b : Int) != (b : Int)) = false := bne_self_eq_false _
        go_wp2_with fail
        refine Cl.p (mmLast_calls g b _ _ hM5) ?_
        go_wp2_with fail
        go_roundw
        case rel => exact ⟨j + 1, b, by omega, by go_num, hM5, hor.trans ho5⟩
        case measure => simp [intOf]; omega
      · have hp : tb k (j : Int) = false := by simpa using hp
        rw [hp] at hbit
        rw [if_neg (by rw [hp]; simp)] at hsk
        rw [hsk] at hG
        clear hp hsk
        go_wp2_with fail
        refine Cl.p (hbit _) ?_
        go_wp2_with fail
        refine hG.mono ?_
        rintro e w5 ⟨rfl, hM5, ho5⟩
        have zb : ((A j : Int) != (A j : Int)) = false := bne_self_eq_false _
        go_wp2_with fail
        refine Cl.p (mmLast_calls g (A j) _ _ hM5) ?_
        go_wp2_with fail
        go_roundw
        case rel => exact ⟨j + 1, A j, by omega, by go_num, hM5, hor.trans ho5⟩
        case measure => simp [intOf]; omega
    · obtain rfl : j = 8 := by omega
      go_wp2_with fail
      go_ret
      exact ⟨rfl, hb03.trans (hor.below hb03.size (fun q e => by omega))⟩
section
open Go.ChangeShapes Go.WideShapes Go.ChangeAt
variable {H : Type} {enc : TypeId × Value → H} {W : World} {base : Nat}
theorem walk_MmuBack {v0 v1 v2 : Value} {d0 d1 d2 : DataW H} {p0 p1 p2 : List MemPlace}
    (_hsh : W.ShapedOpen Try.prog) (_hsz : (DataW.weightsEach Try.prog [22, 5, 5] [d0, d1, d2]).all (· ≤ reachBytes) = true)
    (hv0 : Value.okWide Try.prog W .any base 22 v0) (hd0 : DataW.Trod enc Try.prog W 0 (fun _ => true) true 22 v0 d0 p0) (hv1 : Value.okWide Try.prog W .any base 5 v1) (hd1 : DataW.Trod enc Try.prog W 0 (fun _ => true) true 5 v1 d1 p1) (hv2 : Value.okWide Try.prog W .any base 5 v2) (hd2 : DataW.Trod enc Try.prog W 0 (fun _ => true) true 5 v2 d2 p2) :
    Calls Try.prog 5 #[v0, v1, v2] W fun e W' => e = .returned (.bool true) ∧ Below W.heap.size W W' := by
  obtain ⟨l0, rfl, hl0⟩ := open_arr Try.underlying22 Try.underlying5 (by kernel_rfl) (by kernel_rfl) hv0 hd0
  obtain ⟨x1, rfl, h1⟩ := open_u8 Try.underlying5 hv1 hd1
  obtain ⟨x2, rfl, h2⟩ := open_u8 Try.underlying5 hv2 hd2
  have e8 : arr 8 (fun i => Value.int .u8 (l0 i)) = bk8 (fun i => (l0 i).toNat) := by
    show _ = arr 8 (fun i => Value.int .u8 (((l0 i).toNat : Nat) : Int))
    refine arr_congr fun i hi => ?_
    have := bounds_u8 (hl0 i hi)
    rw [Int.toNat_of_nonneg (by omega)]
  rw [e8]
  exact mmuBack_calls x1 x2 _ W h1
theorem walk_MmuFixed {v0 v1 : Value} {d0 d1 : DataW H} {p0 p1 : List MemPlace}
    (_hsh : W.ShapedOpen Try.prog) (_hsz : (DataW.weightsEach Try.prog [5, 3] [d0, d1]).all (· ≤ reachBytes) = true)
    (hv0 : Value.okWide Try.prog W .any base 5 v0) (hd0 : DataW.Trod enc Try.prog W 0 (fun _ => true) true 5 v0 d0 p0) (hv1 : Value.okWide Try.prog W .any base 3 v1) (hd1 : DataW.Trod enc Try.prog W 0 (fun _ => true) true 3 v1 d1 p1) :
    Calls Try.prog 6 #[v0, v1] W fun e W' => e = .returned (.bool true) ∧ Below W.heap.size W W' := by
  obtain ⟨x0, rfl, h0⟩ := open_u8 Try.underlying5 hv0 hd0
  obtain ⟨x1, rfl, h1a, h1b⟩ := open_i64 Try.underlying3 hv1 hd1
  exact mmuFixed_calls x0 x1 W h0
end
end Go.Proofs.Ytjaibacpojpfhaa
