/-
  moves.ways: the ways, one behind the other; its closure as an iterator.
-/
import Derived.RangeFuncNested
import Derived.RangeFuncBound
import Derived.RangeFuncCalls
import Derived.RangeFuncLeaves
import Derived.Shelf.Abstract
import Derived.Shelf.RegionOpen
import Derived.WalkKit
import Derived.OwnWalkIn
import Derived.TacticsInMore
import Derived.LoopNIn
import Derived.LoopIn
import Derived.Test.YticdlgbpbfcmaaaBst
namespace Go.Proofs.Yticdlgbpbfcmaaa
open Go.RowKit Go.Shelf
attribute [local go_sem] Oper.semAt_some

/-- The blocks from lo to hi lie as they lay. -/
def KpS (lo hi : Nat) (W W' : World) : Prop := W.heap.size ≤ W'.heap.size ∧ ∀ b, lo ≤ b → b < hi → W'.heap[b]? = W.heap[b]?
theorem KpS.refl (lo hi : Nat) (W : World) : KpS lo hi W W := ⟨Nat.le_refl _, fun _ _ _ => rfl⟩
theorem KpS.t {lo hi : Nat} {A B C : World} (h : KpS lo hi A B) (k : KpS lo hi B C) : KpS lo hi A C := ⟨Nat.le_trans h.1 k.1, fun b h1 h2 => (k.2 b h1 h2).trans (h.2 b h1 h2)⟩
theorem KpS.b {lo hi : Nat} {w : World} (hn : hi ≤ w.heap.size) (W : World) (l : Nat) (o o' : Obj) (hl : w.heap.size ≤ l) (_ : W.heap[l]? = some o) (_ : o.isCells = false) (_ : o.isWalk = false) : KpS lo hi W (W.putObj l o') :=
  ⟨(grownBy_putObj' W l o').size, fun b _ h2 => World.putObj_heap_other (by omega)⟩
theorem KpS.setCell {lo hi : Nat} (W : World) (p : Addr) (hp : ¬ (lo ≤ p.block ∧ p.block < hi)) (v : Value) : KpS lo hi W (W.setCell p v) :=
  ⟨by simp [World.setCell], fun b h1 h2 => Below.heap_setCell _ _ _ _ (fun e => hp (e ▸ ⟨h1, h2⟩))⟩
theorem KpS.only {S : Nat → Prop} {lo hi : Nat} {W W' : World} (h : Only S W W') (hi' : hi ≤ W.heap.size) (hs : ∀ b, lo ≤ b → b < hi → ¬ S b) : KpS lo hi W W' := ⟨h.size, fun b h1 h2 => h.block b (by omega) (hs b h1 h2)⟩
theorem Blk.kpS {lo hi : Nat} {W W' : World} {g : Nat} {t : TypeId} {cs : Array Value} (h : Blk W g t cs) (k : KpS lo hi W W') (h1 : lo ≤ g) (h2 : g < hi) : Blk W' g t cs := (k.2 g h1 h2).trans h
/-- What only makes memory, for an iterator's J. -/
theorem abides_below {α : Type} {n : Nat} {J : List α → World → Prop} (hJ : AbidesFrom n J) {pre : List α} {W W' : World} (h : J pre W) (hb : Below W.heap.size W W') : J pre W' :=
  hJ pre W W' none h ⟨hb.os, hb.tape, hb.output, hb.size, fun k hk _ => hb.block k hk⟩ (fun r e => by cases e)
theorem upto_succ (i : Nat) : List.range i ++ [i] = List.range (i + 1) := List.range_succ.symm
theorem upto_pre {i n : Nat} (h : i ≤ n) : List.range i <+: List.range n := by
  obtain ⟨d, rfl⟩ := Nat.le.dest h
  rw [List.range_add]
  exact List.prefix_append _ _

/-- The four boxes of a block's ways lie at B and behind. -/
def WB (W : World) (B k f t l : Nat) : Prop := Blk W B 5 #[.int .u8 (k : Int)] ∧ Blk W (B + 1) 22 #[.int .u16 (f : Int)] ∧ Blk W (B + 2) 22 #[.int .u16 (t : Int)] ∧ Blk W (B + 3) 22 #[.int .u16 (l : Int)]
def wB (B : Nat) : Array Value := #[.pointer (some ⟨B + 3, 0, none⟩), .pointer (some ⟨B, 0, none⟩), .pointer (some ⟨B + 1, 0, none⟩), .pointer (some ⟨B + 2, 0, none⟩)]
theorem WB.kpS {W W' : World} {B k f t l lo hi : Nat} (h : WB W B k f t l) (kk : KpS lo hi W W') (h1 : lo ≤ B) (h2 : B + 4 ≤ hi) : WB W' B k f t l :=
  ⟨h.1.kpS kk (by omega) (by omega), h.2.1.kpS kk (by omega) (by omega), h.2.2.1.kpS kk (by omega) (by omega), h.2.2.2.kpS kk (by omega) (by omega)⟩
theorem WB.below {W W' : World} {B k f t l n : Nat} (h : WB W B k f t l) (kk : Below n W W') (h2 : B + 4 ≤ n) : WB W' B k f t l :=
  ⟨h.1.below kk (by omega), h.2.1.below kk (by omega), h.2.2.1.below kk (by omega), h.2.2.2.below kk (by omega)⟩
theorem mvWays_calls (k f t l : Nat) (w : World) :
    Calls Try.prog 26 #[.int .u8 (k : Int), .int .u16 (f : Int), .int .u16 (t : Int), .int .u16 (l : Int)] w
      fun e w' => e = .returned (.func (.func 29) #[] (wB w.heap.size)) ∧ WB w' w.heap.size k f t l ∧ w'.heap.size = w.heap.size + 4 ∧ Below w.heap.size w w' := by
  go_enter Try.func26, Try.ntmps26
  go_wp2
  go_ret
  refine ⟨rfl, ⟨?_, ?_, ?_, ?_⟩, by simp, by (repeat (first | exact Below.refl _ _ | assumption | refine Below.drew ?_ | refine Bl.alloc ?_ _ | refine below_drewN ?_ _ | refine Bl.chain ?_ (by assumption) (Nat.le_refl _)))⟩
  · exact (((Blk.new w _ _).alloc _).alloc _).alloc _
  · exact ((Blk.newAt (by simp)).alloc _).alloc _
  · exact (Blk.newAt (by simp)).alloc _
  · exact Blk.newAt (by simp)
set_option maxHeartbeats 4000000 in
theorem ways1_in (k f t l : Nat) (hk : k < 5) (hf : f < 65536) (ht : t < 65536) (hl : l < 65536) (n : Nat) (B lp : Nat) (J Jx : List Nat → World → Prop) (W : World) (hJ : AbidesFrom W.heap.size J)
    (hY : ∀ pre x W1, J pre W1 → pre.length < cnt l → YieldAt Fence.wide (n - 1) Try.prog lp #[.agg #[.int .u16 (wyF k f x : Nat), .int .u16 (wyT k t x : Nat)]] W1 fun e W' =>
      (e = .returned (.bool true) ∧ J (pre ++ [x]) W' ∧ KpS B (B + 4) W1 W') ∨ (e = .returned (.bool false) ∧ Jx (pre ++ [x]) W'))
    (hB : WB W B k f t l) (h0 : J [] W) :
    CallsIn Fence.wide n Try.prog 29 #[.func (.yield lp) #[] #[], .pointer (some ⟨B + 3, 0, none⟩), .pointer (some ⟨B, 0, none⟩), .pointer (some ⟨B + 1, 0, none⟩), .pointer (some ⟨B + 2, 0, none⟩)] W fun e W' => (∃ v, e = .returned v) ∧
      ((∃ xs, xs = List.range (cnt l) ∧ J xs W') ∨ (∃ pre, pre <+: List.range (cnt l) ∧ Jx pre W')) := by
  have hb := cnt_b l hl
  have c3 : W.cell? ⟨B + 3, 0, none⟩ = some (.int .u16 (l : Int)) := hB.2.2.2.cell 0
  refine callsIn_of_wp Try.func29 rfl trivial ?_ rfl
  simp only [Try.ntmps29, List.size_toArray, List.length_cons, List.length_nil, Nat.reduceAdd, Nat.reduceSub, Array.replicate_succ, Array.replicate_zero, List.push_toArray, List.append_toArray, List.nil_append, List.cons_append]
  gi_wp2_with fail
  refine ⟨trivial, fun h => absurd h (by decide), (callsIn_wide.2 (mvCount_calls l _ hl)).mono ?_⟩
  rintro e w' ⟨rfl, rfl⟩
  gi_wp2_with fail
  gi_loopw [9] (fun i wr => ∃ j : Nat, j ≤ cnt l ∧ i = .int .i64 (j : Int) ∧ J (List.range j) wr ∧ WB wr B k f t l ∧ W.heap.size ≤ wr.heap.size) (fun i _ => cnt l - (intOf i).toNat)
  case atStart => exact ⟨0, by omega, rfl, h0, hB, Nat.le_refl _⟩
  case round =>
    obtain ⟨j, hj, rfl, hJj, hBj, hsz⟩ := hrel
    by_cases hjn : j < cnt l
    · have hjn' : (j : Int) < (cnt l : Int) := by omega
      have d0 : wr.cell? ⟨B, 0, none⟩ = some (.int .u8 (k : Int)) := hBj.1.cell 0
      have d1 : wr.cell? ⟨B + 1, 0, none⟩ = some (.int .u16 (f : Int)) := hBj.2.1.cell 0
      have d2 : wr.cell? ⟨B + 2, 0, none⟩ = some (.int .u16 (t : Int)) := hBj.2.2.1.cell 0
      gi_wp2_with fail
      refine ⟨trivial, fun h => absurd h (by decide), (callsIn_wide.2 (mvWay_calls k f t j _ _ rfl hk hf ht (by omega))).mono ?_⟩
      rintro e w1 ⟨rfl, hb1⟩
      have hJ1 := abides_below hJ hJj hb1
      have hB1 := hBj.below hb1 (by have := hBj.2.2.2.lt; omega)
      have hs1 := hb1.size
      obtain ⟨fn, tmps, assign, body, hy, hR⟩ := hY (List.range j) j w1 hJ1 (by simp; omega)
      gi_wp2_with fail
      refine ⟨fun h => absurd h (by decide), hR.mono ?_⟩
      rintro e w2 (⟨rfl, hJ2, hk2⟩ | ⟨rfl, hJx2⟩)
      · rw [upto_succ] at hJ2
        have hB2 := hB1.kpS hk2 (Nat.le_refl _) (Nat.le_refl _)
        have hs2 := hk2.1
        gi_wp2_with fail
        go_roundw
        case rel => exact ⟨j + 1, by omega, by go_num, hJ2, hB2, by omega⟩
        case measure => simp [intOf]; omega
      · rw [upto_succ] at hJx2
        gi_wp2_with fail
        refine bodyPost_ret (results_none rfl _ _ _) rfl ?_
        exact ⟨⟨_, rfl⟩, .inr ⟨_, upto_pre (by omega), hJx2⟩⟩
    · obtain rfl : j = cnt l := by omega
      gi_wp2_with fail
      go_end0
      exact ⟨⟨_, rfl⟩, .inl ⟨_, rfl, hJj⟩⟩
theorem ways1_stops (k f t l : Nat) (hk : k < 5) (hf : f < 65536) (ht : t < 65536) (hl : l < 65536) (n : Nat) (B : Nat) (w : World) (hB : WB w B k f t l) :
    SeqStopsK Fence.wide n Try.prog 29 (wB B) (fun x : Nat => #[.agg #[.int .u16 (wyF k f x : Nat), .int .u16 (wyT k t x : Nat)]]) (KpS B (B + 4)) (fun xs => xs = List.range (cnt l)) (fun pre => pre <+: List.range (cnt l)) (cnt l) w :=
  fun lp J Jx W hW hJ _ hY h0 => ways1_in k f t l hk hf ht hl n B lp J Jx W hJ hY (hB.below hW (by have := hB.2.2.2.lt; omega)) h0
end Go.Proofs.Yticdlgbpbfcmaaa
