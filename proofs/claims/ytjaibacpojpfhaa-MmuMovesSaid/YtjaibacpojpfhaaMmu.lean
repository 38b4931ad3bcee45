/-
  Package mmu: the pages of a mask, Set.
-/
import Derived.RangeFuncNested
import Derived.RangeFuncBound
import Derived.RangeFuncCalls
import Derived.RangeFuncLeaves
import Derived.Shelf.Abstract
import Derived.Shelf.RegionOpen
import Derived.WalkKit
import Derived.OwnWalkIn
import Derived.TacticsInMore
import Derived.LoopNIn
import Derived.LoopIn
import Derived.Test.YtjaibacpojpfhaaRnd
import Derived.Test.YtjaibacpojpfhaaObit
import Derived.Test.YtjaibacpojpfhaaOnly
namespace Go.Proofs.Ytjaibacpojpfhaa
open Go.RowKit Go.Shelf Pl
attribute [local go_sem] Oper.semAt_some

/-- The blocks from lo to hi lie as they lay. -/
def KpS (lo hi : Nat) (W W' : World) : Prop := W.heap.size ≤ W'.heap.size ∧ ∀ b, lo ≤ b → b < hi → W'.heap[b]? = W.heap[b]?
theorem KpS.t {lo hi : Nat} {A B C : World} (h : KpS lo hi A B) (k : KpS lo hi B C) : KpS lo hi A C := ⟨Nat.le_trans h.1 k.1, fun b h1 h2 => (k.2 b h1 h2).trans (h.2 b h1 h2)⟩
theorem KpS.b {lo hi : Nat} {w : World} (hn : hi ≤ w.heap.size) (W : World) (l : Nat) (o o' : Obj) (hl : w.heap.size ≤ l) (_ : W.heap[l]? = some o) (_ : o.isCells = false) (_ : o.isWalk = false) : KpS lo hi W (W.putObj l o') :=
  ⟨(grownBy_putObj' W l o').size, fun b _ h2 => World.putObj_heap_other (by omega)⟩
theorem KpS.setCell {lo hi : Nat} (W : World) (p : Addr) (hp : ¬ (lo ≤ p.block ∧ p.block < hi)) (v : Value) : KpS lo hi W (W.setCell p v) :=
  ⟨by simp [World.setCell], fun b h1 h2 => Below.heap_setCell _ _ _ _ (fun e => hp (e ▸ ⟨h1, h2⟩))⟩
theorem Blk.kpS {lo hi : Nat} {W W' : World} {g : Nat} {t : TypeId} {cs : Array Value} (h : Blk W g t cs) (k : KpS lo hi W W') (h1 : lo ≤ g) (h2 : g < hi) : Blk W' g t cs := (k.2 g h1 h2).trans h
theorem blk_own {β : Type} (g : Nat) (t : TypeId) (F : β → Array Value) : Own (fun s W => Blk W g t (F s)) := fun s X Y row hs hg hrow =>
  (hg.block g hs.lt (fun e => by
    obtain ⟨o, ho, hcl⟩ := hrow g e.symm
    rw [show X.heap[g]? = _ from hs] at ho
    cases ho
    cases hcl)).trans hs
theorem ownFrom_only {β : Type} {S : Nat → Prop} {w : World} {B : Nat} (hB : w.heap.size ≤ B) : OwnFrom B (fun (_ : β) W => Only S w W) := fun _ X Y row hs hg hr =>
  ⟨hg.os.trans hs.os, hg.tape.trans hs.tape, hg.output.trans hs.output, Nat.le_trans hs.size hg.size, fun k hk hn => (hg.block k (Nat.lt_of_lt_of_le hk hs.size) (fun e => by have := (hr k e.symm).1; omega)).trans (hs.block k hk hn)⟩
theorem Blk.newAt {w : World} {t : TypeId} {cs : Array Value} {g : Nat} (h : g = w.heap.size) : Blk (w.alloc (.cells cs t)) g t cs := by
  subst h
  exact Blk.new _ _ _
def updn (A : Nat → Nat) (j v : Nat) : Nat → Nat := fun i => if i = j then v else A i
/-- The cells of eight pages, and what was moved last. -/
def mc (A : Nat → Nat) (l : Nat) : Array Value := #[.int .u8 (A 0 : Int), .int .u8 (A 1 : Int), .int .u8 (A 2 : Int), .int .u8 (A 3 : Int), .int .u8 (A 4 : Int), .int .u8 (A 5 : Int), .int .u8 (A 6 : Int), .int .u8 (A 7 : Int), .int .u8 (l : Int)]
def bk8 (A : Nat → Nat) : Array Value := #[.int .u8 (A 0 : Int), .int .u8 (A 1 : Int), .int .u8 (A 2 : Int), .int .u8 (A 3 : Int), .int .u8 (A 4 : Int), .int .u8 (A 5 : Int), .int .u8 (A 6 : Int), .int .u8 (A 7 : Int)]
theorem mc_get (A : Nat → Nat) (l n : Nat) (h : n < 8) : (mc A l)[n]? = some (.int .u8 (A n : Int)) := by
  match n, h with
  | 0, _ | 1, _ | 2, _ | 3, _ | 4, _ | 5, _ | 6, _ | 7, _ => rfl
theorem mc_set (A : Nat → Nat) (l n v : Nat) (h : n < 8) : (mc A l).setIfInBounds n (.int .u8 (v : Int)) = mc (updn A n v) l := by
  match n, h with
  | 0, _ | 1, _ | 2, _ | 3, _ | 4, _ | 5, _ | 6, _ | 7, _ => simp [mc, updn]
theorem mc_last (A : Nat → Nat) (l v : Nat) : (mc A l).setIfInBounds 8 (.int .u8 (v : Int)) = mc A v := by simp [mc]
theorem mc_congr {A B : Nat → Nat} (l : Nat) (h : ∀ i, i < 8 → A i = B i) : mc A l = mc B l := by
  unfold mc
  rw [h 0 (by omega), h 1 (by omega), h 2 (by omega), h 3 (by omega), h 4 (by omega), h 5 (by omega), h 6 (by omega), h 7 (by omega)]
def MB (w : World) (g : Nat) (A : Nat → Nat) (l : Nat) : Prop := Blk w g 53 (mc A l)
theorem MB.get {w : World} {g : Nat} {A : Nat → Nat} {l : Nat} (h : MB w g A l) (n : Nat) (hn : n < 8) : w.cell? ⟨g, n, none⟩ = some (.int .u8 (A n : Int)) := (Blk.cell h n).trans (mc_get A l n hn)
theorem MB.set {w : World} {g : Nat} {A : Nat → Nat} {l : Nat} (h : MB w g A l) (n v : Nat) (hn : n < 8) : MB (w.setCell ⟨g, n, none⟩ (.int .u8 (v : Int))) g (updn A n v) l := by
  unfold MB
  rw [← mc_set A l n v hn]
  exact Blk.set_ h n _
theorem MB.setLast {w : World} {g : Nat} {A : Nat → Nat} {l : Nat} (h : MB w g A l) (v : Nat) : MB (w.setCell ⟨g, 8, none⟩ (.int .u8 (v : Int))) g A v := by
  unfold MB
  rw [← mc_last A l v]
  exact Blk.set_ h 8 _
theorem MB.congr {w : World} {g : Nat} {A B : Nat → Nat} {l : Nat} (h : MB w g A l) (e : ∀ i, i < 8 → A i = B i) : MB w g B l := by
  unfold MB at *
  rw [← mc_congr l e]
  exact h

/-- A page's number. -/
abbrev Pg := { x : Nat // x < 8 }
/-- The pages below j of which p holds. -/
def eL (p : Nat → Bool) : Nat → List Pg
  | 0 => []
  | j + 1 => eL p j ++ (if h : j < 8 ∧ p j = true then [⟨j, h.1⟩] else [])
theorem eL_len (p : Nat → Bool) : ∀ j, (eL p j).length ≤ j
  | 0 => Nat.le_refl _
  | j + 1 => by
    have := eL_len p j
    unfold eL
    rw [List.length_append]
    split <;> simp <;> omega
theorem eL_yes (p : Nat → Bool) (j : Nat) (h : j < 8) (hp : p j = true) : eL p (j + 1) = eL p j ++ [⟨j, h⟩] := by
  show eL p j ++ _ = _
  rw [dif_pos ⟨h, hp⟩]
theorem eL_no (p : Nat → Bool) (j : Nat) (hp : p j = false) : eL p (j + 1) = eL p j := by
  show eL p j ++ _ = _
  rw [dif_neg (by rw [hp]; simp), List.append_nil]
theorem eL_pre (p : Nat → Bool) : ∀ (d j : Nat), eL p j <+: eL p (j + d)
  | 0, j => List.prefix_refl _
  | d + 1, j => (eL_pre p d j).trans (by rw [show j + (d + 1) = (j + d) + 1 from rfl]; exact List.prefix_append _ _)
theorem eL_mem (p : Nat → Bool) : ∀ (j : Nat) (x : Pg), x ∈ eL p j ↔ x.1 < j ∧ p x.1 = true
  | 0, x => by simp [eL]
  | j + 1, x => by
    unfold eL
    rw [List.mem_append, eL_mem p j x]
    by_cases h : j < 8 ∧ p j = true
    · rw [dif_pos h, List.mem_singleton]
      constructor
      · rintro (⟨h1, h2⟩ | rfl)
        · exact ⟨by omega, h2⟩
        · exact ⟨by simp, h.2⟩
      · rintro ⟨h1, h2⟩
        by_cases e : x.1 = j
        · exact Or.inr (Subtype.ext e)
        · exact Or.inl ⟨by omega, h2⟩
    · rw [dif_neg h]
      constructor
      · rintro (⟨h1, h2⟩ | h1)
        · exact ⟨by omega, h2⟩
        · cases h1
      · rintro ⟨h1, h2⟩
        by_cases e : x.1 = j
        · exact absurd ⟨by have := x.2; omega, by rw [← e]; exact h2⟩ h
        · exact Or.inl ⟨by omega, h2⟩
theorem abides_below {α : Type} {n : Nat} {J : List α → World → Prop} (hJ : AbidesFrom n J) {pre : List α} {W W' : World} (h : J pre W) (hb : Below W.heap.size W W') : J pre W' :=
  hJ pre W W' none h ⟨hb.os, hb.tape, hb.output, hb.size, fun k hk _ => hb.block k hk⟩ (fun r e => by cases e)
theorem mmEach_calls (k : Nat) (w : World) :
    Calls Try.prog 32 #[.int .u8 (k : Int)] w
      fun e w' => e = .returned (.func (.func 35) #[] #[.pointer (some ⟨w.heap.size, 0, none⟩)]) ∧ w.alloc (.cells #[.int .u8 (k : Int)] 5) = w' := by
  go_enter Try.func32, Try.ntmps32
  go_wp2
  go_ret
  exact ⟨rfl, rfl⟩
def tbN (k i : Nat) : Bool := tb k (i : Int)
set_option maxHeartbeats 4000000 in
theorem each1_in (k : Nat) (hk : k < 256) (n : Nat) (B lp : Nat) (J Jx : List Pg → World → Prop) (W : World) (hJ : AbidesFrom W.heap.size J)
    (hY : ∀ pre (x : Pg) W1, J pre W1 → pre.length < 8 → YieldAt Fence.wide (n - 1) Try.prog lp #[.int .i64 (x.1 : Int)] W1 fun e W' =>
      (e = .returned (.bool true) ∧ J (pre ++ [x]) W' ∧ KpS B (B + 1) W1 W') ∨ (e = .returned (.bool false) ∧ Jx (pre ++ [x]) W'))
    (hB : Blk W B 5 #[.int .u8 (k : Int)]) (h0 : J [] W) :
    CallsIn Fence.wide n Try.prog 35 #[.func (.yield lp) #[] #[], .pointer (some ⟨B, 0, none⟩)] W fun e W' => (∃ v, e = .returned v) ∧
      ((∃ xs, xs = eL (tbN k) 8 ∧ J xs W') ∨ (∃ pre, pre <+: eL (tbN k) 8 ∧ Jx pre W')) := by
  refine callsIn_of_wp Try.func35 rfl trivial ?_ rfl
  simp only [Try.ntmps35, List.size_toArray, List.length_cons, List.length_nil, Nat.reduceAdd, Nat.reduceSub, Array.replicate_succ, Array.replicate_zero, List.push_toArray, List.append_toArray, List.nil_append, List.cons_append]
  gi_wp2_with fail
  gi_loopw [4] (fun i wr => ∃ j : Nat, j ≤ 8 ∧ i = .int .i64 (j : Int) ∧ J (eL (tbN k) j) wr ∧ Blk wr B 5 #[.int .u8 (k : Int)] ∧ W.heap.size ≤ wr.heap.size) (fun i _ => 8 - (intOf i).toNat)
  case atStart => exact ⟨0, by omega, rfl, h0, hB, Nat.le_refl _⟩
  case round =>
    obtain ⟨j, hj, rfl, hJj, hBj, hsz⟩ := hrel
    by_cases hjn : j < 8
    · have hjn' : (j : Int) < 8 := by omega
      have d0 : wr.cell? ⟨B, 0, none⟩ = some (.int .u8 (k : Int)) := hBj.cell 0
      have hbit := fun W => callsIn_wide (n := n - 1) |>.2 (octBit_calls k (j : Int) W hk)
      by_cases hp : tbN k j = true
      · have hp' : tb k (j : Int) = true := hp
        rw [hp'] at hbit
        obtain ⟨fn, tmps, assign, body, hy, hR⟩ := hY (eL (tbN k) j) ⟨j, hjn⟩ wr hJj (by have := eL_len (tbN k) j; omega)
        dsimp only at hy
        gi_wp2_with fail
        refine ⟨trivial, fun h => absurd h (by decide), (hbit _).mono ?_⟩
        rintro e w1 ⟨rfl, rfl⟩
        gi_wp2_with fail
        refine ⟨fun h => absurd h (by decide), hR.mono ?_⟩
        rintro e w2 (⟨rfl, hJ2, hk2⟩ | ⟨rfl, hJx2⟩)
        · rw [← eL_yes (tbN k) j hjn hp] at hJ2
          have hB2 := hBj.kpS hk2 (Nat.le_refl _) (by omega)
          have hs2 := hk2.1
          gi_wp2_with fail
          go_roundw
          case rel => exact ⟨j + 1, by omega, by go_num, hJ2, hB2, by omega⟩
          case measure => simp [intOf]; omega
        · rw [← eL_yes (tbN k) j hjn hp] at hJx2
          gi_wp2_with fail
          refine bodyPost_ret (results_none rfl _ _ _) rfl ?_
          exact ⟨⟨_, rfl⟩, .inr ⟨_, (by have := eL_pre (tbN k) (8 - (j + 1)) (j + 1); rwa [show j + 1 + (8 - (j + 1)) = 8 from by omega] at this), hJx2⟩⟩
      · have hp0 : tbN k j = false := by simpa using hp
        have hp' : tb k (j : Int) = false := hp0
        rw [hp'] at hbit
        gi_wp2_with fail
        refine ⟨trivial, fun h => absurd h (by decide), (hbit _).mono ?_⟩
        rintro e w1 ⟨rfl, rfl⟩
        gi_wp2_with fail
        refine ⟨fun _ h => (by cases h), ?_⟩
        gi_wp2_with fail
        go_roundw
        case rel => exact ⟨j + 1, by omega, by go_num, by rw [eL_no (tbN k) j hp0]; exact hJj, hBj, hsz⟩
        case measure => simp [intOf]; omega
    · obtain rfl : j = 8 := by omega
      gi_wp2_with fail
      go_end0
      exact ⟨⟨_, rfl⟩, .inl ⟨_, rfl, hJj⟩⟩
theorem each1_stops (k : Nat) (hk : k < 256) (n : Nat) (B : Nat) (w : World) (hB : Blk w B 5 #[.int .u8 (k : Int)]) :
    SeqStopsK Fence.wide n Try.prog 35 #[.pointer (some ⟨B, 0, none⟩)] (fun x : Pg => #[.int .i64 (x.1 : Int)]) (KpS B (B + 1)) (fun xs => xs = eL (tbN k) 8) (fun pre => pre <+: eL (tbN k) 8) 8 w :=
  fun lp J Jx W hW hJ _ hY h0 => each1_in k hk n B lp J Jx W hJ hY (hB.below hW hB.lt) h0
def setL (A : Nat → Nat) (b : Nat) (l : List Pg) : Nat → Nat := l.foldl (fun A x => updn A x.1 b) A
theorem setL_snoc (A : Nat → Nat) (b : Nat) (l : List Pg) (x : Pg) : setL A b (l ++ [x]) = updn (setL A b l) x.1 b := by simp [setL]
theorem setL_get (b : Nat) (i : Nat) : ∀ (l : List Pg) (A : Nat → Nat), setL A b l i = if (∃ x ∈ l, x.1 = i) then b else A i
  | [], A => by simp [setL]
  | y :: l, A => by
    show setL (updn A y.1 b) b l i = _
    rw [setL_get b i l]
    by_cases h : ∃ x ∈ l, x.1 = i
    · rw [if_pos h, if_pos (by obtain ⟨x, h1, h2⟩ := h; exact ⟨x, List.mem_cons_of_mem _ h1, h2⟩)]
    · rw [if_neg h]
      unfold updn
      by_cases e : i = y.1
      · rw [if_pos e, if_pos ⟨y, List.mem_cons_self, e.symm⟩]
      · rw [if_neg e, if_neg (fun ⟨x, h1, h2⟩ => by
          rcases List.mem_cons.1 h1 with rfl | h1
          · exact e h2.symm
          · exact h ⟨x, h1, h2⟩)]
/-- Eight pages when b was moved to those of the mask k. -/
def setK (k b : Nat) (A : Nat → Nat) : Nat → Nat := fun i => if tbN k i = true then b else A i
theorem setL_eL (k b : Nat) (A : Nat → Nat) (i : Nat) (h : i < 8) : setL A b (eL (tbN k) 8) i = setK k b A i := by
  rw [setL_get]
  unfold setK
  by_cases hp : tbN k i = true
  · rw [if_pos hp, if_pos ⟨⟨i, h⟩, (eL_mem _ _ _).2 ⟨h, hp⟩, rfl⟩]
  · rw [if_neg hp, if_neg (fun ⟨x, h1, h2⟩ => hp (by rw [← h2]; exact ((eL_mem _ _ _).1 h1).2))]
set_option maxRecDepth 100000 in
set_option maxHeartbeats 8000000 in
theorem mmSet_calls (g k b l : Nat) (A : Nat → Nat) (w : World) (hk : k < 256) (hM : MB w g A l) :
    Calls Try.prog 17 #[.pointer (some ⟨g, 0, none⟩), .int .u8 (k : Int), .int .u8 (b : Int)] w
      fun e w' => (∃ v, e = .returned v) ∧ MB w' g (setK k b A) b ∧ Only (fun j => j = g) w w' := by
  have hg := hM.lt
  refine (callsIn_wide (n := 3)).1 ?_
  refine callsIn_of_wp_marks Try.func17 rfl trivial ?_ rfl
  simp only [Try.ntmps17, List.size_toArray, List.length_cons, List.length_nil, Nat.reduceAdd, Nat.reduceSub, Array.replicate_succ, Array.replicate_zero, List.push_toArray, List.append_toArray, List.nil_append, List.cons_append]
  gi_wp2_with fail
  refine ⟨trivial, (callsIn_wide.2 (mmEach_calls k _)).mono ?_⟩
  rintro e w3 ⟨rfl, rfl⟩
  gi_wp2_with fail
  have hP3 : Blk (((w.alloc (.cells #[.pointer (some ⟨g, 0, none⟩)] 25)).alloc (.cells #[.int .u8 (b : Int)] 5)).alloc (.cells #[.int .u8 (k : Int)] 5)) w.heap.size 25 #[.pointer (some ⟨g, 0, none⟩)] := ((Blk.new _ _ _).alloc _).alloc _
  have hQ3 : Blk (((w.alloc (.cells #[.pointer (some ⟨g, 0, none⟩)] 25)).alloc (.cells #[.int .u8 (b : Int)] 5)).alloc (.cells #[.int .u8 (k : Int)] 5)) (w.heap.size + 1) 5 #[.int .u8 (b : Int)] := (Blk.newAt (by simp)).alloc _
  have hR3 : Blk (((w.alloc (.cells #[.pointer (some ⟨g, 0, none⟩)] 25)).alloc (.cells #[.int .u8 (b : Int)] 5)).alloc (.cells #[.int .u8 (k : Int)] 5)) (w.heap.size + 1 + 1) 5 #[.int .u8 (k : Int)] := Blk.newAt (by simp)
  have hM3 : MB (((w.alloc (.cells #[.pointer (some ⟨g, 0, none⟩)] 25)).alloc (.cells #[.int .u8 (b : Int)] 5)).alloc (.cells #[.int .u8 (k : Int)] 5)) g A l := ((Blk.alloc hM _).alloc _).alloc _
  have hO3 : Only (fun j => j = g) w (((w.alloc (.cells #[.pointer (some ⟨g, 0, none⟩)] 25)).alloc (.cells #[.int .u8 (b : Int)] 5)).alloc (.cells #[.int .u8 (k : Int)] 5)) := (((Only.refl _ _).alloc _).alloc _).alloc _
  have hs3 : ((((w.alloc (.cells #[.pointer (some ⟨g, 0, none⟩)] 25)).alloc (.cells #[.int .u8 (b : Int)] 5)).alloc (.cells #[.int .u8 (k : Int)] 5))).heap.size = w.heap.size + 3 := by simp
  generalize (((w.alloc (.cells #[.pointer (some ⟨g, 0, none⟩)] 25)).alloc (.cells #[.int .u8 (b : Int)] 5)).alloc (.cells #[.int .u8 (k : Int)] 5)) = w3 at *
  refine wpIn_rangeFunc_ownG rfl (by decide) (gf := 35) (lb := #[.pointer (some ⟨w.heap.size + 1 + 1, 0, none⟩)]) rfl trivial (enters_of Try.func35 (by kernel_rfl) rfl)
    (each1_stops k hk 2 (w.heap.size + 1 + 1) w3 hR3) (fun h k => h.t k) (KpS.b (by omega)) (Below.refl _ _) (fun _ => rfl)
    (fun pre W => MB W g (setL A b pre) l ∧ Blk W w.heap.size 25 #[.pointer (some ⟨g, 0, none⟩)] ∧ Blk W (w.heap.size + 1) 5 #[.int .u8 (b : Int)] ∧ Only (fun j => j = g) w W)
    (fun _ _ _ => False)
    (OwnFrom.and (Own.from (blk_own g 53 (fun pre => mc (setL A b pre) l)) _) (OwnFrom.and (Own.from (blk_own w.heap.size 25 (fun _ => #[.pointer (some ⟨g, 0, none⟩)])) _) (OwnFrom.and (Own.from (blk_own (w.heap.size + 1) 5 (fun _ => #[.int .u8 (b : Int)])) _) (ownFrom_only (by omega)))))
    (fun _ _ _ _ _ hs _ _ => hs)
    ⟨hM3, hP3, hQ3, hO3⟩
    (fun x => { tmps := #[.pointer (some ⟨g, 0, none⟩), .int .u8 (k : Int), .int .u8 (b : Int), .pointer (some ⟨w.heap.size, 0, none⟩), undef, .pointer (some ⟨w.heap.size + 1, 0, none⟩), .int .i64 (x.1 : Int), .pointer (some ⟨g, 0, none⟩), .bool false, .int .u8 (k : Int), .func (.func 35) #[] #[.pointer (some ⟨w.heap.size + 1 + 1, 0, none⟩)], .int .i64 (x.1 : Int), undef, undef, undef, undef, undef, undef, undef, undef, undef, undef], defers := [] })
    ?assign ?body ?done ?stop
  case assign =>
    intro lp x W K hK
    gi_wp2_with fail
    exact hK
  case body =>
    rintro lp pre ⟨x, hx⟩ W ⟨hMW, hP, hQ, hO⟩ _
    have hsn := setL_snoc A b pre ⟨x, hx⟩
    generalize setL A b pre = C at *
    have y0 : W.drew.cell? ⟨w.heap.size, 0, none⟩ = some (.pointer (some ⟨g, 0, none⟩)) := hP.cell 0
    have y1 : W.drew.cell? ⟨w.heap.size + 1, 0, none⟩ = some (.int .u8 (b : Int)) := hQ.cell 0
    have y2 : W.drew.cell? ⟨g, x, none⟩ = some (.int .u8 (C x : Int)) := MB.get hMW x hx
    have y3 : W.drew.frozen? ⟨g, x, none⟩ = false := Blk.frozen hMW x
    have hx' : (x : Int) < 8 := by omega
    have hx2 : (decide ((8 : Int) ≤ (x : Int))) = false := by rw [decide_eq_false_iff_not]; omega
    have hmx : Try.prog.follows .mixedOrders = true := by kernel_rfl
    dsimp only
    gi_wp2_with fail
    have yS : (W.drew.setCell ⟨g, x, none⟩ (.int .u8 (b : Int))).cell? ⟨w.heap.size, 0, none⟩ = some (.pointer (some ⟨g, 0, none⟩)) ∧ (W.drew.setCell ⟨g, x, none⟩ (.int .u8 (b : Int))).cell? ⟨w.heap.size + 1, 0, none⟩ = some (.int .u8 (b : Int)) :=
      ⟨(Blk.far hP.drew (p := ⟨g, x, none⟩) (by simp; omega) (.int .u8 (b : Int))).cell 0, (Blk.far hQ.drew (p := ⟨g, x, none⟩) (by simp; omega) (.int .u8 (b : Int))).cell 0⟩
    refine wpIn_region_round (S := fun w' => w'.cell? ⟨w.heap.size, 0, none⟩ = some (.pointer (some ⟨g, 0, none⟩)) ∧ w'.cell? ⟨w.heap.size + 1, 0, none⟩ = some (.int .u8 (b : Int))) _ (by kernel_rfl) (noDefer_spec (by kernel_rfl)) ⟨y0, y1⟩ (fun hHeld => ?_) (fun _ _ h => h)
    change wpAnyH _ _ _ _ _ 7 #[false, false, false, false, false, false, false] _ _
    refine wpAnyH_take (i := 0) (v := ?_) rfl (by kernel_rfl) (by kernel_rfl) (by kernel_rfl) (fun _ _ _ h => h) (Or.inl ⟨by rfl, ?_⟩) (by assumption) ?_
    rotate_left
    · (intro w hSw; (try dsimp only at hSw); go_simp; try with_reducible rfl)
    simp only [List.getElem_toArray, List.getElem_cons_zero, List.getElem_cons_succ, Act.put, List.setIfInBounds_toArray, List.set_cons_zero, List.set_cons_succ]
    refine wpAnyH_take (i := 1) (v := ?_) rfl (by kernel_rfl) (by kernel_rfl) (by kernel_rfl) (fun _ _ _ h => h) (Or.inl ⟨by rfl, ?_⟩) (by assumption) ?_
    rotate_left
    · (intro w hSw; (try dsimp only at hSw); go_simp; try with_reducible rfl)
    simp only [List.getElem_toArray, List.getElem_cons_zero, List.getElem_cons_succ, Act.put, List.setIfInBounds_toArray, List.set_cons_zero, List.set_cons_succ]
    refine wpAnyH_take (i := 2) (v := ?_) rfl (by kernel_rfl) (by kernel_rfl) (by kernel_rfl) (fun _ _ _ h => h) (Or.inl ⟨by rfl, ?_⟩) (by assumption) ?_
    rotate_left
    · (intro w hSw; (try dsimp only at hSw); go_simp; try with_reducible rfl)
    simp only [List.getElem_toArray, List.getElem_cons_zero, List.getElem_cons_succ, Act.put, List.setIfInBounds_toArray, List.set_cons_zero, List.set_cons_succ]
    refine wpAnyH_take (i := 3) (v := ?_) rfl (by kernel_rfl) (by kernel_rfl) (by kernel_rfl) (fun _ _ _ h => h) (Or.inl ⟨by rfl, ?_⟩) (by assumption) ?_
    rotate_left
    · (intro w hSw; (try dsimp only at hSw); go_simp; try with_reducible rfl)
    simp only [List.getElem_toArray, List.getElem_cons_zero, List.getElem_cons_succ, Act.put, List.setIfInBounds_toArray, List.set_cons_zero, List.set_cons_succ]
    refine wpAnyH_take (i := 4) (v := ?_) rfl (by kernel_rfl) (by kernel_rfl) (by kernel_rfl) (fun _ _ _ h => h) (Or.inl ⟨by rfl, ?_⟩) (by assumption) ?_
    rotate_left
    · (intro w hSw; (try dsimp only at hSw); go_simp; try with_reducible rfl)
    simp only [List.getElem_toArray, List.getElem_cons_zero, List.getElem_cons_succ, Act.put, List.setIfInBounds_toArray, List.set_cons_zero, List.set_cons_succ]
    refine wpAnyH_take (i := 5) (v := ?_) rfl (by kernel_rfl) (by kernel_rfl) (by kernel_rfl) (fun _ _ _ h => h) (Or.inl ⟨by rfl, ?_⟩) (by assumption) ?_
    rotate_left
    · (intro w hSw; (try dsimp only at hSw); go_simp; try with_reducible rfl)
    simp only [List.getElem_toArray, List.getElem_cons_zero, List.getElem_cons_succ, Act.put, List.setIfInBounds_toArray, List.set_cons_zero, List.set_cons_succ]
    refine wpAnyH_ready (rs := [6]) (by kernel_rfl) (by simp) ?_
    refine AllReadyH.cons rfl (fun K hK => ?_) AllReadyH.nil
    go_simp
    refine hK.out _ _ yS (fun hHeld => ?_)
    clear hK K
    refine wpAnyH_done (by kernel_rfl) ?_ _
    dsimp only [OnlyNormal]
    gi_wp2_with fail
    refine ⟨((KeepsOthers.setCell _ _ _).trans (KeepsOthers.drew _)).from _, (KpS.setCell W ⟨g, x, none⟩ (by simp; omega) _), ?_, ?_, ?_, (hO.setCell ⟨g, x, none⟩ rfl _).drew⟩
    · rw [hsn]
      exact MB.set hMW x b hx
    · exact (Blk.far hP (p := ⟨g, x, none⟩) (by simp; omega) (.int .u8 (b : Int)))
    · exact (Blk.far hQ (p := ⟨g, x, none⟩) (by simp; omega) (.int .u8 (b : Int)))
  case done =>
    rintro D ys W hD rfl ⟨hMW, hP, hQ, hO⟩ hK
    have hMW := MB.congr hMW (fun i hi => setL_eL k b A i hi)
    have y0 : W.cell? ⟨w.heap.size, 0, none⟩ = some (.pointer (some ⟨g, 0, none⟩)) := hP.cell 0
    have y1 : W.cell? ⟨w.heap.size + 1, 0, none⟩ = some (.int .u8 (b : Int)) := hQ.cell 0
    have y2 : W.cell? ⟨g, 8, none⟩ = some (.int .u8 (l : Int)) := Blk.cell hMW 8
    have y3 : W.frozen? ⟨g, 8, none⟩ = false := Blk.frozen hMW 8
    gi_wp2_with fail
    have hK2 := (KeepsOthers.setCell W ⟨g, 8, none⟩ (.int .u8 (b : Int))).same D _ hK rfl
    refine ⟨by simp, .inl ⟨_, _, rfl, run_takeDeferred hK2, ?_⟩⟩
    refine ⟨_, results_none rfl _ _ _, ⟨_, rfl⟩, ?_, ?_⟩
    · exact (blk_own g 53 (fun _ : Unit => mc (setK k b A) b)).putObj (s := ()) _ (MB.setLast hMW b) hK2 rfl
    · exact (ownFrom_only (β := Unit) (S := fun j => j = g) (w := w) (B := w3.heap.size) (by omega)).putObj (s := ()) _ (hO.setCell ⟨g, 8, none⟩ rfl _) hD hK2 rfl
  case stop =>
    rintro D cc pre W _ _ h _
    exact h.elim
end Go.Proofs.Ytjaibacpojpfhaa
