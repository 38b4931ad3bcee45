/-
  The texts Sc32, Sc33 of the proofs about scripts, as one file (they are merged by a program).
-/
import Derived.Test.YtdhdknjefjolpaaDoorA12
import Derived.Test.YtdhdknjefjolpaaDoorA1
section
/-
  script.Parse.
-/
namespace Go.Proofs.YtdhdknjefjolpaaDoor
set_option linter.unusedSimpArgs false
set_option linter.unusedVariables false
set_option maxRecDepth 10000
open Go.RowKit Go.Shelf Pl
attribute [local go_sem] Oper.semAt_some
theorem rline_nil (base r m c : Nat) (o : Option Addr) (T : Tl) (w : World) (hT : RD w base r m T) :
    Calls Tryd.prog 33 #[.pointer (some ⟨r, 0, none⟩), .slice o 0 c] w fun e w' => e = .returned (.int .i64 ((lineT T []).1 : Int)) ∧ RD w' base r m (lineT T []).2 ∧ KpR base r m w w' := by
  have HT := hide hT
  clear hT
  go_enter Tryd.func33, Tryd.ntmps33
  go_wp2_with fail
  go_ret
  exact ⟨rfl, HT.out, KpR.refl _ _ _ _⟩
theorem rlineL_calls (base r m c : Nat) (o : Option Addr) (L : List (List UInt8)) (T : Tl) (w : World) (hT : RD w base r m T) (hbn : T.bnd 200001) (hL : WsAt w o L) (hn : L.length ≤ 200000) (hcap : L.length ≤ c) (hx : ∀ x ∈ L, x.length ≤ 200001) :
    Calls Tryd.prog 33 #[.pointer (some ⟨r, 0, none⟩), .slice o L.length c] w fun e w' => e = .returned (.int .i64 ((lineT T L).1 : Int)) ∧ RD w' base r m (lineT T L).2 ∧ KpR base r m w w' := by
  cases L with
  | nil => exact rline_nil base r m c o T w hT
  | cons h R =>
    rw [List.length_cons] at hn hcap
    exact rline_calls base r m c o h R T w hT hbn hL (by omega) hcap (fun x hm => hx x (List.mem_cons_of_mem _ hm))
def KB (base r m : Nat) (W0 W : World) : Prop := base ≤ W0.heap.size ∧ KpR base r m W0 W
theorem KB.low {base r m : Nat} {W0 W W' : World} (h : KB base r m W0 W) (hb : Below W.heap.size W W') : KB base r m W0 W' := ⟨h.1, h.2.trans (KpR.ofB hb (Nat.le_trans h.1 h.2.size))⟩
theorem KB.drew {base r m : Nat} {W0 W : World} (h : KB base r m W0 W) : KB base r m W0 W.drew := h.low (Below.drew (Below.refl _ _))
theorem RD.drew {W : World} {base r m : Nat} {T : Tl} (h : RD W base r m T) : RD W.drew base r m T := h.low (Below.drew (Below.refl _ _))
theorem SL.keepC {W W' : World} {base : Nat} {vp v0 v1 v2 ve : Value} {Q : List Pq} {T : Tl} (h : SL W base vp v0 v1 v2 ve Q T) (hk : ∀ g o, base ≤ g → W.heap[g]? = some o → o.isCells = true → W'.heap[g]? = some o) : SL W' base vp v0 v1 v2 ve Q T := by
  have kk : ∀ {n size : Nat} {e : TypeId} {v : Value} {xs : List Value}, W.ownsRow base e size v n xs → W'.ownsRow base e size v n xs := fun r => own1_keep r (fun g hg => by
    obtain ⟨h1, cur, h2⟩ := own1_blk r hg
    rw [h2]
    exact hk g _ h1 h2 rfl)
  exact ⟨h.ps, kk h.r0, kk h.r1, kk h.r2, kk h.re, kk h.rp, fun q hq => kk (h.rq q hq), h.s01, h.s02, h.s12, h.q0, h.q1, h.q2⟩
/-- What a reader holds, where cells from base on and the reader's own blocks lie as they lay. -/
theorem RD.keepC {W W' : World} {base r m : Nat} {T : Tl} (h : RD W base r m T) (hs : W.heap.size ≤ W'.heap.size) (hr : W'.heap[r]? = W.heap[r]?) (hm : W'.heap[m]? = W.heap[m]?) (hk : ∀ g o, base ≤ g → W.heap[g]? = some o → o.isCells = true → W'.heap[g]? = some o) : RD W' base r m T := by
  obtain ⟨h1, h2, h3, h4, vp, v0, v1, v2, ve, Q, h5, h6, h7⟩ := h
  exact ⟨h1, h2, h3, Nat.le_trans h4 hs, vp, v0, v1, v2, ve, Q, hr.trans h5, h6.same hm, h7.keepC hk⟩
theorem below_putObj {z : Nat} {w W : World} (h : Below z w W) (hz : z ≤ W.heap.size) (k : Nat) (hk : z ≤ k) (o : Obj) : Below z w (W.putObj k o) := h.grown (grownBy_putObj' W k o) hz (fun x e => by cases e; exact hk)
theorem has_suffix_nl (x : List UInt8) : Lib.hasSuffix (x ++ [10]) [10] = true := by simp [Lib.hasSuffix]
theorem has_suffix_no (x : List UInt8) (h : (10 : UInt8) ∉ x) : Lib.hasSuffix x [10] = false := by
  cases hs : Lib.hasSuffix x [10] with
  | false => rfl
  | true =>
    have h2 : [10] <:+ x := by simpa [Lib.hasSuffix] using hs
    obtain ⟨y, rfl⟩ := h2
    exact absurd (by simp) h
theorem hs_calls (x : List UInt8) (w : World) (hs : x.length ≤ 200001) : Calls Tryd.prog 32 #[.string ⟨x.toArray⟩, .string ⟨#[10]⟩] w fun e w' => e = .returned (.bool (Lib.hasSuffix x [10])) ∧ w = w' := by
  refine (Tryd.strings_HasSuffix ⟨x.toArray⟩ ⟨#[10]⟩ w (by rw [strS]; omega)).mono ?_
  rintro e w' ⟨rfl, rfl⟩
  exact ⟨rfl, rfl⟩
/-- A store of a whole row, in a round or anywhere. -/
theorem wpListIn_store_row {F : Fence} {n : Nat} {P : Program} {ops : Array Oper} {rest : List Oper} {o : Oper} {a : Act} {w : World} {Q : Exit → Act → World → Prop} (hgd : o.guard = none) (ty : TypeId) (x y : Operand) (ho : o.op = .store ty x y)
    (g : Nat) (cells : Array Value) (hx : a.eval x = .pointer (some ⟨g, 0, none⟩)) (hy : a.eval y = .agg cells)
    (t : TypeId) (old : Array Value) (hg : w.heap[g]? = some (.cells old t (0, 0))) (hi : (P.info? ty).map (·.size) = some cells.size)
    (hold : old.size = cells.size) (h1 : cells.all (·.oneCell') = true)
    (h : wpListIn F n P ops Q rest (a.put o.dst undef) (w.setRow g cells)) : wpListIn F n P ops Q (o :: rest) a w := by
  refine wpListIn_plain hgd fun K hK' => ?_
  unfold Oper.wpIn
  refine ⟨?_, ?_⟩
  · simp [Oper.about, ho, resolve, Target.leads, Sem.run_pure]
  · rw [Oper.semAt_plain F _ _ (by rw [ho]; intro c hc'; cases hc')]
    unfold execOp
    simp only [ho, hx, hy, Instr.storeAt, Instr.sureAddr, Sem.run_bind, Sem.run_pure, Result.andThen_ok, run_storeVar_row w g t ty old cells hg hi hold h1]
    exact hK' _ _ h
def hasU8 (W : World) (g : Nat) : Prop := ∃ off x, W.cell? ⟨g, off, none⟩ = some (.int .u8 x)
theorem nums_gen {W W' : World} {o : Option Addr} {n : Nat} {F : Nat → Int} (h : NumsAt W .u8 o n F) (hs : W.heap.size ≤ W'.heap.size) (hk : ∀ g, hasU8 W g → W'.heap[g]? = W.heap[g]?) : NumsAt W' .u8 o n F := fun i hi => by
  obtain ⟨b, off, e, hlt, hc⟩ := h i hi
  exact ⟨b, off, e, by omega, (World.cell?_of_block (hk b ⟨_, _, hc⟩)).trans hc⟩
theorem edg_gen {W W' : World} {a : Option Addr} {n : Nat} {St : Nat → Int} {Ln : Nat → Nat} {Up : Nat → Bool} {B B' : Nat} (h : EdgB W a n St Ln Up B) (hs : B ≤ B') (hk : ∀ g, hasU8 W g → W'.heap[g]? = W.heap[g]?) : EdgB W' a n St Ln Up B' := fun i hi => by
  obtain ⟨b, f, h1, h2, h3, h4, h5⟩ := h i hi
  have hb := hk b ⟨_, _, h4⟩
  exact ⟨b, f, h1, by omega, (World.cell?_of_block hb).trans h3, (World.cell?_of_block hb).trans h4, (World.cell?_of_block hb).trans h5⟩
theorem ParOk.gen {p b : Nat} {T : Tl} {e : Ending} {W W' : World} (h : ParOk p b T e W) (hs : W.heap.size ≤ W'.heap.size) (hk : ∀ g, hasU8 W g → W'.heap[g]? = W.heap[g]?) : ParOk p b T e W' := by
  obtain ⟨o, c, o0, c0, o1, c1, o2, c2, oe, ce, h0, h1, h2, h3, h4, h5, h6, h7⟩ := h
  exact ⟨o, c, o0, c0, o1, c1, o2, c2, oe, ce, h0, nums_gen h1 hs hk, nums_gen h2 hs hk, nums_gen h3 hs hk, nums_gen h4 hs hk, edg_gen h5 hs hk, h6, h7⟩
theorem not_u8 {W : World} {g : Nat} {t : TypeId} {cs : Array Value} (hB : Blk W g t cs) (hno : ∀ x, Value.int .u8 x ∉ cs.toList) : ¬ hasU8 W g := by
  rintro ⟨off, x, hc⟩
  rw [cell_of_row W g off cs t (0, 0) hB, ← Array.getElem?_toList] at hc
  exact hno _ (List.mem_of_getElem? hc)
theorem not_u8_obj {W : World} {g : Nat} {o : Obj} (h : W.heap[g]? = some o) (hc : o.isCells = false) : ¬ hasU8 W g := by
  rintro ⟨off, x, hx⟩
  obtain ⟨o', h1, h2⟩ := cells_of_cell hx
  rw [h] at h1
  cases h1
  rw [hc] at h2
  cases h2
/-- Between two lines. -/
def prI (l : List UInt8) (w : World) (z rr mm pc base : Nat) (i : Nat × List UInt8) (W : World) : Prop := ∃ T, 1 ≤ i.1 ∧ parG T (i.1 - 1) [] i.2 = parG T0 0 [] l ∧ T.bnd (i.1 - 1) ∧ pgOk T ∧ i.1 + i.2.length ≤ 200001 ∧
  RD W base rr mm T ∧ Blk W z 27 #[Value.slice none 0 0, .slice none 0 0, .slice none 0 0, .slice none 0 0, .slice none 0 0, .int .i64 0] ∧ Blk W (z + 1) 34 #[Value.int .i64 0, .int .i64 0] ∧ Blk W pc 59 #[.pointer (some ⟨rr, 0, none⟩)] ∧ Below z w W
/-- A line was wrong. -/
def prX (l : List UInt8) (w : World) (z : Nat) (W : World) : Prop := ∃ (e n : Nat) (T : Tl), parG T0 0 [] l = (e, n, T) ∧ e ≠ 0 ∧ Blk W z 27 #[Value.slice none 0 0, .slice none 0 0, .slice none 0 0, .slice none 0 0, .slice none 0 0, .int .i64 0] ∧ Blk W (z + 1) 34 #[.int .i64 (e : Int), .int .i64 (n : Int)] ∧ Below z w W
theorem prI_only {l : List UInt8} {w W W' : World} {z rr mm pc base B : Nat} {i : Nat × List UInt8} (h : prI l w z rr mm pc base i W) (ho : Only (fun k => k = B) W W') (hB : B < base) (h1 : z + 1 < B) (h2 : rr ≠ B) (h3 : mm ≠ B) (h4 : pc ≠ B) : prI l w z rr mm pc base i W' := by
  obtain ⟨T, a1, a2, a3, a4, a5, hR, hZ, hF, hP, hb⟩ := h
  refine ⟨T, a1, a2, a3, a4, a5, hR.keepC ho.size (ho.block rr (by have := hR.1; have := hR.2.2.2.1; omega) h2) (ho.block mm (by have := hR.2.1; have := hR.2.2.2.1; omega) h3) (fun g o hg hh _ => (ho.block g (Array.getElem?_eq_some_iff.1 hh).1 (by omega)).trans hh), hZ.only ho (by omega), hF.only ho (by omega), hP.only ho h4, hb.trans (ho.below (B := z) (by have := hZ.lt; omega) (fun k e => by (have e : k = B := e); omega))⟩
theorem prX_only {l : List UInt8} {w W W' : World} {z B : Nat} (h : prX l w z W) (ho : Only (fun k => k = B) W W') (h1 : z + 1 < B) : prX l w z W' := by
  obtain ⟨e, n, T, a1, a2, hZ, hF, hb⟩ := h
  exact ⟨e, n, T, a1, a2, hZ.only ho (by omega), hF.only ho (by omega), hb.trans (ho.below (B := z) (by have := hZ.lt; omega) (fun k e => by (have e : k = B := e); omega))⟩
theorem prI_put {l : List UInt8} {w W : World} {z rr mm pc base k : Nat} {o o' : Obj} {i : Nat × List UInt8} (h : prI l w z rr mm pc base i W) (hk : base ≤ k) (hz : z + 1 < base) (hp : pc < base) (ho : W.heap[k]? = some o) (hc : o.isCells = false) : prI l w z rr mm pc base i (W.putObj k o') := by
  obtain ⟨T, a1, a2, a3, a4, a5, hR, hZ, hF, hP, hb⟩ := h
  have q : ∀ {x : Nat}, x ≠ k → (W.putObj k o').heap[x]? = W.heap[x]? := fun hx => World.putObj_heap_other hx
  refine ⟨T, a1, a2, a3, a4, a5, hR.keepC (grownBy_putObj' W k o').size (q (by have := hR.1; omega)) (q (by have := hR.2.1; omega)) (fun g o2 hg hh hc2 => ?_), (q (by omega)).trans hZ, (q (by omega)).trans hF, (q (by omega)).trans hP, below_putObj hb (by have := hZ.lt; omega) k (by omega) o'⟩
  refine (q ?_).trans hh
  intro e
  subst e
  rw [ho] at hh
  cases hh
  rw [hc] at hc2
  cases hc2
theorem prX_put {l : List UInt8} {w W : World} {z k : Nat} {o' : Obj} (h : prX l w z W) (hk : z + 1 < k) : prX l w z (W.putObj k o') := by
  obtain ⟨e, n, T, a1, a2, hZ, hF, hb⟩ := h
  have q : ∀ {x : Nat}, x ≠ k → (W.putObj k o').heap[x]? = W.heap[x]? := fun hx => World.putObj_heap_other hx
  exact ⟨e, n, T, a1, a2, (q (by omega)).trans hZ, (q (by omega)).trans hF, below_putObj hb (by have := hZ.lt; omega) k (by omega) o'⟩
theorem prI_low {l : List UInt8} {w W W' : World} {z rr mm pc base : Nat} {i : Nat × List UInt8} (h : prI l w z rr mm pc base i W) (hb : Below W.heap.size W W') : prI l w z rr mm pc base i W' := by
  obtain ⟨T, a1, a2, a3, a4, a5, hR, hZ, hF, hP, hb0⟩ := h
  exact ⟨T, a1, a2, a3, a4, a5, hR.low hb, hZ.below hb hZ.lt, hF.below hb hF.lt, hP.below hb hP.lt, hb0.trans (hb.mono (by have := hZ.lt; omega))⟩
set_option maxRecDepth 100000 in
set_option maxHeartbeats 16000000 in
theorem parse_calls (l : List UInt8) (M : Int) (w : World) (hl : l.length ≤ 200000) (hM : w.cell? ⟨0, 0, none⟩ = some (.int .i64 M)) :
    Calls Tryd.prog 12 #[.string ⟨l.toArray⟩] w fun e w' => Below w.heap.size w w' ∧ ParOut (parV l) e w' := by
  have hsz := strS l
  have k1 : (decide ((200000 : Int) < (l.length : Int))) = false := decide_eq_false (by omega)
  have hmm := @run_makeMap Tryd.prog
  have a1 : Blk ((((((w.alloc (.cells #[Value.slice none 0 0, .slice none 0 0, .slice none 0 0, .slice none 0 0, .slice none 0 0, .int .i64 0] 27)).alloc (.cells #[Value.int .i64 0, .int .i64 0] 34))).alloc (.map #[] 0)).alloc (.cells #[.map (some (w.heap.size + 1 + 1)), .slice none 0 0, .slice none 0 0, .slice none 0 0, .slice none 0 0, .slice none 0 0] 63)).alloc (.cells #[.pointer (some ⟨w.heap.size + 1 + 1 + 1, 0, none⟩)] 59)) w.heap.size 27 #[Value.slice none 0 0, .slice none 0 0, .slice none 0 0, .slice none 0 0, .slice none 0 0, .int .i64 0] := ((((Blk.new w _ _).alloc _).alloc _).alloc _).alloc _
  have a2 : Blk ((((((w.alloc (.cells #[Value.slice none 0 0, .slice none 0 0, .slice none 0 0, .slice none 0 0, .slice none 0 0, .int .i64 0] 27)).alloc (.cells #[Value.int .i64 0, .int .i64 0] 34))).alloc (.map #[] 0)).alloc (.cells #[.map (some (w.heap.size + 1 + 1)), .slice none 0 0, .slice none 0 0, .slice none 0 0, .slice none 0 0, .slice none 0 0] 63)).alloc (.cells #[.pointer (some ⟨w.heap.size + 1 + 1 + 1, 0, none⟩)] 59)) (w.heap.size + 1) 34 #[Value.int .i64 0, .int .i64 0] := (((Blk.newAt (by simp)).alloc _).alloc _).alloc _
  have a3 : MetB ((((((w.alloc (.cells #[Value.slice none 0 0, .slice none 0 0, .slice none 0 0, .slice none 0 0, .slice none 0 0, .int .i64 0] 27)).alloc (.cells #[Value.int .i64 0, .int .i64 0] 34))).alloc (.map #[] 0)).alloc (.cells #[.map (some (w.heap.size + 1 + 1)), .slice none 0 0, .slice none 0 0, .slice none 0 0, .slice none 0 0, .slice none 0 0] 63)).alloc (.cells #[.pointer (some ⟨w.heap.size + 1 + 1 + 1, 0, none⟩)] 59)) (w.heap.size + 1 + 1) none none := by
    have h := World.ownsMap_made ((w.alloc (.cells #[Value.slice none 0 0, .slice none 0 0, .slice none 0 0, .slice none 0 0, .slice none 0 0, .int .i64 0] 27)).alloc (.cells #[Value.int .i64 0, .int .i64 0] 34)) Tryd.prog 9 elI
    rw [show ((w.alloc (.cells #[Value.slice none 0 0, .slice none 0 0, .slice none 0 0, .slice none 0 0, .slice none 0 0, .int .i64 0] 27)).alloc (.cells #[Value.int .i64 0, .int .i64 0] 34)).heap.size = w.heap.size + 1 + 1 by simp] at h
    exact (h.alloc _).alloc _
  have a4 : Blk ((((((w.alloc (.cells #[Value.slice none 0 0, .slice none 0 0, .slice none 0 0, .slice none 0 0, .slice none 0 0, .int .i64 0] 27)).alloc (.cells #[Value.int .i64 0, .int .i64 0] 34))).alloc (.map #[] 0)).alloc (.cells #[.map (some (w.heap.size + 1 + 1)), .slice none 0 0, .slice none 0 0, .slice none 0 0, .slice none 0 0, .slice none 0 0] 63)).alloc (.cells #[.pointer (some ⟨w.heap.size + 1 + 1 + 1, 0, none⟩)] 59)) (w.heap.size + 1 + 1 + 1) 63 (rdR (w.heap.size + 1 + 1) (.slice none 0 0) (.slice none 0 0) (.slice none 0 0) (.slice none 0 0) (.slice none 0 0)) := (Blk.newAt (by simp)).alloc _
  have a5 : Blk ((((((w.alloc (.cells #[Value.slice none 0 0, .slice none 0 0, .slice none 0 0, .slice none 0 0, .slice none 0 0, .int .i64 0] 27)).alloc (.cells #[Value.int .i64 0, .int .i64 0] 34))).alloc (.map #[] 0)).alloc (.cells #[.map (some (w.heap.size + 1 + 1)), .slice none 0 0, .slice none 0 0, .slice none 0 0, .slice none 0 0, .slice none 0 0] 63)).alloc (.cells #[.pointer (some ⟨w.heap.size + 1 + 1 + 1, 0, none⟩)] 59)) (w.heap.size + 1 + 1 + 1 + 1) 59 #[.pointer (some ⟨w.heap.size + 1 + 1 + 1, 0, none⟩)] := Blk.newAt (by simp)
  have a6 : Below w.heap.size w ((((((w.alloc (.cells #[Value.slice none 0 0, .slice none 0 0, .slice none 0 0, .slice none 0 0, .slice none 0 0, .int .i64 0] 27)).alloc (.cells #[Value.int .i64 0, .int .i64 0] 34))).alloc (.map #[] 0)).alloc (.cells #[.map (some (w.heap.size + 1 + 1)), .slice none 0 0, .slice none 0 0, .slice none 0 0, .slice none 0 0, .slice none 0 0] 63)).alloc (.cells #[.pointer (some ⟨w.heap.size + 1 + 1 + 1, 0, none⟩)] 59)) := Bl.alloc (Bl.alloc (Bl.alloc (Bl.alloc (Bl.alloc (Below.refl _ _) _) _) _) _) _
  have a7 : ((((((w.alloc (.cells #[Value.slice none 0 0, .slice none 0 0, .slice none 0 0, .slice none 0 0, .slice none 0 0, .int .i64 0] 27)).alloc (.cells #[Value.int .i64 0, .int .i64 0] 34))).alloc (.map #[] 0)).alloc (.cells #[.map (some (w.heap.size + 1 + 1)), .slice none 0 0, .slice none 0 0, .slice none 0 0, .slice none 0 0, .slice none 0 0] 63)).alloc (.cells #[.pointer (some ⟨w.heap.size + 1 + 1 + 1, 0, none⟩)] 59)).heap.size = w.heap.size + 5 := by simp
  have hea := each_calls l ((((((w.alloc (.cells #[Value.slice none 0 0, .slice none 0 0, .slice none 0 0, .slice none 0 0, .slice none 0 0, .int .i64 0] 27)).alloc (.cells #[Value.int .i64 0, .int .i64 0] 34))).alloc (.map #[] 0)).alloc (.cells #[.map (some (w.heap.size + 1 + 1)), .slice none 0 0, .slice none 0 0, .slice none 0 0, .slice none 0 0, .slice none 0 0] 63)).alloc (.cells #[.pointer (some ⟨w.heap.size + 1 + 1 + 1, 0, none⟩)] 59))
  refine (callsIn_wide (n := 3)).1 ?_
  refine callsIn_of_wp_marks Tryd.func12 rfl trivial ?_ rfl
  simp only [Tryd.ntmps12, List.size_toArray, List.length_cons, List.length_nil, Nat.reduceAdd, Nat.reduceSub, Array.replicate_succ, Array.replicate_zero, List.push_toArray, List.append_toArray, List.nil_append, List.cons_append]
  have HA7 := hide a7
  clear a7
  gi_wp2_with fail
  refine ⟨trivial, (callsIn_wide.2 hea).mono ?_⟩
  clear hea
  rintro e w6 ⟨rfl, rfl⟩
  have hzz := hide (show w.heap.size = w.heap.size from rfl)
  generalize ((((((w.alloc (.cells #[Value.slice none 0 0, .slice none 0 0, .slice none 0 0, .slice none 0 0, .slice none 0 0, .int .i64 0] 27)).alloc (.cells #[Value.int .i64 0, .int .i64 0] 34))).alloc (.map #[] 0)).alloc (.cells #[.map (some (w.heap.size + 1 + 1)), .slice none 0 0, .slice none 0 0, .slice none 0 0, .slice none 0 0, .slice none 0 0] 63)).alloc (.cells #[.pointer (some ⟨w.heap.size + 1 + 1 + 1, 0, none⟩)] 59)) = w5 at *
  generalize hz : w.heap.size = z at *
  obtain ⟨mm, hmq⟩ : ∃ mm, z + 1 + 1 = mm := ⟨_, rfl⟩
  obtain ⟨rr, hrq⟩ : ∃ rr, mm + 1 = rr := ⟨_, rfl⟩
  obtain ⟨pc, hpq⟩ : ∃ pc, rr + 1 = pc := ⟨_, rfl⟩
  have hm2 : z + 2 = mm := by omega
  have hr2 : z + 3 = rr := by omega
  have hp2 : z + 4 = pc := by omega
  rw [hmq, hrq] at a4
  rw [hmq] at a3
  rw [hmq, hrq, hpq] at a5
  simp only [hmq, hrq, hpq]
  have hsB := HA7.out
  obtain ⟨B, hBq⟩ : ∃ B, w5.heap.size = B := ⟨_, rfl⟩
  rw [hBq]
  have hB6 : Blk (w5.alloc (.cells #[.string ⟨l.toArray⟩] 9)) B 9 #[.string ⟨l.toArray⟩] := Blk.newAt hBq.symm
  have hb6 : Below w5.heap.size w5 (w5.alloc (.cells #[.string ⟨l.toArray⟩] 9)) := Bl.alloc (Below.refl _ _) _
  have hs6 : (w5.alloc (.cells #[.string ⟨l.toArray⟩] 9)).heap.size = B + 1 := by simp [hBq]
  have hM6 : (w5.alloc (.cells #[.string ⟨l.toArray⟩] 9)).cell? ⟨0, 0, none⟩ = some (.int .i64 M) := ((a6.trans (hb6.mono (by omega))).cell (by have := cell_lt hM; omega)).trans hM
  have hM0 : 0 < z := by have := cell_lt hM; omega
  have hI6 : prI l w z rr mm pc (B + 1) (1, l) (w5.alloc (.cells #[.string ⟨l.toArray⟩] 9)) :=
    ⟨T0, Nat.le_refl _, rfl, ⟨Nat.zero_le _, Nat.zero_le _, Nat.zero_le _, Nat.le_refl _, Nat.le_refl _⟩, fun p h => (by cases h), (show 1 + l.length ≤ 200001 by omega),
      ⟨by omega, by omega, by omega, by omega, _, _, _, _, _, _, a4.below hb6 a4.lt, a3.same (hb6.block mm (by omega)), SL.nil _ _ _ _⟩, a1.below hb6 a1.lt, a2.below hb6 a2.lt, a5.below hb6 a5.lt, a6.trans (hb6.mono (by omega))⟩
  clear a1 a2 a3 a4 a5 a6
  generalize w5.alloc (.cells #[.string ⟨l.toArray⟩] 9) = w6 at *
  clear hsz k1 hmm hmq hrq hpq
  have HB6 := hide hB6
  have HM6 := hide hM6
  have HI6 := hide hI6
  have hBz : z + 5 = B := by omega
  have hBG : B ≠ 0 := by omega
  clear hB6 hM6 hI6 hBq hsB
  gi_wp2_with fail
  refine rangeText (n := 3) (by decide) (gf := 55) (lb := #[.pointer (some ⟨B, 0, none⟩)]) rfl (enters_of Tryd.func55 (by kernel_rfl) rfl)
    (each1_it l B 2 M w6 hl HB6.out HM6.out hBG) (Below.refl _ _) (by omega) (by omega)
    (fun i args h => by rcases h with ⟨x, t, _, _, rfl⟩ | ⟨_, _, rfl⟩ <;> rfl)
    (prI l w z rr mm pc (B + 1)) (prX l w z)
    (fun i W W' h ho => prI_only h ho (by omega) (by omega) (by omega) (by omega) (by omega)) (fun W W' h ho => prX_only h ho (by omega))
    (fun i W k o o' h hk ho hc => prI_put h (by omega) (by omega) (by omega) ho hc) (fun W k o o' h hk _ _ => prX_put h (by omega))
    (fun o o' => prI_low HI6.out ((Bl.alloc (Bl.alloc (Below.refl _ _) _) _)))
    (fun args => { tmps := #[.string ⟨l.toArray⟩, undef, .pointer (some ⟨z, 0, none⟩), .pointer (some ⟨z + 1, 0, none⟩), .pointer (some ⟨pc, 0, none⟩), args.getD 0 undef, args.getD 1 undef, undef, .string ⟨l.toArray⟩, .int .i64 (l.length : Int), .bool false, undef, undef, .map (some mm), .agg #[.map (some mm), .slice none 0 0, .slice none 0 0, .slice none 0 0, .slice none 0 0, .slice none 0 0], .pointer (some ⟨rr, 0, none⟩), .string ⟨l.toArray⟩, .func (.func 55) #[] #[.pointer (some ⟨B, 0, none⟩)], args.getD 0 undef, args.getD 1 undef, undef, undef, undef, undef, undef, undef, undef, undef, undef, undef, undef, undef, undef, undef, undef, undef, undef, undef, undef], defers := [] })
    ?assign ?body ?done ?stop
  case assign =>
    intro lp i args W K hr hK
    rcases hr with ⟨x, t, _, _, rfl⟩ | ⟨_, _, rfl⟩
    · gi_wp2_with fail
      exact hK
    · gi_wp2_with fail
      exact hK
  case body =>
    intro lp i args W hr hI
    obtain ⟨n, r⟩ := i
    obtain ⟨T, a1, a2, a3, a4, a5, hR, hZ, hF, hP, hb⟩ := hI
    have hWs : B + 1 ≤ W.heap.size := hR.2.2.2.1
    rcases hr with ⟨x, t, hxt0, hx, rfl⟩ | ⟨hne, hx, rfl⟩
    · have hxt : r = x ++ 10 :: t := hxt0
      clear hxt0
      have hxl : x.length ≤ 200000 := by
        have a5 : n + r.length ≤ 200001 := a5
        have a1 : 1 ≤ n := a1
        rw [hxt, List.length_append, List.length_cons] at a5
        omega
      have hhs := hs_calls x W (by omega)
      rw [has_suffix_no x hx] at hhs
      have HXT := hide hxt
      have HX := hide hx
      have H0 : Hid (1 ≤ n ∧ parG T (n - 1) [] r = parG T0 0 [] l ∧ T.bnd (n - 1) ∧ pgOk T ∧ n + r.length ≤ 200001 ∧ RD W (B + 1) rr mm T ∧ Blk W z 27 #[Value.slice none 0 0, .slice none 0 0, .slice none 0 0, .slice none 0 0, .slice none 0 0, .int .i64 0] ∧ Blk W (z + 1) 34 #[Value.int .i64 0, .int .i64 0] ∧ Blk W pc 59 #[.pointer (some ⟨rr, 0, none⟩)] ∧ Below z w W) := ⟨a1, a2, a3, a4, a5, hR, hZ, hF, hP, hb⟩
      clear hxt hx a1 a2 a3 a4 a5 hR hZ hF hP hb
      gi_wp2_with fail
      refine ⟨trivial, (CallsIn.inRound lp (callsIn_wide.2 hhs)).mono ?_⟩
      clear hhs
      rintro e w1 ⟨rfl, rfl⟩
      gi_wp2_with fail
      obtain ⟨wr, rfl⟩ : ∃ wr, wr = W := ⟨_, rfl⟩
      have kp : wr.cell? ⟨pc, 0, none⟩ = some (.pointer (some ⟨rr, 0, none⟩)) := H0.out.2.2.2.2.2.2.2.2.1.cell 0
      have hkk : KB (B + 1) rr mm wr wr := ⟨hWs, KpR.refl _ _ _ _⟩
      have hRD := H0.out.2.2.2.2.2.1
      have hMc : wr.cell? ⟨0, 0, none⟩ = some (.int .i64 M) := (H0.out.2.2.2.2.2.2.2.2.2.cell hM0).trans hM
      have hwd := lnW_words (l := x) hxl
      have hbn : T.bnd 200001 := H0.out.2.2.1.le (by have := H0.out.2.2.2.2.1; omega)
      refine wpIn_region_round (S := fun W => W.cell? ⟨pc, 0, none⟩ = some (.pointer (some ⟨rr, 0, none⟩)) ∧ KB (B + 1) rr mm wr W) _ (by kernel_rfl) (noDefer_spec (by kernel_rfl)) ⟨(by first | exact kp.drew | exact kp | exact Below.drew kp), (by first | exact hkk.drew | exact hkk | exact Below.drew hkk)⟩ (fun hS0 => ?_) (fun _ _ h => h)
      have hRD_0 : RD wr.drew (B + 1) rr mm T := by first | exact hRD.drew | exact hRD
      have hMc_0 : wr.drew.cell? ⟨0, 0, none⟩ = some (.int .i64 M) := by first | exact hMc.drew | exact hMc
      clear kp hkk hRD hMc
      change wpAnyH _ _ _ _ _ 5 #[false, false, false, false, false] _ _
      generalize wr.drew = v0 at *
      refine wpAnyH_take (i := 0) (v := ?_) rfl (by kernel_rfl) (by kernel_rfl) (by kernel_rfl) (fun _ _ _ h => h) (Or.inl ⟨by rfl, ?_⟩) hS0 ?_
      rotate_left
      · (intro w hSw; (try dsimp only at hSw); go_simp; try with_reducible rfl)
      simp only [List.getElem_toArray, List.getElem_cons_zero, List.getElem_cons_succ, Act.put, List.setIfInBounds_toArray, List.set_cons_zero, List.set_cons_succ]
      refine wpAnyH_take (i := 1) (v := ?_) rfl (by kernel_rfl) (by kernel_rfl) (by kernel_rfl) (fun _ _ _ h => h) (Or.inl ⟨by rfl, ?_⟩) hS0 ?_
      rotate_left
      · (intro w hSw; (try dsimp only at hSw); go_simp; try with_reducible rfl)
      simp only [List.getElem_toArray, List.getElem_cons_zero, List.getElem_cons_succ, Act.put, List.setIfInBounds_toArray, List.set_cons_zero, List.set_cons_succ]
      refine wpAnyH_ready (rs := [2]) (by kernel_rfl) (by simp) ?_
      refine AllReadyH.cons rfl (fun K hK => ?_) AllReadyH.nil
      go_simp
      refine (line_calls x M _ (by omega) hMc_0).mono ?_
      rintro e v1 ⟨v, rfl, hown, hb1⟩
      obtain ⟨o, cp, rfl, hcp, hws⟩ := row_words hown
      (try go_simp)
      refine hK.out _ _ ⟨(by first | exact hS0.1.below hb1 hS0.1.lt | exact hS0.1.trans (hb1.mono hS0.1.size) | exact hS0.1.trans (hb1.mono (by have := hS0.1.size; omega)) | exact (hb1.cell (cell_lt hS0.1)).trans hS0.1 | exact hS0.1.below hb1 (Nat.le_refl _) | exact hS0.1.low hb1 | exact hS0.1.below hb1 | exact hS0.1.trans (Only.of hb1)), (by first | exact hS0.2.below hb1 hS0.2.lt | exact hS0.2.trans (hb1.mono hS0.2.size) | exact hS0.2.trans (hb1.mono (by have := hS0.2.size; omega)) | exact (hb1.cell (cell_lt hS0.2)).trans hS0.2 | exact hS0.2.below hb1 (Nat.le_refl _) | exact hS0.2.low hb1 | exact hS0.2.below hb1 | exact hS0.2.trans (Only.of hb1))⟩ (fun hS1 => ?_)
      clear hK K
      have hRD_1 : RD v1 (B + 1) rr mm T := (by first | exact hRD_0.below hb1 hRD_0.lt | exact hRD_0.trans (hb1.mono hRD_0.size) | exact hRD_0.trans (hb1.mono (by have := hRD_0.size; omega)) | exact (hb1.cell (cell_lt hRD_0)).trans hRD_0 | exact hRD_0.below hb1 (Nat.le_refl _) | exact hRD_0.low hb1 | exact hRD_0.below hb1 | exact hRD_0.trans (Only.of hb1))
      have hMc_1 : v1.cell? ⟨0, 0, none⟩ = some (.int .i64 M) := (by first | exact hMc_0.below hb1 hMc_0.lt | exact hMc_0.trans (hb1.mono hMc_0.size) | exact hMc_0.trans (hb1.mono (by have := hMc_0.size; omega)) | exact (hb1.cell (cell_lt hMc_0)).trans hMc_0 | exact hMc_0.below hb1 (Nat.le_refl _) | exact hMc_0.low hb1 | exact hMc_0.below hb1 | exact hMc_0.trans (Only.of hb1))
      clear hb1 hS0
      simp only [List.getElem_toArray, List.getElem_cons_zero, List.getElem_cons_succ, Act.put, List.setIfInBounds_toArray, List.set_cons_zero, List.set_cons_succ]
      refine wpAnyH_ready (rs := [3]) (by kernel_rfl) (by simp) ?_
      refine AllReadyH.cons rfl (fun K hK => ?_) AllReadyH.nil
      go_simp
      refine (rlineL_calls (B + 1) rr mm cp o (lnW x) T _ hRD_1 hbn hws hwd.1 hcp hwd.2).mono ?_
      rintro e v2 ⟨rfl, q1, q2⟩
      (try go_simp)
      refine hK.out _ _ ⟨(World.cell?_of_block (q2.low pc (by omega) (by omega) (by omega))).trans hS1.1, ⟨hS1.2.1, hS1.2.2.trans q2⟩⟩ (fun hS2 => ?_)
      clear hK K hS1
      simp only [List.getElem_toArray, List.getElem_cons_zero, List.getElem_cons_succ, Act.put, List.setIfInBounds_toArray, List.set_cons_zero, List.set_cons_succ]
      refine wpAnyH_take (i := 4) (v := ?_) rfl (by kernel_rfl) (by kernel_rfl) (by kernel_rfl) (fun _ _ _ h => h) (Or.inl ⟨by rfl, ?_⟩) hS2 ?_
      rotate_left
      · (intro w hSw; (try dsimp only at hSw); go_simp; try with_reducible rfl)
      simp only [List.getElem_toArray, List.getElem_cons_zero, List.getElem_cons_succ, Act.put, List.setIfInBounds_toArray, List.set_cons_zero, List.set_cons_succ]
      refine wpAnyH_done (by kernel_rfl) ?_ _
      dsimp only [OnlyNormal]
      have kp := hS2.1
      have hkk := hS2.2
      clear hS2
      generalize v2 = wz at *
      have hk := hkk.2
      have hsz := H0.out.2.2.2.2.2.2.1.lt
      have hZz : Blk wz z 27 #[Value.slice none 0 0, .slice none 0 0, .slice none 0 0, .slice none 0 0, .slice none 0 0, .int .i64 0] := (hk.low z (by omega) (by omega) (by omega)).trans H0.out.2.2.2.2.2.2.1
      have hFz : Blk wz (z + 1) 34 #[Value.int .i64 0, .int .i64 0] := (hk.low (z + 1) (by omega) (by omega) (by omega)).trans H0.out.2.2.2.2.2.2.2.1
      have hPz : Blk wz pc 59 #[.pointer (some ⟨rr, 0, none⟩)] := (hk.low pc (by omega) (by omega) (by omega)).trans H0.out.2.2.2.2.2.2.2.2.1
      have hbz : Below z w wz := H0.out.2.2.2.2.2.2.2.2.2.trans ⟨hk.os, hk.tape, hk.output, hk.size, fun k hlt => hk.low k (by omega) (by omega) (by omega)⟩
      have hG := H0.out.2.1
      rw [HXT.out, parG_hit x t HX.out, List.nil_append] at hG
      have HK := hide hk
      have HPz := hide hPz
      have HBz := hide hbz
      have HQ := hide q1
      have HZz := hide hZz
      have HFz := hide hFz
      clear hwd hkk hk kp hPz hbz q1
      by_cases he : (lineT T (lnW x)).1 = 0
      · have hq : (((lineT T (lnW x)).1 : Int) != 0) = false := by rw [he]; rfl
        rw [if_pos he] at hG
        have HG := hide hG
        clear he hG hZz hFz
        gi_wp2_with fail
        have a1 := H0.out.1
        have a5 := H0.out.2.2.2.2.1
        have hrl : r.length = x.length + (t.length + 1) := by rw [HXT.out, List.length_append, List.length_cons]
        refine ⟨fun k o h1 h2 h3 => HK.out.walk k o h1 h2 (by omega), HK.out.low B (by omega) (by omega) (by omega), HK.out.low 0 (by omega) (by omega) (by omega), (n + 1, t), ⟨x, HXT.out, HX.out, rfl, rfl⟩, (lineT T (lnW x)).2, (show 1 ≤ n + 1 by omega), ?_, ?_, lineT_pg H0.out.2.2.2.1 _, (show n + 1 + t.length ≤ 200001 by omega), HQ.out, HZz.out, HFz.out, HPz.out, HBz.out⟩
        · have h := HG.out
          rw [show n - 1 + 1 = n + 1 - 1 by omega] at h
          exact h
        · have h := lineT_bnd H0.out.2.2.1 (lnW x) (by have := (lnW_words (l := x) hxl).1; omega)
          rw [show n - 1 + 1 = n + 1 - 1 by omega] at h
          exact h
      · have hq : (((lineT T (lnW x)).1 : Int) != 0) = true := by rw [bne_iff_ne]; omega
        rw [if_neg he] at hG
        have HG := hide hG
        have HE := hide he
        have hF8 := hFz.setRow_far (g' := z) (by omega) #[Value.slice none 0 0, .slice none 0 0, .slice none 0 0, .slice none 0 0, .slice none 0 0, .int .i64 0]
        clear he hG
        gi_wp2_with (first | (refine wpListIn_store_row rfl 27 _ _ rfl z #[Value.slice none 0 0, .slice none 0 0, .slice none 0 0, .slice none 0 0, .slice none 0 0, .int .i64 0] rfl rfl 27 _ hZz (by kernel_rfl) rfl (by kernel_rfl) ?_) | (refine wpListIn_store_row rfl 34 _ _ rfl (z + 1) #[Value.int .i64 ((lineT T (lnW x)).1 : Int), .int .i64 (n : Int)] rfl rfl 34 _ hF8 (by kernel_rfl) rfl (by kernel_rfl) ?_))
        have a1 := H0.out.1
        refine ⟨fun k o h1 h2 h3 => ?_, ?_, ?_, _, n, T, ?_, HE.out, (HZz.out.setRow #[Value.slice none 0 0, .slice none 0 0, .slice none 0 0, .slice none 0 0, .slice none 0 0, .int .i64 0]).setRow_far (by omega) _, hF8.setRow _, below_setRow (below_setRow HBz.out (Nat.le_refl _) _) (by omega) _⟩
        · exact (setRow_block _ _ _ k (by omega)).trans ((setRow_block _ _ _ k (by omega)).trans (HK.out.walk k o h1 h2 (by omega)))
        · exact (setRow_block _ _ _ B (by omega)).trans ((setRow_block _ _ _ B (by omega)).trans (HK.out.low B (by omega) (by omega) (by omega)))
        · exact (setRow_block _ _ _ 0 (by omega)).trans ((setRow_block _ _ _ 0 (by omega)).trans (HK.out.low 0 (by omega) (by omega) (by omega)))
        · have h := HG.out
          rw [show n - 1 + 1 = n by omega] at h
          exact h.symm
    · have hne : r ≠ [] := hne
      have hx : (10 : UInt8) ∉ r := hx
      have a5 : n + r.length ≤ 200001 := a5
      have a1 : 1 ≤ n := a1
      have a2 : parG T (n - 1) [] r = parG T0 0 [] l := a2
      have hhs := hs_calls (r ++ [10]) W (by rw [List.length_append, List.length_singleton]; omega)
      rw [has_suffix_nl r] at hhs
      rw [parG_miss r hx, List.nil_append, if_neg (by cases r with | nil => exact absurd rfl hne | cons a b => simp), show n - 1 + 1 = n by omega] at a2
      have HA2 := hide a2
      have hF8 := hF.setRow_far (g' := z) (by omega) #[Value.slice none 0 0, .slice none 0 0, .slice none 0 0, .slice none 0 0, .slice none 0 0, .int .i64 0]
      have H0 : Hid (RD W (B + 1) rr mm T ∧ Blk W z 27 #[Value.slice none 0 0, .slice none 0 0, .slice none 0 0, .slice none 0 0, .slice none 0 0, .int .i64 0] ∧ Blk W (z + 1) 34 #[Value.int .i64 0, .int .i64 0] ∧ Below z w W) := ⟨hR, hZ, hF, hb⟩
      clear hx hne a1 a2 a3 a4 a5 hR hF hP hb
      gi_wp2_with fail
      refine ⟨trivial, (CallsIn.inRound lp (callsIn_wide.2 hhs)).mono ?_⟩
      clear hhs
      rintro e w1 ⟨rfl, rfl⟩
      gi_wp2_with (first | (refine wpListIn_store_row rfl 27 _ _ rfl z #[Value.slice none 0 0, .slice none 0 0, .slice none 0 0, .slice none 0 0, .slice none 0 0, .int .i64 0] rfl rfl 27 _ hZ (by kernel_rfl) rfl (by kernel_rfl) ?_) | (refine wpListIn_store_row rfl 34 _ _ rfl (z + 1) #[Value.int .i64 3, .int .i64 (n : Int)] rfl rfl 34 _ hF8 (by kernel_rfl) rfl (by kernel_rfl) ?_))
      obtain ⟨hR, hZ', hF, hb⟩ := H0.out
      have hzl := hZ'.lt
      refine ⟨fun k o h1 h2 h3 => ?_, ?_, ?_, 3, n, T, HA2.out.symm, by decide, (hZ'.setRow #[Value.slice none 0 0, .slice none 0 0, .slice none 0 0, .slice none 0 0, .slice none 0 0, .int .i64 0]).setRow_far (by omega) _, hF8.setRow _, below_setRow (below_setRow hb (Nat.le_refl _) _) (by omega) _⟩
      · exact (setRow_block _ _ _ k (by omega)).trans ((setRow_block _ _ _ k (by omega)).trans h1)
      · exact (setRow_block _ _ _ B (by omega)).trans (setRow_block _ _ _ B (by omega))
      · exact (setRow_block _ _ _ 0 (by omega)).trans (setRow_block _ _ _ 0 (by omega))
  case done =>
    intro D i W hD hf hI hK
    obtain ⟨n, r⟩ := i
    have hf : r = [] := hf
    subst hf
    obtain ⟨T, a1, a2, a3, a4, a5, hR, hZ, hF, hP, hb⟩ := hI
    have a2 : parG T (n - 1) [] [] = parG T0 0 [] l := a2
    have a5 : n ≤ 200001 := a5
    rw [parG] at a2
    have EV : Hid (parV l = parW T) := by
      unfold Hid parV
      rw [if_neg (by omega), ← a2]
      rfl
    have hwh := whole_calls (B + 1) rr mm T W hR (a3.le (show n - 1 ≤ 200001 by omega)) a4
    have c0 : W.cell? ⟨pc, 0, none⟩ = some (.pointer (some ⟨rr, 0, none⟩)) := hP.cell 0
    have hZl := hZ.lt
    have H0 : Hid (Blk W z 27 #[Value.slice none 0 0, .slice none 0 0, .slice none 0 0, .slice none 0 0, .slice none 0 0, .int .i64 0] ∧ Blk W (z + 1) 34 #[Value.int .i64 0, .int .i64 0] ∧ Below z w W) := ⟨hZ, hF, hb⟩
    clear a1 a2 a3 a4 a5 hR hZ hF hP hb
    gi_wp2_with fail
    refine ⟨trivial, (callsIn_wide.2 hwh).mono ?_⟩
    clear hwh c0
    rintro e wv ⟨hb2, hP2⟩
    obtain ⟨hZ, hF, hb⟩ := H0.out
    have hZ2 := hZ.below hb2 hZ.lt
    have hF20 := hF.below hb2 hF.lt
    have hbv : Below z w wv := hb.trans (hb2.mono (by omega))
    have hKv : wv.heap[D]? = some (.deferred (some [])) := (hb2.block D (Array.getElem?_eq_some_iff.1 hK).1).trans hK
    have HB2 := hide hbv
    clear hZ hF hb hb2 hbv H0
    cases hpw : parW T with
    | inl f =>
      rw [hpw] at hP2
      obtain rfl : e = .returned (.tuple #[.agg #[Value.slice none 0 0, .slice none 0 0, .slice none 0 0, .slice none 0 0, .slice none 0 0, .int .i64 0], .agg #[.int .i64 (f.1 : Int), .int .i64 (f.2 : Int)]]) := hP2
      have hF2 := hF20.setRow_far (g' := z) (by omega) #[Value.slice none 0 0, .slice none 0 0, .slice none 0 0, .slice none 0 0, .slice none 0 0, .int .i64 0]
      have EW := hide (EV.out.trans hpw)
      have hZ3 : Hid (Blk ((wv.setRow z #[Value.slice none 0 0, .slice none 0 0, .slice none 0 0, .slice none 0 0, .slice none 0 0, .int .i64 0]).setRow (z + 1) #[.int .i64 (f.1 : Int), .int .i64 (f.2 : Int)]) z 27 #[Value.slice none 0 0, .slice none 0 0, .slice none 0 0, .slice none 0 0, .slice none 0 0, .int .i64 0]) := (hZ2.setRow #[Value.slice none 0 0, .slice none 0 0, .slice none 0 0, .slice none 0 0, .slice none 0 0, .int .i64 0]).setRow_far (by omega) _
      have hF3 : Hid (Blk ((wv.setRow z #[Value.slice none 0 0, .slice none 0 0, .slice none 0 0, .slice none 0 0, .slice none 0 0, .int .i64 0]).setRow (z + 1) #[.int .i64 (f.1 : Int), .int .i64 (f.2 : Int)]) (z + 1) 34 #[.int .i64 (f.1 : Int), .int .i64 (f.2 : Int)]) := hF2.setRow _
      have hK3 : ((wv.setRow z #[Value.slice none 0 0, .slice none 0 0, .slice none 0 0, .slice none 0 0, .slice none 0 0, .int .i64 0]).setRow (z + 1) #[.int .i64 (f.1 : Int), .int .i64 (f.2 : Int)]).heap[D]? = some (.deferred (some [])) := (setRow_block _ _ _ D (by omega)).trans ((setRow_block _ _ _ D (by omega)).trans hKv)
      have hb3 : Hid (Below z w ((wv.setRow z #[Value.slice none 0 0, .slice none 0 0, .slice none 0 0, .slice none 0 0, .slice none 0 0, .int .i64 0]).setRow (z + 1) #[.int .i64 (f.1 : Int), .int .i64 (f.2 : Int)])) := below_setRow (below_setRow HB2.out (Nat.le_refl _) _) (by omega) _
      have hs3 : Hid (z ≤ ((wv.setRow z #[Value.slice none 0 0, .slice none 0 0, .slice none 0 0, .slice none 0 0, .slice none 0 0, .int .i64 0]).setRow (z + 1) #[.int .i64 (f.1 : Int), .int .i64 (f.2 : Int)]).heap.size) := by
        have := hZ2.lt
        unfold Hid
        rw [setRow_size, setRow_size]
        omega
      clear hpw
      gi_wp2_with (first | (refine wpListIn_store_row rfl 27 _ _ rfl z #[Value.slice none 0 0, .slice none 0 0, .slice none 0 0, .slice none 0 0, .slice none 0 0, .int .i64 0] rfl rfl 27 _ hZ2 (by kernel_rfl) rfl (by kernel_rfl) ?_) | (refine wpListIn_store_row rfl 34 _ _ rfl (z + 1) #[.int .i64 (f.1 : Int), .int .i64 (f.2 : Int)] rfl rfl 34 _ hF2 (by kernel_rfl) rfl (by kernel_rfl) ?_))
      refine ⟨by simp, .inl ⟨_, _, rfl, run_takeDeferred hK3, ?_⟩⟩
      refine ⟨_, results_cc rfl rfl ((World.putObj_heap_other (by omega)).trans hZ3.out) Tryd.underlying27 rfl (by kernel_rfl) rfl ((World.putObj_heap_other (by omega)).trans hF3.out) Tryd.underlying34 rfl (by kernel_rfl), ?_, ?_⟩
      · rw [hz]
        exact below_putObj hb3.out hs3.out D (by omega) _
      · rw [EW.out]
        rfl
    | inr q =>
      obtain ⟨p, b, T'⟩ := q
      rw [hpw] at hP2
      have hP2 : ParOk p b T' e wv := hP2
      have HPO := hide hP2
      obtain ⟨o, c, o0, c0, o1, c1, o2, c2, oe, ce, rfl, _⟩ := hP2
      have hF2 := hF20.setRow_far (g' := z) (by omega) #[.slice o (p * 8192) c, .slice o0 T'.f0.length c0, .slice o1 T'.f1.length c1, .slice o2 T'.f2.length c2, .slice oe T'.ed.length ce, .int .i64 (b : Int)]
      have EW := hide (EV.out.trans hpw)
      have hZ3 : Hid (Blk ((wv.setRow z #[.slice o (p * 8192) c, .slice o0 T'.f0.length c0, .slice o1 T'.f1.length c1, .slice o2 T'.f2.length c2, .slice oe T'.ed.length ce, .int .i64 (b : Int)]).setRow (z + 1) #[Value.int .i64 0, .int .i64 0]) z 27 #[.slice o (p * 8192) c, .slice o0 T'.f0.length c0, .slice o1 T'.f1.length c1, .slice o2 T'.f2.length c2, .slice oe T'.ed.length ce, .int .i64 (b : Int)]) := (hZ2.setRow #[.slice o (p * 8192) c, .slice o0 T'.f0.length c0, .slice o1 T'.f1.length c1, .slice o2 T'.f2.length c2, .slice oe T'.ed.length ce, .int .i64 (b : Int)]).setRow_far (by omega) _
      have hF3 : Hid (Blk ((wv.setRow z #[.slice o (p * 8192) c, .slice o0 T'.f0.length c0, .slice o1 T'.f1.length c1, .slice o2 T'.f2.length c2, .slice oe T'.ed.length ce, .int .i64 (b : Int)]).setRow (z + 1) #[Value.int .i64 0, .int .i64 0]) (z + 1) 34 #[Value.int .i64 0, .int .i64 0]) := hF2.setRow _
      have hK3 : ((wv.setRow z #[.slice o (p * 8192) c, .slice o0 T'.f0.length c0, .slice o1 T'.f1.length c1, .slice o2 T'.f2.length c2, .slice oe T'.ed.length ce, .int .i64 (b : Int)]).setRow (z + 1) #[Value.int .i64 0, .int .i64 0]).heap[D]? = some (.deferred (some [])) := (setRow_block _ _ _ D (by omega)).trans ((setRow_block _ _ _ D (by omega)).trans hKv)
      have hb3 : Hid (Below z w ((wv.setRow z #[.slice o (p * 8192) c, .slice o0 T'.f0.length c0, .slice o1 T'.f1.length c1, .slice o2 T'.f2.length c2, .slice oe T'.ed.length ce, .int .i64 (b : Int)]).setRow (z + 1) #[Value.int .i64 0, .int .i64 0])) := below_setRow (below_setRow HB2.out (Nat.le_refl _) _) (by omega) _
      have hs3 : Hid (wv.heap.size ≤ ((wv.setRow z #[.slice o (p * 8192) c, .slice o0 T'.f0.length c0, .slice o1 T'.f1.length c1, .slice o2 T'.f2.length c2, .slice oe T'.ed.length ce, .int .i64 (b : Int)]).setRow (z + 1) #[Value.int .i64 0, .int .i64 0]).heap.size) := by
        unfold Hid
        rw [setRow_size, setRow_size]
        exact Nat.le_refl _
      have hu : Hid (∀ g, hasU8 wv g → (((wv.setRow z #[.slice o (p * 8192) c, .slice o0 T'.f0.length c0, .slice o1 T'.f1.length c1, .slice o2 T'.f2.length c2, .slice oe T'.ed.length ce, .int .i64 (b : Int)]).setRow (z + 1) #[Value.int .i64 0, .int .i64 0]).putObj D (.deferred none)).heap[g]? = wv.heap[g]?) := fun g hg => by
        have n1 : g ≠ z := fun e => not_u8 hZ2 (by simp) (e ▸ hg)
        have n2 : g ≠ z + 1 := fun e => not_u8 hF20 (by simp) (e ▸ hg)
        have n3 : g ≠ D := fun e => not_u8_obj hKv rfl (e ▸ hg)
        exact (World.putObj_heap_other n3).trans ((setRow_block _ _ _ g n2).trans (setRow_block _ _ _ g n1))
      have hzl := hZ2.lt
      clear hpw
      gi_wp2_with (first | (refine wpListIn_store_row rfl 27 _ _ rfl z #[.slice o (p * 8192) c, .slice o0 T'.f0.length c0, .slice o1 T'.f1.length c1, .slice o2 T'.f2.length c2, .slice oe T'.ed.length ce, .int .i64 (b : Int)] rfl rfl 27 _ hZ2 (by kernel_rfl) rfl (by kernel_rfl) ?_) | (refine wpListIn_store_row rfl 34 _ _ rfl (z + 1) #[Value.int .i64 0, .int .i64 0] rfl rfl 34 _ hF2 (by kernel_rfl) rfl (by kernel_rfl) ?_))
      refine ⟨by simp, .inl ⟨_, _, rfl, run_takeDeferred hK3, ?_⟩⟩
      refine ⟨_, results_cc rfl rfl ((World.putObj_heap_other (by omega)).trans hZ3.out) Tryd.underlying27 rfl (by kernel_rfl) rfl ((World.putObj_heap_other (by omega)).trans hF3.out) Tryd.underlying34 rfl (by kernel_rfl), ?_, ?_⟩
      · rw [hz]
        exact below_putObj hb3.out (by have := hs3.out; omega) D (by omega) _
      · rw [EW.out]
        have hfin := ParOk.gen HPO.out (W' := ((wv.setRow z #[.slice o (p * 8192) c, .slice o0 T'.f0.length c0, .slice o1 T'.f1.length c1, .slice o2 T'.f2.length c2, .slice oe T'.ed.length ce, .int .i64 (b : Int)]).setRow (z + 1) #[Value.int .i64 0, .int .i64 0]).putObj D (.deferred none)) (Nat.le_trans hs3.out (grownBy_putObj' _ D _).size) hu.out
        exact hfin
  case stop =>
    intro D W hD hX hK
    obtain ⟨er, n, T, a1, a2, hZ, hF, hb⟩ := hX
    have hZl := hZ.lt
    gi_wp2_with fail
    refine ⟨by simp, .inl ⟨_, _, rfl, run_takeDeferred hK, ?_⟩⟩
    have hZ' : Blk (W.putObj D (.deferred none)) z 27 #[Value.slice none 0 0, .slice none 0 0, .slice none 0 0, .slice none 0 0, .slice none 0 0, .int .i64 0] := (World.putObj_heap_other (by omega)).trans hZ
    have hF' : Blk (W.putObj D (.deferred none)) (z + 1) 34 #[.int .i64 (er : Int), .int .i64 (n : Int)] := (World.putObj_heap_other (by omega)).trans hF
    refine ⟨_, results_cc rfl rfl hZ' Tryd.underlying27 rfl (by kernel_rfl) rfl hF' Tryd.underlying34 rfl (by kernel_rfl), ?_, ?_⟩
    · rw [hz]
      exact below_putObj hb (by omega) D (by omega) _
    · have EV : parV l = .inl (er, n) := by
        unfold parV
        rw [if_neg (by omega), a1, if_neg a2]
      rw [EV]
      rfl
end Go.Proofs.YtdhdknjefjolpaaDoor
end
section
/-
  script.Parse, any text.
-/
namespace Go.Proofs.YtdhdknjefjolpaaDoor
set_option linter.unusedSimpArgs false
set_option linter.unusedVariables false
set_option maxRecDepth 10000
open Go.RowKit Go.Shelf Pl
set_option maxRecDepth 100000 in
set_option maxHeartbeats 16000000 in
theorem parse_big (l : List UInt8) (w : World) (hl : 200000 < l.length) (_hm : l.length ≤ maxLen) :
    Calls Tryd.prog 12 #[.string ⟨l.toArray⟩] w fun e w' => Below w.heap.size w w' ∧ ParErr (2, 0) e := by
  have hZ : Blk ((w.alloc (.cells #[Value.slice none 0 0, .slice none 0 0, .slice none 0 0, .slice none 0 0, .slice none 0 0, .int .i64 0] 27)).alloc (.cells #[Value.int .i64 0, .int .i64 0] 34)) w.heap.size 27 #[Value.slice none 0 0, .slice none 0 0, .slice none 0 0, .slice none 0 0, .slice none 0 0, .int .i64 0] := (Blk.new w _ _).alloc _
  have hF : Blk ((w.alloc (.cells #[Value.slice none 0 0, .slice none 0 0, .slice none 0 0, .slice none 0 0, .slice none 0 0, .int .i64 0] 27)).alloc (.cells #[Value.int .i64 0, .int .i64 0] 34)) (w.heap.size + 1) 34 #[Value.int .i64 0, .int .i64 0] := Blk.newAt (by simp)
  have hb2 : Below w.heap.size w ((w.alloc (.cells #[Value.slice none 0 0, .slice none 0 0, .slice none 0 0, .slice none 0 0, .slice none 0 0, .int .i64 0] 27)).alloc (.cells #[Value.int .i64 0, .int .i64 0] 34)) := Bl.alloc (Bl.alloc (Below.refl _ _) _) _
  have hSl : (⟨l.toArray⟩ : ByteArray).data.toList = l := rfl
  have hSn := ba_len ⟨l.toArray⟩
  rw [hSl] at hSn
  generalize (⟨l.toArray⟩ : ByteArray) = S at *
  obtain ⟨n, hn⟩ : ∃ n, l.length = n := ⟨_, rfl⟩
  rw [hn] at hl hSn
  have hSn2 : S.size = n := hSn.symm
  clear hSn
  have k1 : (200000 : Int) < (n : Int) := by omega
  have hF8 := hF.setRow_far (g' := w.heap.size) (by omega) #[Value.slice none 0 0, .slice none 0 0, .slice none 0 0, .slice none 0 0, .slice none 0 0, .int .i64 0]
  have HB := hide hb2
  have HZ := hide hZ
  clear hb2
  go_enter Tryd.func12, Tryd.ntmps12
  go_wp2_with (first | (refine wpList_store_row rfl 27 _ _ rfl w.heap.size #[Value.slice none 0 0, .slice none 0 0, .slice none 0 0, .slice none 0 0, .slice none 0 0, .int .i64 0] rfl rfl 27 _ hZ (by kernel_rfl) rfl (by kernel_rfl) ?_) | (refine wpList_store_row rfl 34 _ _ rfl (w.heap.size + 1) #[Value.int .i64 2, .int .i64 0] rfl rfl 34 _ hF8 (by kernel_rfl) rfl (by kernel_rfl) ?_))
  refine bodyPost_ret (results_cc rfl rfl ((hZ.setRow #[Value.slice none 0 0, .slice none 0 0, .slice none 0 0, .slice none 0 0, .slice none 0 0, .int .i64 0]).setRow_far (by omega) _) Tryd.underlying27 rfl (by kernel_rfl) rfl (hF8.setRow _) Tryd.underlying34 rfl (by kernel_rfl)) rfl ?_
  exact ⟨below_setRow (below_setRow HB.out (Nat.le_refl _) _) (by omega) _, rfl⟩
/-- A text, as a script: the program's. -/
theorem pParse_calls (l : List UInt8) (M : Int) (w : World) (hm : l.length ≤ maxLen) (hM : w.cell? ⟨0, 0, none⟩ = some (.int .i64 M)) :
    Calls Tryd.prog 12 #[.string ⟨l.toArray⟩] w fun e w' => Below w.heap.size w w' ∧ ParOut (parV l) e w' := by
  by_cases hl : 200000 < l.length
  · refine (parse_big l w hl hm).mono ?_
    rintro e w' ⟨h1, h2⟩
    refine ⟨h1, ?_⟩
    unfold parV
    rw [if_pos hl]
    exact h2
  · exact parse_calls l M w (by omega) hM
end Go.Proofs.YtdhdknjefjolpaaDoor
end
