/-
  The texts Rtx, Sc30, Sc31 of the proofs about scripts, as one file (they are merged by a program).
-/
import Derived.RangeFuncNested
import Derived.RangeFuncBound
import Derived.RangeFuncCalls
import Derived.RangeFuncLeaves
import Derived.Shelf.Abstract
import Derived.Shelf.RegionOpen
import Derived.WalkKit
import Derived.OwnWalkIn
import Derived.TacticsInMore
import Derived.LoopNIn
import Derived.LoopIn
import Derived.Test.YtdhdknjefjolpaaDoorA1
import Derived.Test.YtdhdknjefjolpaaDoorA11
section
/-
  A range over a function whose iterator keeps a state of its own in one cell; a body that goes on or returns.
-/
namespace Go.Proofs.YtdhdknjefjolpaaDoor
set_option linter.unusedSimpArgs false
set_option linter.unusedVariables false
set_option maxRecDepth 10000
open Go.RowKit Go.Shelf
section
variable {P : Program} {ι : Type}
/-- How a round's body may be left. -/
def rtPost (H B G : Nat) (I : ι → World → Prop) (Ix : World → Prop) (Nx : ι → Prop) (W : World) : Exit → Act → World → Prop
  | .normal, _, W' => (∀ k o, W.heap[k]? = some o → o.isCells = false → H ≤ k → W'.heap[k]? = some o) ∧ W'.heap[B]? = W.heap[B]? ∧ W'.heap[G]? = W.heap[G]? ∧ ∃ i, Nx i ∧ I i W'
  | .ret, _, W' => (∀ k o, W.heap[k]? = some o → o.isCells = false → H ≤ k → W'.heap[k]? = some o) ∧ W'.heap[B]? = W.heap[B]? ∧ W'.heap[G]? = W.heap[G]? ∧ Ix W'
  | _, _, _ => False
/-- An iterator, from state i0 on: what it hands out (Rnd), what state follows (Nxt), where it ends (Fin). -/
def ItB (m : Nat) (P : Program) (gf : Nat) (lb : Array Value) (B G : Nat) (Rnd : ι → Array Value → Prop) (Nxt : ι → Array Value → ι → Prop) (Fin : ι → Prop) (i0 : ι) (w : World) : Prop :=
  ∀ (lp : Nat) (J : ι → World → Prop) (Jx : World → Prop) (W : World), Below w.heap.size w W →
    (∀ i W W', J i W → Only (fun k => k = B) W W' → J i W') → (∀ W W', Jx W → Only (fun k => k = B) W W' → Jx W') →
    (∀ i args W1, J i W1 → Rnd i args → YieldAt Fence.wide (m - 1) P lp args W1 fun e W' => W'.heap[B]? = W1.heap[B]? ∧ W'.heap[G]? = W1.heap[G]? ∧ ((e = .returned (.bool true) ∧ ∃ i', Nxt i args i' ∧ J i' W') ∨ (e = .returned (.bool false) ∧ Jx W'))) →
    J i0 W → CallsIn Fence.wide m P gf (#[.func (.yield lp) #[] #[]] ++ lb) W fun e W' => (∃ v, e = .returned v) ∧ ((∃ i, Fin i ∧ J i W') ∨ Jx W')
theorem rangeText {gop : Operand} {ps : Array Tmp} {assign body : Code} {Q : Exit → Act → World → Prop} {a : Act} {w w0 : World} {n : Nat} (h1 : 1 ≤ n) {gf : Nat} {lb : Array Value}
    (hg : a.eval gop = .func (.func gf) #[] lb) (eg : ∀ args w, (callFunc gf args).run P w = .ok (.enter gf args) w)
    {B G : Nat} {Rnd : ι → Array Value → Prop} {Nxt : ι → Array Value → ι → Prop} {Fin : ι → Prop} {i0 : ι} (hit : ItB (n - 1) P gf lb B G Rnd Nxt Fin i0 w0) (hb0 : Below w0.heap.size w0 w) (hB : B < w.heap.size) (hG : G < w.heap.size)
    (hps : ∀ i args, Rnd i args → args.size = ps.size)
    (I : ι → World → Prop) (Ix : World → Prop)
    (hIs : ∀ i W W', I i W → Only (fun k => k = B) W W' → I i W') (hIxs : ∀ W W', Ix W → Only (fun k => k = B) W W' → Ix W')
    (hIp : ∀ i W k o o', I i W → w.heap.size ≤ k → W.heap[k]? = some o → o.isCells = false → I i (W.putObj k o')) (hIxp : ∀ W k o o', Ix W → w.heap.size ≤ k → W.heap[k]? = some o → o.isCells = false → Ix (W.putObj k o'))
    (h0 : ∀ o o', I i0 ((w.alloc o).alloc o'))
    (a₁ : Array Value → Act)
    (hassign : ∀ (l : Nat) (i : ι) (args : Array Value) (W : World) (K : Act → World → Prop), Rnd i args → K (a₁ args) W →
      assign.wpIn (Fence.wide.inRound l) (n - 1 - 1) P (Exit.then K (fun _ _ _ => False)) { tmps := (ps.zip args).foldl (fun t (p, v) => t.setIfInBounds p v) a.tmps, defers := [] } W)
    (hbody : ∀ (l : Nat) (i : ι) (args : Array Value) (W : World), Rnd i args → I i W → body.wpIn (Fence.wide.inRound l) (n - 1 - 1) P (rtPost w.heap.size B G I Ix (Nxt i args) W) (a₁ args) W)
    (hdone : ∀ (D : Nat) (i : ι) (W : World), w.heap.size ≤ D → Fin i → I i W → W.heap[D]? = some (.deferred (some [])) → Q .normal { a with defers := { target := .collected D, args := #[] } :: a.defers } W)
    (hstop : ∀ (D : Nat) (W : World), w.heap.size ≤ D → Ix W → W.heap[D]? = some (.deferred (some [])) → Code.ret.wpIn Fence.wide n P Q { a with defers := { target := .collected D, args := #[] } :: a.defers } W) :
    (Code.rangeFunc gop ps assign body).wpIn Fence.wide n P Q a w := by
  refine wpIn_rangeFunc ?_
  intro fn hfn
  obtain ⟨rc, hrc⟩ : ∃ rc : LoopState → Option Code → Loop, rc = fun st pe => { state := st, pending := pe, fn, tmps := a.tmps, params := ps, assign, body, defers := w.heap.size } := ⟨_, rfl⟩
  obtain ⟨V, hV⟩ : ∃ V, (w.alloc (.deferred (some []))).alloc (.loop (rc .ready none)) = V := ⟨_, rfl⟩
  have hL : V.heap[w.heap.size + 1]? = some (.loop (rc .ready none)) := by
    rw [← hV]
    have h := World.alloc_heap_new (w.alloc (.deferred (some []))) (.loop (rc .ready none))
    rwa [World.size_alloc] at h
  have hD : V.heap[w.heap.size]? = some (.deferred (some [])) := by
    rw [← hV]
    exact (Below.heap_alloc _ _ _ (by simp)).trans (World.alloc_heap_new w _)
  have hbV : Below w0.heap.size w0 V := by
    rw [← hV]
    exact hb0.trans ((((Below.refl _ w).alloc (Nat.le_refl _) _).alloc (by simp) _).mono hb0.size)
  -- the two records lie as they lay behind a step of the iterator
  have stp : ∀ {W W' : World} {k : Nat} {o : Obj}, Only (fun k => k = B) W W' → w.heap.size ≤ k → W.heap[k]? = some o → W'.heap[k]? = some o := fun ho hk h => (ho.block _ (Array.getElem?_eq_some_iff.1 h).1 (by omega)).trans h
  refine ⟨w.heap.size + 1, [{ target := .collected w.heap.size, args := #[] }], V, { target := .fn (.func gf) lb, args := #[.func (.yield (w.heap.size + 1)) #[] #[]] }, V, gf,
    #[.func (.yield (w.heap.size + 1)) #[] #[]] ++ lb, V, ?_, ?_, ?_, ?_, fun h => absurd h (by decide), ?_⟩
  · rw [← hV, hrc]
    exact run_enterLoop_outer _ _ _ _ _
  · simp only [resolve, hg]
    simp [go_sem]
  · intro _ _
    trivial
  · simp [invoke, go_sem, eg]
  refine (hit (w.heap.size + 1)
    (fun i W => I i W ∧ W.heap[w.heap.size + 1]? = some (.loop (rc .ready none)) ∧ W.heap[w.heap.size]? = some (.deferred (some [])))
    (fun W => Ix W ∧ W.heap[w.heap.size + 1]? = some (.loop (rc .done (some .ret))) ∧ W.heap[w.heap.size]? = some (.deferred (some [])))
    V hbV (fun i W W' h ho => ⟨hIs i W W' h.1 ho, stp ho (by omega) h.2.1, stp ho (Nat.le_refl _) h.2.2⟩) (fun W W' h ho => ⟨hIxs W W' h.1 ho, stp ho (by omega) h.2.1, stp ho (Nat.le_refl _) h.2.2⟩) ?_ ?_).mono ?_
  · -- a round
    rintro i args W ⟨hi, hl, hd⟩ hr
    have hy := run_yield (P := P) (args := args) hl (by rw [hrc]; exact hps i args hr)
    rw [hrc] at hy
    refine ⟨fn, _, assign, body, hy, roundIn_of_wpIn hfn (hassign _ i args W _ hr ?_)⟩
    refine ⟨_, run_beginRound hl (by rw [hrc]), ?_⟩
    have hlt : w.heap.size + 1 < W.heap.size := (Array.getElem?_eq_some_iff.1 hl).1
    have hl2 : (W.putObj (w.heap.size + 1) (.loop { rc .ready none with state := .busy })).heap[w.heap.size + 1]? = some (.loop { rc .ready none with state := .busy }) := World.putObj_heap_same hlt
    have hd2 : (W.putObj (w.heap.size + 1) (.loop { rc .ready none with state := .busy })).heap[w.heap.size]? = some (.deferred (some [])) := (World.putObj_heap_other (by omega)).trans hd
    have hB2 : (W.putObj (w.heap.size + 1) (.loop { rc .ready none with state := .busy })).heap[B]? = W.heap[B]? := World.putObj_heap_other (by omega)
    have hG2 : (W.putObj (w.heap.size + 1) (.loop { rc .ready none with state := .busy })).heap[G]? = W.heap[G]? := World.putObj_heap_other (by omega)
    refine wpIn_mono (hbody _ i args _ hr (hIp i W _ _ _ hi (by omega) hl rfl)) ?_
    have fin : ∀ (j : Option Code) (W3 : World), (∀ k o, (W.putObj (w.heap.size + 1) (.loop { rc .ready none with state := .busy })).heap[k]? = some o → o.isCells = false → w.heap.size ≤ k → W3.heap[k]? = some o) →
        (Instr.endRound (w.heap.size + 1) j).run P W3 = .ok (.bool j.isNone) (W3.putObj (w.heap.size + 1) (.loop (rc (if j.isNone then .ready else .done) j))) ∧
        W3.heap[w.heap.size + 1]? = some (.loop { rc .ready none with state := .busy }) ∧
        (W3.putObj (w.heap.size + 1) (.loop (rc (if j.isNone then .ready else .done) j))).heap[w.heap.size + 1]? = some (.loop (rc (if j.isNone then .ready else .done) j)) ∧
        (W3.putObj (w.heap.size + 1) (.loop (rc (if j.isNone then .ready else .done) j))).heap[w.heap.size]? = some (.deferred (some [])) := fun j W3 hk => by
      have h3 := hk _ _ hl2 rfl (by omega)
      have h4 := run_endRound (P := P) j h3
      rw [hrc] at h4 ⊢
      rw [hrc] at h3
      refine ⟨h4, h3, World.putObj_heap_same (Array.getElem?_eq_some_iff.1 h3).1, (World.putObj_heap_other (by omega)).trans ?_⟩
      exact hk _ _ hd2 rfl (Nat.le_refl _)
    rintro e a3 W3 hp
    cases e with
    | normal =>
      obtain ⟨hk, hb, hgb, i', hn, hi'⟩ := hp
      obtain ⟨r1, r2, r3, r4⟩ := fin none W3 hk
      exact ⟨_, _, r1, (World.putObj_heap_other (by omega)).trans (hb.trans hB2), (World.putObj_heap_other (by omega)).trans (hgb.trans hG2), .inl ⟨rfl, i', hn, hIp i' W3 _ _ _ hi' (by omega) r2 rfl, r3, r4⟩⟩
    | ret =>
      obtain ⟨hk, hb, hgb, hx⟩ := hp
      obtain ⟨r1, r2, r3, r4⟩ := fin (some .ret) W3 hk
      exact ⟨_, _, r1, (World.putObj_heap_other (by omega)).trans (hb.trans hB2), (World.putObj_heap_other (by omega)).trans (hgb.trans hG2), .inr ⟨rfl, hIxp W3 _ _ _ hx (by omega) r2 rfl, r3, r4⟩⟩
    | exit id => exact hp.elim
    | goto t => exact hp.elim
    | panic ch => exact hp.elim
    | outgrown => exact hp.elim
  · refine ⟨?_, hL, hD⟩
    rw [← hV]
    exact h0 _ _
  · rintro e W2 ⟨⟨v, rfl⟩, (⟨i, hf, hi, hl, hd⟩ | ⟨hx, hl, hd⟩)⟩
    · exact ⟨none, _, by have h := run_endLoop (P := P) hl (by rw [hrc]; simp); rw [hrc] at h; exact h, hdone _ i _ (Nat.le_refl _) hf (hIp i W2 _ _ _ hi (by omega) hl rfl) ((World.putObj_heap_other (by omega)).trans hd)⟩
    · exact ⟨some .ret, _, by have h := run_endLoop (P := P) hl (by rw [hrc]; simp); rw [hrc] at h; exact h, hstop _ _ (Nat.le_refl _) (hIxp W2 _ _ _ hx (by omega) hl rfl) ((World.putObj_heap_other (by omega)).trans hd)⟩
end
end Go.Proofs.YtdhdknjefjolpaaDoor
end
section
/-
  script.each: its closure as an iterator.
-/
namespace Go.Proofs.YtdhdknjefjolpaaDoor
set_option linter.unusedSimpArgs false
set_option linter.unusedVariables false
set_option maxRecDepth 10000
open Go.RowKit Go.Shelf Pl
attribute [local go_sem] Oper.semAt_some
theorem cut_calls (r : List UInt8) (M : Int) (w : World) (hs : r.length ≤ 200000) (hM : w.cell? ⟨0, 0, none⟩ = some (.int .i64 M)) :
    Calls Tryd.prog 56 #[.string ⟨r.toArray⟩, .string ⟨#[10]⟩] w fun e w' => e = .returned (.tuple #[.string ⟨(Lib.cut r [10]).1.toArray⟩, .string ⟨(Lib.cut r [10]).2.1.toArray⟩, .bool (Lib.cut r [10]).2.2]) ∧ Below w.heap.size w w' := by
  refine (Tryd.strings_Cut ⟨r.toArray⟩ ⟨#[10]⟩ M w (by rw [strS]; omega) hM).mono ?_
  rintro e w' ⟨rfl, n, rfl⟩
  exact ⟨rfl, below_drewN n (Below.refl _ _)⟩
theorem cut_hit (x t : List UInt8) (h : (10 : UInt8) ∉ x) : Lib.cut (x ++ 10 :: t) [10] = (x, t, true) := by
  have hd : (x ++ 10 :: t).drop (x.length + 1) = t := by
    rw [← List.drop_drop]
    simp
  unfold Lib.cut
  rw [index_hit1 x t 10 h]
  simp [hd]
theorem cut_miss (x : List UInt8) (h : (10 : UInt8) ∉ x) : Lib.cut x [10] = (x, [], false) := by
  unfold Lib.cut
  rw [index_miss1 x 10 h]
  simp
def lnR (i : Nat × List UInt8) (args : Array Value) : Prop := (∃ x t, i.2 = x ++ 10 :: t ∧ (10 : UInt8) ∉ x ∧ args = #[.int .i64 (i.1 : Int), .string ⟨x.toArray⟩]) ∨ (i.2 ≠ [] ∧ (10 : UInt8) ∉ i.2 ∧ args = #[.int .i64 (i.1 : Int), .string ⟨(i.2 ++ [10]).toArray⟩])
def lnN (i : Nat × List UInt8) (args : Array Value) (j : Nat × List UInt8) : Prop := ∃ x, i.2 = x ++ 10 :: j.2 ∧ (10 : UInt8) ∉ x ∧ j.1 = i.1 + 1 ∧ args = #[.int .i64 (i.1 : Int), .string ⟨x.toArray⟩]
def lnF (i : Nat × List UInt8) : Prop := i.2 = []
theorem each_calls (l : List UInt8) (w : World) : Calls Tryd.prog 31 #[.string ⟨l.toArray⟩] w fun e w' => e = .returned (.func (.func 55) #[] #[.pointer (some ⟨w.heap.size, 0, none⟩)]) ∧ w' = w.alloc (.cells #[.string ⟨l.toArray⟩] 9) := by
  go_enter Tryd.func31, Tryd.ntmps31
  go_wp2_with fail
  go_ret
  exact ⟨rfl, rfl⟩
def leftS (W : World) (B : Nat) : Nat := match W.cell? ⟨B, 0, none⟩ with | some (.string s) => s.size | _ => 0
theorem leftS_of {W : World} {B : Nat} {r : List UInt8} (h : Blk W B 9 #[.string ⟨r.toArray⟩]) : leftS W B = r.length := by
  have h0 : W.cell? ⟨B, 0, none⟩ = some (.string ⟨r.toArray⟩) := h.cell 0
  unfold leftS
  rw [h0]
  exact strS r
set_option maxHeartbeats 8000000 in
theorem each1_it (l : List UInt8) (B m : Nat) (M : Int) (w : World) (hl : l.length ≤ 200000) (hB : Blk w B 9 #[.string ⟨l.toArray⟩]) (hM : w.cell? ⟨0, 0, none⟩ = some (.int .i64 M)) (hBG : B ≠ 0) :
    ItB m Tryd.prog 55 #[.pointer (some ⟨B, 0, none⟩)] B 0 lnR lnN lnF (1, l) w := by
  intro lp J Jx W hbW hJ hJx hY h0
  have hB1 := hB.below hbW hB.lt
  have hM1 := (hbW.cell (cell_lt hM)).trans hM
  refine callsIn_of_wp Tryd.func55 rfl trivial ?_ rfl
  simp only [Tryd.ntmps55, List.size_toArray, List.length_cons, List.length_nil, Nat.reduceAdd, Nat.reduceSub, Array.replicate_succ, Array.replicate_zero, List.push_toArray, List.append_toArray, List.nil_append, List.cons_append]
  gi_wp2_with fail
  gi_loopw [3] (fun v3 wr => ∃ (n : Nat) (r : List UInt8), n ≤ 200001 - r.length ∧ r.length ≤ 200000 ∧ v3 = .int .i64 (n : Int) ∧ Blk wr B 9 #[.string ⟨r.toArray⟩] ∧ wr.cell? ⟨0, 0, none⟩ = some (.int .i64 M) ∧ Hid (J (n, r) wr)) (fun _ wr => leftS wr B)
  case atStart => exact ⟨1, l, by omega, hl, rfl, hB1, hM1, h0⟩
  case round =>
    obtain ⟨n, r, hn, hr, rfl, hBr, hMr, hJr⟩ := hrel
    have c0 : wr.cell? ⟨B, 0, none⟩ = some (.string ⟨r.toArray⟩) := hBr.cell 0
    have HB := hide hBr
    clear hBr
    by_cases hr0 : r = []
    · subst hr0
      gi_wp2_with fail
      go_end0
      exact ⟨⟨_, rfl⟩, .inl ⟨(n, []), rfl, hJr.out⟩⟩
    · have hb1 : (r != []) = true := by rw [bne_iff_ne]; exact hr0
      have hb2 : (r == []) = false := beq_eq_false_iff_ne.2 hr0
      have hcut := cut_calls r M wr hr hMr
      rcases cut_first 10 r with hx | ⟨x, t, hxt, hx⟩
      · rw [cut_miss r hx] at hcut
        gi_wp2_with fail
        refine ⟨trivial, fun h => absurd h (by decide), (callsIn_wide.2 hcut).mono ?_⟩
        clear hcut
        rintro e w2 ⟨rfl, hb⟩
        have hJ2 : J (n, r) w2 := hJ _ _ _ hJr.out (Only.of hb)
        have hB2 := HB.out.below hb HB.out.lt
        have hM2 := (hb.cell (cell_lt hMr)).trans hMr
        have hcat : (⟨r.toArray⟩ : ByteArray) ++ ⟨#[10]⟩ = ⟨(r ++ [10]).toArray⟩ := by
          apply ByteArray.ext
          rw [ByteArray.data_append]
          simp
        have hsz : (⟨r.toArray⟩ : ByteArray).size ≤ 200000 := by rw [strS]; exact hr
        have hy2 := hY (n, r) #[.int .i64 (n : Int), .string ⟨(r ++ [10]).toArray⟩] w2 hJ2 (Or.inr ⟨hr0, hx, rfl⟩)
        obtain ⟨fn, tmps, assign, body, hy, hR⟩ := hy2
        have HX := hide hx
        clear hY hJ hJx hx c0 hJ2 hBG
        gi_wp2_with fail
        refine ⟨fun h => absurd h (by decide), hR.mono ?_⟩
        rintro e w3 ⟨hBk, hGk, (⟨rfl, i', hN, hJ'⟩ | ⟨rfl, hJx'⟩)⟩
        · obtain ⟨y, hy, _⟩ := hN
          have hy : r = y ++ 10 :: i'.2 := hy
          exact absurd (by rw [hy]; simp) HX.out
        · gi_wp2_with fail
          refine bodyPost_ret (results_none rfl _ _ _) rfl ?_
          exact ⟨⟨_, rfl⟩, .inr hJx'⟩
      · have e0 := cut_hit x t hx
        rw [← hxt] at e0
        rw [e0] at hcut
        have HE := hide e0
        have HXT := hide hxt
        have HX := hide hx
        have hRr : lnR (n, r) #[.int .i64 (n : Int), .string ⟨x.toArray⟩] := Or.inl ⟨x, t, hxt, hx, rfl⟩
        have HRr := hide hRr
        clear e0 hxt hx hRr
        gi_wp2_with fail
        refine ⟨trivial, fun h => absurd h (by decide), (callsIn_wide.2 hcut).mono ?_⟩
        clear hcut
        rintro e w2 ⟨rfl, hb⟩
        have hJ2 : J (n, r) w2 := hJ _ _ _ hJr.out (Only.of hb)
        have hB2 := HB.out.below hb HB.out.lt
        have hM2 := (hb.cell (cell_lt hMr)).trans hMr
        have hy2 := hY (n, r) #[.int .i64 (n : Int), .string ⟨x.toArray⟩] w2 hJ2 HRr.out
        obtain ⟨fn, tmps, assign, body, hy, hR⟩ := hy2
        have HJ := hide hJ
        clear hJ hY hJx c0 hJ2
        gi_wp2_with fail
        refine ⟨fun h => absurd h (by decide), hR.mono ?_⟩
        rintro e w3 ⟨hBk, hGk, (⟨rfl, i', hN, hJ'⟩ | ⟨rfl, hJx'⟩)⟩
        · obtain ⟨y, hy, hy10, hi1, _⟩ := hN
          obtain ⟨n', t'⟩ := i'
          have hy : r = y ++ 10 :: t' := hy
          have e1 := cut_hit y t' hy10
          rw [← hy, HE.out] at e1
          injection e1 with e1 e2
          injection e2 with e2 _
          subst e2
          have hi1 : n' = n + 1 := hi1
          subst hi1
          have hB3 : Blk w3 B 9 #[.string ⟨r.toArray⟩] := hBk.trans hB2
          have hM3 : w3.cell? ⟨0, 0, none⟩ = some (.int .i64 M) := (World.cell?_of_block hGk).trans hM2
          have hk3 : w3.cell? ⟨B, 0, none⟩ = some (.string ⟨r.toArray⟩) := hB3.cell 0
          have hf3 := hB3.frozen 0
          have hO := Only.setCell (S := fun k => k = B) (Only.refl _ w3) ⟨B, 0, none⟩ rfl (.string ⟨t.toArray⟩)
          have hB4 : Hid (Blk (w3.setCell ⟨B, 0, none⟩ (.string ⟨t.toArray⟩)) B 9 #[.string ⟨t.toArray⟩]) := Blk.set_ hB3 0 _
          have hM4 : Hid ((w3.setCell ⟨B, 0, none⟩ (.string ⟨t.toArray⟩)).cell? ⟨0, 0, none⟩ = some (.int .i64 M)) := (World.cell?_of_block (hO.block 0 (cell_lt hM3) (fun e => hBG e.symm))).trans hM3
          have hJ4 : Hid (J (n + 1, t) (w3.setCell ⟨B, 0, none⟩ (.string ⟨t.toArray⟩))) := HJ.out _ _ _ hJ' hO
          have hl1 : r.length = x.length + (t.length + 1) := by rw [HXT.out, List.length_append, List.length_cons]
          have HL1 := hide hl1
          clear hO hB3 hM3 hy hy10 e1 hJ' hl1
          gi_wp2_with fail
          go_roundw
          case rel => exact ⟨n + 1, t, by have := HL1.out; omega, by have := HL1.out; omega, by go_num, hB4.out, hM4.out, hJ4.out⟩
          case measure =>
            rw [leftS_of hB4.out, leftS_of HB.out]
            have := HL1.out
            omega
        · gi_wp2_with fail
          refine bodyPost_ret (results_none rfl _ _ _) rfl ?_
          exact ⟨⟨_, rfl⟩, .inr hJx'⟩
end Go.Proofs.YtdhdknjefjolpaaDoor
end
section
/-
  script.reader: whole.
-/
namespace Go.Proofs.YtdhdknjefjolpaaDoor
set_option linter.unusedSimpArgs false
set_option linter.unusedVariables false
set_option maxRecDepth 10000
open Go.RowKit Go.Shelf Go.ChangeMaps Go.MapKept Pl
theorem mk_ok (m N : Nat) (a : Option Addr) (n c : Nat) (At : Nat → Int) (O : Nat → Option Addr) (Ln Cp : Nat → Nat) (By : Nat → Nat → Int) (w : World) (hm : 1 ≤ m ∧ m ≤ 128) (hN : m * 8192 = N) (hn : n ≤ maxLen) (hP : PieB w a n At O Ln Cp By w.heap.size) (hf : ∀ j, j < n → Fits N (At j) (Ln j)) :
    Calls Tryd.prog 62 #[.int .i64 (m : Int), .slice a n c] w fun e w' => ∃ g, e = .returned (.tuple #[.slice (some ⟨g, 0, none⟩) N N, .agg #[.int .i64 0, .int .i64 0]]) ∧ RW w' g N (mkF At Ln By n) ∧ w.heap.size ≤ g ∧ Below w.heap.size w w' := by
  refine (mk_walk m N a n c At O Ln Cp By w hm hN hn hP).mono ?_
  rintro e w' ⟨hb, (⟨i, hi, _, h, _⟩ | ⟨_, g, rfl, hR, hg⟩)⟩
  · exact absurd (hf i hi) h
  · exact ⟨g, rfl, hR, hg, hb⟩
theorem mk_no (m N : Nat) (a : Option Addr) (n c : Nat) (At : Nat → Int) (O : Nat → Option Addr) (Ln Cp : Nat → Nat) (By : Nat → Nat → Int) (w : World) (hm : 1 ≤ m ∧ m ≤ 128) (hN : m * 8192 = N) (hn : n ≤ maxLen) (hP : PieB w a n At O Ln Cp By w.heap.size) (hf : ¬ ∀ j, j < n → Fits N (At j) (Ln j)) :
    Calls Tryd.prog 62 #[.int .i64 (m : Int), .slice a n c] w fun e w' => ∃ i : Nat, e = .returned (.tuple #[.slice none 0 0, .agg #[.int .i64 1, .int .i64 (i : Int)]]) ∧ Below w.heap.size w w' := by
  refine (mk_walk m N a n c At O Ln Cp By w hm hN hn hP).mono ?_
  rintro e w' ⟨hb, (⟨i, hi, _, h, rfl⟩ | ⟨h, _⟩)⟩
  · exact ⟨i, rfl, hb⟩
  · exact absurd h hf
theorem met_look_pg {W : World} {m : Nat} {pg bd : Option Nat} (h : MetB W m pg bd) : ∃ v, (Instr.lookup 60 (.map (some m)) (.string ⟨#[112, 97, 103, 101, 115]⟩) true).run Tryd.prog W = .ok (.tuple #[v, .bool pg.isSome]) W ∧ ∀ p, pg = some p → v = .int .i64 (p : Int) := by
  obtain ⟨v, ps, hl, hv⟩ := World.ownsMap.look_ok h keyed_str Tryd.underlying60 (zeroI64 W) (elI_nat 0 (by decide)) key_pages
  rw [met_has_pg] at hl
  refine ⟨v, hl, fun p hp => ?_⟩
  subst hp
  rw [met_at_pg] at hv
  obtain ⟨a, rfl, ha, _⟩ := plainElem_int_inv Tryd.underlying2 hv
  injection ha with ha _
  injection ha with ha
  injection ha with _ ha
  rw [ha]
theorem met_look_bd {W : World} {m : Nat} {pg bd : Option Nat} (h : MetB W m pg bd) : ∃ v, (Instr.lookup 60 (.map (some m)) (.string ⟨#[98, 117, 100, 103, 101, 116]⟩) true).run Tryd.prog W = .ok (.tuple #[v, .bool bd.isSome]) W ∧ ∀ p, bd = some p → v = .int .i64 (p : Int) := by
  obtain ⟨v, ps, hl, hv⟩ := World.ownsMap.look_ok h keyed_str Tryd.underlying60 (zeroI64 W) (elI_nat 0 (by decide)) key_budget
  rw [met_has_bd] at hl
  refine ⟨v, hl, fun p hp => ?_⟩
  subst hp
  rw [met_at_bd] at hv
  obtain ⟨a, rfl, ha, _⟩ := plainElem_int_inv Tryd.underlying2 hv
  injection ha with ha _
  injection ha with ha
  injection ha with _ ha
  rw [ha]
set_option maxRecDepth 100000 in
set_option maxHeartbeats 16000000 in
theorem whole_calls (base r m : Nat) (T : Tl) (w : World) (hT : RD w base r m T) (hbn : T.bnd 200001) (hpg : pgOk T) :
    Calls Tryd.prog 34 #[.pointer (some ⟨r, 0, none⟩)] w fun e w' => Below w.heap.size w w' ∧ ParOut (parW T) e w' := by
  have hT2 : RD ((w.alloc (.cells #[Value.slice none 0 0, .slice none 0 0, .slice none 0 0, .slice none 0 0, .slice none 0 0, .int .i64 0] 27)).alloc (.cells #[Value.int .i64 0, .int .i64 0] 34)) base r m T := hT.low (Bl.alloc (Bl.alloc (Below.refl _ _) _) _)
  have hZ : Blk ((w.alloc (.cells #[Value.slice none 0 0, .slice none 0 0, .slice none 0 0, .slice none 0 0, .slice none 0 0, .int .i64 0] 27)).alloc (.cells #[Value.int .i64 0, .int .i64 0] 34)) w.heap.size 27 #[Value.slice none 0 0, .slice none 0 0, .slice none 0 0, .slice none 0 0, .slice none 0 0, .int .i64 0] := (Blk.new w _ _).alloc _
  have hF : Blk ((w.alloc (.cells #[Value.slice none 0 0, .slice none 0 0, .slice none 0 0, .slice none 0 0, .slice none 0 0, .int .i64 0] 27)).alloc (.cells #[Value.int .i64 0, .int .i64 0] 34)) (w.heap.size + 1) 34 #[Value.int .i64 0, .int .i64 0] := Blk.newAt (by simp)
  have hb : Below w.heap.size w ((w.alloc (.cells #[Value.slice none 0 0, .slice none 0 0, .slice none 0 0, .slice none 0 0, .slice none 0 0, .int .i64 0] 27)).alloc (.cells #[Value.int .i64 0, .int .i64 0] 34)) := Bl.alloc (Bl.alloc (Below.refl _ _) _) _
  have hrw : r < w.heap.size := by have := hT.1; have := hT.2.2.2.1; omega
  clear hT
  have hsz : ((w.alloc (.cells #[Value.slice none 0 0, .slice none 0 0, .slice none 0 0, .slice none 0 0, .slice none 0 0, .int .i64 0] 27)).alloc (.cells #[Value.int .i64 0, .int .i64 0] 34)).heap.size = w.heap.size + 2 := by simp
  go_enter Tryd.func34, Tryd.ntmps34
  go_upto_region 1 with fail
  generalize hzz : w.heap.size = z at *
  generalize ((w.alloc (.cells #[Value.slice none 0 0, .slice none 0 0, .slice none 0 0, .slice none 0 0, .slice none 0 0, .int .i64 0] 27)).alloc (.cells #[Value.int .i64 0, .int .i64 0] 34)) = wr at *
  obtain ⟨hrb, hmb, hrm, hbs, vp, s0, s1, s2, ve, Q, hB, hM, hS⟩ := hT2
  have hF8 := hF.setRow_far (g' := z) (by omega) #[Value.slice none 0 0, .slice none 0 0, .slice none 0 0, .slice none 0 0, .slice none 0 0, .int .i64 0]
  have hb8 : ∀ F8, Below z w ((wr.setRow z #[Value.slice none 0 0, .slice none 0 0, .slice none 0 0, .slice none 0 0, .slice none 0 0, .int .i64 0]).setRow (z + 1) F8) := fun F8 => below_setRow (below_setRow hb (Nat.le_refl _) _) (by omega) _
  have HB8 := hide hb8
  have HB := hide hB
  have HS := hide hS
  have HP := hide hpg
  have HBN := hide hbn
  have HZ := hide hZ
  have HF := hide hF
  have HB0 := hide hb
  obtain ⟨lv1, hl1, hv1⟩ := met_look_pg hM
  obtain ⟨lv2, hl2, hv2⟩ := met_look_bd hM
  have c0 : wr.cell? ⟨r, 0, none⟩ = some (.map (some m)) := hB.cell 0
  clear hbn hpg hB hS hb hb8 hM
  cases hp : T.pg with
  | none =>
    rw [hp] at hl1
    have EW : Hid (parW T = .inl (5, 0)) := by unfold Hid parW; rw [hp]
    have hl1 : (Instr.lookup 60 (.map (some m)) (.string ⟨#[112, 97, 103, 101, 115]⟩) true).run Tryd.prog wr = .ok (.tuple #[lv1, .bool false]) wr := hl1
    clear hp hv1 hv2
    go_wp2_with (first | (refine wpList_store_row rfl 27 _ _ rfl z #[Value.slice none 0 0, .slice none 0 0, .slice none 0 0, .slice none 0 0, .slice none 0 0, .int .i64 0] rfl rfl 27 _ hZ (by kernel_rfl) rfl (by kernel_rfl) ?_) | (refine wpList_store_row rfl 34 _ _ rfl (z + 1) #[Value.int .i64 5, .int .i64 0] rfl rfl 34 _ hF8 (by kernel_rfl) rfl (by kernel_rfl) ?_))
    refine bodyPost_ret (results_cc rfl rfl ((hZ.setRow #[Value.slice none 0 0, .slice none 0 0, .slice none 0 0, .slice none 0 0, .slice none 0 0, .int .i64 0]).setRow_far (by omega) _) Tryd.underlying27 rfl (by kernel_rfl) rfl (hF8.setRow _) Tryd.underlying34 rfl (by kernel_rfl)) rfl ?_
    refine ⟨by rw [hzz]; exact HB8.out _, ?_⟩
    rw [EW.out]
    rfl
  | some p =>
    obtain rfl := hv1 p hp
    rw [hp] at hl1
    have hl1 : (Instr.lookup 60 (.map (some m)) (.string ⟨#[112, 97, 103, 101, 115]⟩) true).run Tryd.prog wr = .ok (.tuple #[.int .i64 (p : Int), .bool true]) wr := hl1
    clear hv1
    cases hbd : T.bd with
    | none =>
      rw [hbd] at hl2
      have EW : Hid (parW T = .inl (5, 0)) := by unfold Hid parW; rw [hp, hbd]
      have hl2 : (Instr.lookup 60 (.map (some m)) (.string ⟨#[98, 117, 100, 103, 101, 116]⟩) true).run Tryd.prog wr = .ok (.tuple #[lv2, .bool false]) wr := hl2
      clear hp hbd hv2
      go_wp2_with (first | (refine wpList_store_row rfl 27 _ _ rfl z #[Value.slice none 0 0, .slice none 0 0, .slice none 0 0, .slice none 0 0, .slice none 0 0, .int .i64 0] rfl rfl 27 _ hZ (by kernel_rfl) rfl (by kernel_rfl) ?_) | (refine wpList_store_row rfl 34 _ _ rfl (z + 1) #[Value.int .i64 5, .int .i64 0] rfl rfl 34 _ hF8 (by kernel_rfl) rfl (by kernel_rfl) ?_))
      refine bodyPost_ret (results_cc rfl rfl ((hZ.setRow #[Value.slice none 0 0, .slice none 0 0, .slice none 0 0, .slice none 0 0, .slice none 0 0, .int .i64 0]).setRow_far (by omega) _) Tryd.underlying27 rfl (by kernel_rfl) rfl (hF8.setRow _) Tryd.underlying34 rfl (by kernel_rfl)) rfl ?_
      refine ⟨by rw [hzz]; exact HB8.out _, ?_⟩
      rw [EW.out]
      rfl
    | some b =>
      obtain rfl := hv2 b hbd
      rw [hbd] at hl2
      have hl2 : (Instr.lookup 60 (.map (some m)) (.string ⟨#[98, 117, 100, 103, 101, 116]⟩) true).run Tryd.prog wr = .ok (.tuple #[.int .i64 (b : Int), .bool true]) wr := hl2
      clear hv2
      have hpr := HP.out p hp
      obtain ⟨po, pc, pO, pCp, rfl, hPB⟩ := HS.out.pieces
      have hnp : T.ps.length ≤ maxLen := by have := HBN.out.ap; unfold maxLen; omega
      have c2 : wr.cell? ⟨r, 1, none⟩ = some (.slice po T.ps.length pc) := HB.out.cell 1
      have hrl := HB.out.lt
      by_cases hfit : fitP (p * 8192) T.ps
      · have hmk := mk_ok p (p * 8192) po T.ps.length pc (psA T.ps) pO (psN T.ps) pCp (psB T.ps) wr hpr rfl hnp hPB hfit
        have EW : Hid (parW T = if (chkT T p b).1 ≠ 0 then .inl ((chkT T p b).1, 0) else .inr (p, b, T)) := by unfold Hid parW; rw [hp, hbd]; dsimp only; rw [if_pos hfit]
        have HPR := hide hpr
        clear hp hbd hfit hPB hnp hpr
        go_wp2_with fail
        refine hmk.mono ?_
        clear hmk
        rintro e w3 ⟨g, rfl, hRW, hge, hb3⟩
        have hG0 : Blk (w3.alloc (.cells #[Value.int .i64 0, .int .i64 0] 34)) w3.heap.size 34 #[Value.int .i64 0, .int .i64 0] := Blk.new _ _ _
        have sR := setRow_new w3 #[Value.int .i64 0, .int .i64 0] #[Value.int .i64 0, .int .i64 0] 34
        have hRW : Blk w3 g 5 (rowN (p * 8192) (romF T.ps)) := hRW
        have hgl := hRW.lt
        have kf : (w3.alloc (.cells #[Value.int .i64 0, .int .i64 0] 34)).cell? ⟨w3.heap.size, 0, none⟩ = some (.int .i64 0) := hG0.cell 0
        obtain ⟨o0, x0, rfl, n0, q0⟩ := row_nums HS.out.r0
        obtain ⟨o1, x1, rfl, n1, q1⟩ := row_nums HS.out.r1
        obtain ⟨o2, x2, rfl, n2, q2⟩ := row_nums HS.out.r2
        obtain ⟨oe, xe, rfl, nE, hsp⟩ := row_edges HS.out.re
        replace hsp : CapS oe T x0 x1 x2 := ⟨hsp, q0.2, q1.2, q2.2⟩
        clear q0 q1 q2
        have hww : Below wr.heap.size wr (w3.alloc (.cells #[Value.int .i64 0, .int .i64 0] 34)) := hb3.trans ((Bl.alloc (Below.refl w3.heap.size w3) (.cells #[Value.int .i64 0, .int .i64 0] 34)).mono hb3.size)
        have hBa := HB.out.below hww hrl
        have k6 : (w3.alloc (.cells #[Value.int .i64 0, .int .i64 0] 34)).cell? ⟨r, 5, none⟩ = some (.slice oe T.ed.length xe) := hBa.cell 5
        have hmd : MD (w3.alloc (.cells #[Value.int .i64 0, .int .i64 0] 34)) r 2 (.slice o0 T.f0.length x0) (.slice o1 T.f1.length x1) (.slice o2 T.f2.length x2) := MD.of hBa rfl rfl rfl
        have NN : Hid (NumsAt wr .u8 o0 T.f0.length (byF T.f0) ∧ NumsAt wr .u8 o1 T.f1.length (byF T.f1) ∧ NumsAt wr .u8 o2 T.f2.length (byF T.f2) ∧ EdgB wr oe T.ed.length (edSt T.ed) (edLn T.ed) (edUp T.ed) wr.heap.size ∧ CapS oe T x0 x1 x2 ∧ Blk (w3.alloc (.cells #[Value.int .i64 0, .int .i64 0] 34)) g 5 (rowN (p * 8192) (romF T.ps))) := ⟨n0, n1, n2, nE, hsp, hRW.alloc _⟩
        have HWW := hide hww
        clear c0 c2 hl1 hl2 hRW hww hZ hF hF8 n0 n1 n2 nE hsp hBa hge hb3
        go_upto_region 6 with (first | (refine wpList_store_row rfl 34 _ _ rfl w3.heap.size #[Value.int .i64 0, .int .i64 0] rfl rfl 34 _ hG0 (by kernel_rfl) rfl (by kernel_rfl) ?_; rw [sR]))
        clear sR hG0
        generalize w3.alloc (.cells #[Value.int .i64 0, .int .i64 0] 34) = wa at *
        generalize w3.heap.size = gf at *
        have hra : r < wa.heap.size := hmd.2
        have hwb : Below wa.heap.size wa wa := Below.refl _ _
        go_wp2_with fail
        refine wp_region_held_drew (S := fun W => Below wa.heap.size wa W ∧ W.cell? ⟨r, 5, none⟩ = some (.slice oe T.ed.length xe) ∧ MD W r 2 (.slice o0 T.f0.length x0) (.slice o1 T.f1.length x1) (.slice o2 T.f2.length x2)) (by kernel_rfl) ⟨(by first | exact hwb.drew | exact hwb | exact Below.drew hwb), (by first | exact k6.drew | exact k6 | exact Below.drew k6), (by first | exact hmd.drew | exact hmd | exact Below.drew hmd)⟩ (fun hS0 => ?_)
        clear hwb k6 hmd
        change wpAnyH _ _ _ _ _ 13 #[false, false, false, false, false, false, false, false, false, false, false, false, false] _ _
        generalize wa.drew = v0 at *
        refine wpAnyH_take (i := 0) (v := ?_) rfl (by kernel_rfl) (by kernel_rfl) (by kernel_rfl) (fun _ _ _ h => h) (Or.inl ⟨by rfl, ?_⟩) hS0 ?_
        rotate_left
        · (intro w hSw; (try dsimp only at hSw); go_simp; try with_reducible rfl)
        simp only [List.getElem_toArray, List.getElem_cons_zero, List.getElem_cons_succ, Act.put, List.setIfInBounds_toArray, List.set_cons_zero, List.set_cons_succ]
        refine wpAnyH_take (i := 1) (v := ?_) rfl (by kernel_rfl) (by kernel_rfl) (by kernel_rfl) (fun _ _ _ h => h) (Or.inl ⟨by rfl, ?_⟩) hS0 ?_
        rotate_left
        · (intro w hSw; (try dsimp only at hSw); go_simp; try with_reducible rfl)
        simp only [List.getElem_toArray, List.getElem_cons_zero, List.getElem_cons_succ, Act.put, List.setIfInBounds_toArray, List.set_cons_zero, List.set_cons_succ]
        refine wpAnyH_take (i := 2) (v := ?_) rfl (by kernel_rfl) (by kernel_rfl) (by kernel_rfl) (fun _ _ _ h => h) (Or.inl ⟨by rfl, ?_⟩) hS0 ?_
        rotate_left
        · (intro w hSw; (try dsimp only at hSw); go_simp; try with_reducible rfl)
        simp only [List.getElem_toArray, List.getElem_cons_zero, List.getElem_cons_succ, Act.put, List.setIfInBounds_toArray, List.set_cons_zero, List.set_cons_succ]
        refine wpAnyH_take (i := 3) (v := ?_) rfl (by kernel_rfl) (by kernel_rfl) (by kernel_rfl) (fun _ _ _ h => h) (Or.inl ⟨by rfl, ?_⟩) hS0 ?_
        rotate_left
        · (intro w hSw; (try dsimp only at hSw); go_simp; try with_reducible rfl)
        simp only [List.getElem_toArray, List.getElem_cons_zero, List.getElem_cons_succ, Act.put, List.setIfInBounds_toArray, List.set_cons_zero, List.set_cons_succ]
        refine wpAnyH_take (i := 4) (v := .agg ([Value.slice o0 T.f0.length x0, Value.slice o1 T.f1.length x1, Value.slice o2 T.f2.length x2] : List Value).toArray) rfl (by kernel_rfl) (by kernel_rfl) (by kernel_rfl) (fun _ _ _ h => h) (yieldsIf_load_mid (by rfl) 24 _ rfl r 2 rfl [Value.slice o0 T.f0.length x0, Value.slice o1 T.f1.length x1, Value.slice o2 T.f2.length x2] _ (fun _ h => (h.2.2).1) Tryd.underlying24 rfl (by kernel_rfl)) hS0 ?_
        simp only [List.getElem_toArray, List.getElem_cons_zero, List.getElem_cons_succ, Act.put, List.setIfInBounds_toArray, List.set_cons_zero, List.set_cons_succ]
        refine wpAnyH_take (i := 5) (v := ?_) rfl (by kernel_rfl) (by kernel_rfl) (by kernel_rfl) (fun _ _ _ h => h) (Or.inl ⟨by rfl, ?_⟩) hS0 ?_
        rotate_left
        · (intro w hSw; (try dsimp only at hSw); go_simp; try with_reducible rfl)
        simp only [List.getElem_toArray, List.getElem_cons_zero, List.getElem_cons_succ, Act.put, List.setIfInBounds_toArray, List.set_cons_zero, List.set_cons_succ]
        refine wpAnyH_take (i := 6) (v := ?_) rfl (by kernel_rfl) (by kernel_rfl) (by kernel_rfl) (fun _ _ _ h => h) (Or.inl ⟨by rfl, ?_⟩) hS0 ?_
        rotate_left
        · (intro w hSw; (try dsimp only at hSw); go_simp; try with_reducible rfl)
        simp only [List.getElem_toArray, List.getElem_cons_zero, List.getElem_cons_succ, Act.put, List.setIfInBounds_toArray, List.set_cons_zero, List.set_cons_succ]
        refine wpAnyH_take (i := 7) (v := ?_) rfl (by kernel_rfl) (by kernel_rfl) (by kernel_rfl) (fun _ _ _ h => h) (Or.inl ⟨by rfl, ?_⟩) hS0 ?_
        rotate_left
        · (intro w hSw; (try dsimp only at hSw); go_simp; try with_reducible rfl)
        simp only [List.getElem_toArray, List.getElem_cons_zero, List.getElem_cons_succ, Act.put, List.setIfInBounds_toArray, List.set_cons_zero, List.set_cons_succ]
        refine wpAnyH_take (i := 8) (v := ?_) rfl (by kernel_rfl) (by kernel_rfl) (by kernel_rfl) (fun _ _ _ h => h) (Or.inl ⟨by rfl, ?_⟩) hS0 ?_
        rotate_left
        · (intro w hSw; (try dsimp only at hSw); go_simp; try with_reducible rfl)
        simp only [List.getElem_toArray, List.getElem_cons_zero, List.getElem_cons_succ, Act.put, List.setIfInBounds_toArray, List.set_cons_zero, List.set_cons_succ]
        refine wpAnyH_take (i := 9) (v := ?_) rfl (by kernel_rfl) (by kernel_rfl) (by kernel_rfl) (fun _ _ _ h => h) (Or.inl ⟨by rfl, ?_⟩) hS0 ?_
        rotate_left
        · (intro w hSw; (try dsimp only at hSw); go_simp; try with_reducible rfl)
        simp only [List.getElem_toArray, List.getElem_cons_zero, List.getElem_cons_succ, Act.put, List.setIfInBounds_toArray, List.set_cons_zero, List.set_cons_succ]
        refine wpAnyH_take (i := 10) (v := ?_) rfl (by kernel_rfl) (by kernel_rfl) (by kernel_rfl) (fun _ _ _ h => h) (Or.inl ⟨by rfl, ?_⟩) hS0 ?_
        rotate_left
        · (intro w hSw; (try dsimp only at hSw); go_simp; try with_reducible rfl)
        simp only [List.getElem_toArray, List.getElem_cons_zero, List.getElem_cons_succ, Act.put, List.setIfInBounds_toArray, List.set_cons_zero, List.set_cons_succ]
        refine wpAnyH_ready (rs := [11]) (by kernel_rfl) (by simp) ?_
        refine AllReadyH.cons rfl (fun K hK => ?_) AllReadyH.nil
        go_simp
        have hb1 : Below v0.heap.size v0 (v0.alloc (.cells #[Value.slice none 0 0, .slice none 0 0, .slice none 0 0, .slice none 0 0, .slice none 0 0, .int .i64 0] 27)) := Bl.alloc (Below.refl _ _) _
        refine hK.out _ _ ⟨(by first | exact hS0.1.below hb1 hS0.1.lt | exact hS0.1.trans (hb1.mono hS0.1.size) | exact hS0.1.trans (hb1.mono (by have := hS0.1.size; omega)) | exact (hb1.cell (cell_lt hS0.1)).trans hS0.1 | exact hS0.1.below hb1 (Nat.le_refl _) | exact hS0.1.low hb1 | exact hS0.1.below hb1 | exact hS0.1.trans (Only.of hb1)), (by first | exact hS0.2.1.below hb1 hS0.2.1.lt | exact hS0.2.1.trans (hb1.mono hS0.2.1.size) | exact hS0.2.1.trans (hb1.mono (by have := hS0.2.1.size; omega)) | exact (hb1.cell (cell_lt hS0.2.1)).trans hS0.2.1 | exact hS0.2.1.below hb1 (Nat.le_refl _) | exact hS0.2.1.low hb1 | exact hS0.2.1.below hb1 | exact hS0.2.1.trans (Only.of hb1)), (by first | exact hS0.2.2.below hb1 hS0.2.2.lt | exact hS0.2.2.trans (hb1.mono hS0.2.2.size) | exact hS0.2.2.trans (hb1.mono (by have := hS0.2.2.size; omega)) | exact (hb1.cell (cell_lt hS0.2.2)).trans hS0.2.2 | exact hS0.2.2.below hb1 (Nat.le_refl _) | exact hS0.2.2.low hb1 | exact hS0.2.2.below hb1 | exact hS0.2.2.trans (Only.of hb1))⟩ (fun hS1 => ?_)
        clear hK K
        have hs_1 : Blk (v0.alloc (.cells #[Value.slice none 0 0, .slice none 0 0, .slice none 0 0, .slice none 0 0, .slice none 0 0, .int .i64 0] 27)) v0.heap.size 27 #[Value.slice none 0 0, .slice none 0 0, .slice none 0 0, .slice none 0 0, .slice none 0 0, .int .i64 0] := Blk.new _ _ _
        have hge_gs := hS0.1.size
        clear hb1 hS0
        generalize v0.alloc (.cells #[Value.slice none 0 0, .slice none 0 0, .slice none 0 0, .slice none 0 0, .slice none 0 0, .int .i64 0] 27) = v1 at *
        generalize v0.heap.size = gs at *
        simp only [List.getElem_toArray, List.getElem_cons_zero, List.getElem_cons_succ, Act.put, List.setIfInBounds_toArray, List.set_cons_zero, List.set_cons_succ]
        refine wpAnyH_ready (rs := [12]) (by kernel_rfl) (by simp) ?_
        refine AllReadyH.cons rfl (fun K hK => ?_) AllReadyH.nil
        rw [if_pos (show Region.wanted _ _ = true from by rfl)]
        refine wp_store_row 27 _ _ rfl gs #[Value.slice (some ⟨g, 0, none⟩) (p * 8192) (p * 8192), Value.slice o0 T.f0.length x0, Value.slice o1 T.f1.length x1, Value.slice o2 T.f2.length x2, Value.slice oe T.ed.length xe, Value.int .i64 (b : Int)] rfl rfl 27 _ hs_1 (by kernel_rfl) rfl (by kernel_rfl) ?_
        refine hK.out _ _ ⟨(by first | exact below_setRow hS1.1 (by omega) _ | exact hS1.1.setRow_far (by omega) _ | exact (World.cell?_of_block (setRow_block _ _ _ _ (by first | omega | (dsimp only; omega)))).trans hS1.1 | exact hS1.1.only (only_setRow _ _ _) (fun k e => by (have e : k = _ := e); omega)), (by first | exact below_setRow hS1.2.1 (by omega) _ | exact hS1.2.1.setRow_far (by omega) _ | exact (World.cell?_of_block (setRow_block _ _ _ _ (by first | omega | (dsimp only; omega)))).trans hS1.2.1 | exact hS1.2.1.only (only_setRow _ _ _) (fun k e => by (have e : k = _ := e); omega)), (by first | exact below_setRow hS1.2.2 (by omega) _ | exact hS1.2.2.setRow_far (by omega) _ | exact (World.cell?_of_block (setRow_block _ _ _ _ (by first | omega | (dsimp only; omega)))).trans hS1.2.2 | exact hS1.2.2.only (only_setRow _ _ _) (fun k e => by (have e : k = _ := e); omega))⟩ (fun hS2 => ?_)
        clear hK K
        have hs_2 := hs_1.setRow #[Value.slice (some ⟨g, 0, none⟩) (p * 8192) (p * 8192), Value.slice o0 T.f0.length x0, Value.slice o1 T.f1.length x1, Value.slice o2 T.f2.length x2, Value.slice oe T.ed.length xe, Value.int .i64 (b : Int)]
        clear hS1
        generalize v1.setRow gs #[Value.slice (some ⟨g, 0, none⟩) (p * 8192) (p * 8192), Value.slice o0 T.f0.length x0, Value.slice o1 T.f1.length x1, Value.slice o2 T.f2.length x2, Value.slice oe T.ed.length xe, Value.int .i64 (b : Int)] = v2 at *
        simp only [List.getElem_toArray, List.getElem_cons_zero, List.getElem_cons_succ, Act.put, List.setIfInBounds_toArray, List.set_cons_zero, List.set_cons_succ]
        refine wpAnyH_done (by kernel_rfl) ?_ _
        have hwb := hS2.1
        have k6 := hS2.2.1
        have hmd := hS2.2.2
        clear hS2
        have hs := hs_2
        generalize v2 = wb at *
        have hbw : Below wr.heap.size wr wb := HWW.out.trans (hwb.mono HWW.out.size)
        have hE := (NN.out.2.2.2.1.low hbw).mono hbw.size
        have hpm : p * 8192 ≤ maxLen := by have := HPR.out; unfold maxLen; omega
        have hck : Calls Tryd.prog 9 #[.agg #[Value.slice (some ⟨g, 0, none⟩) (p * 8192) (p * 8192), Value.slice o0 T.f0.length x0, Value.slice o1 T.f1.length x1, Value.slice o2 T.f2.length x2, Value.slice oe T.ed.length xe, Value.int .i64 (b : Int)]] wb fun e w' => e = .returned (.agg #[.int .i64 ((chkT T p b).1 : Int), .int .i64 ((chkT T p b).2 : Int)]) ∧ Below wb.heap.size wb w' := sCheck_calls (some ⟨g, 0, none⟩) o0 o1 o2 oe (p * 8192) (p * 8192) T.f0.length x0 T.f1.length x1 T.f2.length x2 T.ed.length xe (b : Int) (edSt T.ed) (edLn T.ed) (edUp T.ed) wb hpm hE
        generalize chkT T p b = C at *
        have HSB := hide hs
        clear hE k6 hmd hpm kf
        go_wp2_with (first | (refine wpList_load_row rfl 27 _ rfl gs rfl _ #[Value.slice (some ⟨g, 0, none⟩) (p * 8192) (p * 8192), Value.slice o0 T.f0.length x0, Value.slice o1 T.f1.length x1, Value.slice o2 T.f2.length x2, Value.slice oe T.ed.length xe, Value.int .i64 (b : Int)] (0, 0) _ hs Tryd.underlying27 rfl (by kernel_rfl) ?_))
        refine hck.mono ?_
        clear hck hs
        rintro e w50 ⟨rfl, hb50⟩
        have hX0 : Blk (w50.alloc (.cells #[Value.int .i64 0, .int .i64 0] 34)) w50.heap.size 34 #[Value.int .i64 0, .int .i64 0] := Blk.new _ _ _
        have sR := setRow_new w50 #[Value.int .i64 0, .int .i64 0] #[.int .i64 (C.1 : Int), .int .i64 (C.2 : Int)] 34
        have hX1 : Blk (w50.alloc (.cells #[.int .i64 (C.1 : Int), .int .i64 (C.2 : Int)] 34)) w50.heap.size 34 #[.int .i64 (C.1 : Int), .int .i64 (C.2 : Int)] := Blk.new _ _ _
        have kx : (w50.alloc (.cells #[.int .i64 (C.1 : Int), .int .i64 (C.2 : Int)] 34)).cell? ⟨w50.heap.size, 0, none⟩ = some (.int .i64 (C.1 : Int)) := hX1.cell 0
        have hb5 : Below wb.heap.size wb (w50.alloc (.cells #[.int .i64 (C.1 : Int), .int .i64 (C.2 : Int)] 34)) := hb50.trans ((Bl.alloc (Below.refl w50.heap.size w50) _).mono hb50.size)
        have hxg : wb.heap.size ≤ w50.heap.size := hb50.size
        clear hb50 hX1
        go_upto_region 10 with (first | (refine wpList_store_row rfl 34 _ _ rfl w50.heap.size #[.int .i64 (C.1 : Int), .int .i64 (C.2 : Int)] rfl rfl 34 _ hX0 (by kernel_rfl) rfl (by kernel_rfl) ?_; rw [sR]))
        clear sR hX0
        generalize w50.alloc (.cells #[.int .i64 (C.1 : Int), .int .i64 (C.2 : Int)] 34) = w5 at *
        generalize w50.heap.size = gx at *
        have hb05 := hbw.trans (hb5.mono hbw.size)
        have hZ5 := HZ.out.below hb05 HZ.out.lt
        have hF50 := HF.out.below hb05 HF.out.lt
        have hs5 := HSB.out.below hb5 HSB.out.lt
        have hz5 : Below z w w5 := HB0.out.trans (hb05.mono (by have := HB0.out.size; omega))
        have HZ5 := hide hz5
        have hxz : z + 1 < gx := by have := hbw.size; omega
        have HWA : Hid (Below wa.heap.size wa w5) := hwb.trans (hb5.mono hwb.size)
        clear hbw hwb hb5
        by_cases hC : C.1 = 0
        · have q1 : ((C.1 : Int) != 0) = false := by rw [hC]; rfl
          have HC := hide hC
          have hF5 := hF50.setRow_far (g' := z) (by omega) #[Value.slice (some ⟨g, 0, none⟩) (p * 8192) (p * 8192), Value.slice o0 T.f0.length x0, Value.slice o1 T.f1.length x1, Value.slice o2 T.f2.length x2, Value.slice oe T.ed.length xe, Value.int .i64 (b : Int)]
          have hO1 := only_setRowB w5 z #[Value.slice (some ⟨g, 0, none⟩) (p * 8192) (p * 8192), Value.slice o0 T.f0.length x0, Value.slice o1 T.f1.length x1, Value.slice o2 T.f2.length x2, Value.slice oe T.ed.length xe, Value.int .i64 (b : Int)]
          have hO2 := only_setRowB (w5.setRow z #[Value.slice (some ⟨g, 0, none⟩) (p * 8192) (p * 8192), Value.slice o0 T.f0.length x0, Value.slice o1 T.f1.length x1, Value.slice o2 T.f2.length x2, Value.slice oe T.ed.length xe, Value.int .i64 (b : Int)]) (z + 1) #[Value.int .i64 0, .int .i64 0]
          have noZ : ∀ x, Value.int .u8 x ∉ (#[Value.slice none 0 0, .slice none 0 0, .slice none 0 0, .slice none 0 0, .slice none 0 0, .int .i64 0] : Array Value).toList := by simp
          have noF : ∀ x, Value.int .u8 x ∉ (#[Value.int .i64 0, .int .i64 0] : Array Value).toList := by simp
          have FIN : Hid (NumsAt ((w5.setRow z #[Value.slice (some ⟨g, 0, none⟩) (p * 8192) (p * 8192), Value.slice o0 T.f0.length x0, Value.slice o1 T.f1.length x1, Value.slice o2 T.f2.length x2, Value.slice oe T.ed.length xe, Value.int .i64 (b : Int)]).setRow (z + 1) #[Value.int .i64 0, .int .i64 0]) .u8 o0 T.f0.length (byF T.f0) ∧ NumsAt ((w5.setRow z #[Value.slice (some ⟨g, 0, none⟩) (p * 8192) (p * 8192), Value.slice o0 T.f0.length x0, Value.slice o1 T.f1.length x1, Value.slice o2 T.f2.length x2, Value.slice oe T.ed.length xe, Value.int .i64 (b : Int)]).setRow (z + 1) #[Value.int .i64 0, .int .i64 0]) .u8 o1 T.f1.length (byF T.f1) ∧ NumsAt ((w5.setRow z #[Value.slice (some ⟨g, 0, none⟩) (p * 8192) (p * 8192), Value.slice o0 T.f0.length x0, Value.slice o1 T.f1.length x1, Value.slice o2 T.f2.length x2, Value.slice oe T.ed.length xe, Value.int .i64 (b : Int)]).setRow (z + 1) #[Value.int .i64 0, .int .i64 0]) .u8 o2 T.f2.length (byF T.f2) ∧ EdgB ((w5.setRow z #[Value.slice (some ⟨g, 0, none⟩) (p * 8192) (p * 8192), Value.slice o0 T.f0.length x0, Value.slice o1 T.f1.length x1, Value.slice o2 T.f2.length x2, Value.slice oe T.ed.length xe, Value.int .i64 (b : Int)]).setRow (z + 1) #[Value.int .i64 0, .int .i64 0]) oe T.ed.length (edSt T.ed) (edLn T.ed) (edUp T.ed) ((w5.setRow z #[Value.slice (some ⟨g, 0, none⟩) (p * 8192) (p * 8192), Value.slice o0 T.f0.length x0, Value.slice o1 T.f1.length x1, Value.slice o2 T.f2.length x2, Value.slice oe T.ed.length xe, Value.int .i64 (b : Int)]).setRow (z + 1) #[Value.int .i64 0, .int .i64 0]).heap.size ∧ NumsAt ((w5.setRow z #[Value.slice (some ⟨g, 0, none⟩) (p * 8192) (p * 8192), Value.slice o0 T.f0.length x0, Value.slice o1 T.f1.length x1, Value.slice o2 T.f2.length x2, Value.slice oe T.ed.length xe, Value.int .i64 (b : Int)]).setRow (z + 1) #[Value.int .i64 0, .int .i64 0]) .u8 (some ⟨g, 0, none⟩) (p * 8192) (romF T.ps)) := by
            obtain ⟨n0, n1, n2, nE, hsp, hR⟩ := NN.out
            have le := Nat.le_refl wr.heap.size
            have hR5 : NumsAt w5 .u8 (some ⟨g, 0, none⟩) (p * 8192) (romF T.ps) := RW.nums (w := w5) (Blk.below hR HWA.out (Blk.lt hR))
            exact ⟨nums_apart (nums_apart (n0.below hb05 le) hZ5 noZ hO1) hF5 noF hO2, nums_apart (nums_apart (n1.below hb05 le) hZ5 noZ hO1) hF5 noF hO2, nums_apart (nums_apart (n2.below hb05 le) hZ5 noZ hO1) hF5 noF hO2, (edg_apart (edg_apart (nE.low hb05) hZ5 noZ hO1) hF5 noF hO2).mono (Nat.le_trans hb05.size (Nat.le_trans hO1.size hO2.size)), nums_apart (nums_apart hR5 hZ5 noZ hO1) hF5 noF hO2⟩
          clear hC hO1 hO2 noZ noF hb05 hF50 hz5
          go_wp2_with (first | (refine wpList_load_row rfl 27 _ rfl gs rfl _ #[Value.slice (some ⟨g, 0, none⟩) (p * 8192) (p * 8192), Value.slice o0 T.f0.length x0, Value.slice o1 T.f1.length x1, Value.slice o2 T.f2.length x2, Value.slice oe T.ed.length xe, Value.int .i64 (b : Int)] (0, 0) _ hs5 Tryd.underlying27 rfl (by kernel_rfl) ?_) | (refine wpList_store_row rfl 27 _ _ rfl z #[Value.slice (some ⟨g, 0, none⟩) (p * 8192) (p * 8192), Value.slice o0 T.f0.length x0, Value.slice o1 T.f1.length x1, Value.slice o2 T.f2.length x2, Value.slice oe T.ed.length xe, Value.int .i64 (b : Int)] rfl rfl 27 _ hZ5 (by kernel_rfl) rfl (by kernel_rfl) ?_) | (refine wpList_store_row rfl 34 _ _ rfl (z + 1) #[Value.int .i64 0, .int .i64 0] rfl rfl 34 _ hF5 (by kernel_rfl) rfl (by kernel_rfl) ?_))
          refine bodyPost_ret (results_cc rfl rfl ((hZ5.setRow #[Value.slice (some ⟨g, 0, none⟩) (p * 8192) (p * 8192), Value.slice o0 T.f0.length x0, Value.slice o1 T.f1.length x1, Value.slice o2 T.f2.length x2, Value.slice oe T.ed.length xe, Value.int .i64 (b : Int)]).setRow_far (by omega) _) Tryd.underlying27 rfl (by kernel_rfl) rfl (hF5.setRow _) Tryd.underlying34 rfl (by kernel_rfl)) rfl ?_
          refine ⟨by rw [hzz]; exact below_setRow (below_setRow HZ5.out (Nat.le_refl _) _) (by omega) _, ?_⟩
          rw [EW.out, if_neg (by have := HC.out; omega)]
          obtain ⟨y0, y1, y2, y3, y4⟩ := FIN.out
          have hpm : p * 8192 ≤ maxLen := by have := HPR.out; unfold maxLen; omega
          exact ⟨_, _, _, _, _, _, _, _, _, _, rfl, y4, y0, y1, y2, y3, NN.out.2.2.2.2.1, Nat.le_refl _, hpm⟩
        · have q1 : ((C.1 : Int) != 0) = true := by rw [bne_iff_ne]; omega
          have HC := hide hC
          clear hC hs5 hb05
          go_wp2_with fail
          refine wp_region_held_drew (S := fun W => W.cell? ⟨gx, 0, none⟩ = some (.int .i64 (C.1 : Int)) ∧ Blk W z 27 #[Value.slice none 0 0, .slice none 0 0, .slice none 0 0, .slice none 0 0, .slice none 0 0, .int .i64 0] ∧ Below z w W) (by kernel_rfl) ⟨(by first | exact kx.drew | exact kx | exact Below.drew kx), (by first | exact hZ5.drew | exact hZ5 | exact Below.drew hZ5), (by first | exact hz5.drew | exact hz5 | exact Below.drew hz5)⟩ (fun hS0 => ?_)
          have hF50_0 : Blk w5.drew (z + 1) 34 #[Value.int .i64 0, .int .i64 0] := by first | exact hF50.drew | exact hF50
          clear kx hZ5 hz5 hF50
          change wpAnyH _ _ _ _ _ 6 #[false, false, false, false, false, false] _ _
          generalize w5.drew = v0 at *
          refine wpAnyH_take (i := 0) (v := ?_) rfl (by kernel_rfl) (by kernel_rfl) (by kernel_rfl) (fun _ _ _ h => h) (Or.inl ⟨by rfl, ?_⟩) hS0 ?_
          rotate_left
          · (intro w hSw; (try dsimp only at hSw); go_simp; try with_reducible rfl)
          simp only [List.getElem_toArray, List.getElem_cons_zero, List.getElem_cons_succ, Act.put, List.setIfInBounds_toArray, List.set_cons_zero, List.set_cons_succ]
          refine wpAnyH_take (i := 1) (v := ?_) rfl (by kernel_rfl) (by kernel_rfl) (by kernel_rfl) (fun _ _ _ h => h) (Or.inl ⟨by rfl, ?_⟩) hS0 ?_
          rotate_left
          · (intro w hSw; (try dsimp only at hSw); go_simp; try with_reducible rfl)
          simp only [List.getElem_toArray, List.getElem_cons_zero, List.getElem_cons_succ, Act.put, List.setIfInBounds_toArray, List.set_cons_zero, List.set_cons_succ]
          refine wpAnyH_take (i := 2) (v := ?_) rfl (by kernel_rfl) (by kernel_rfl) (by kernel_rfl) (fun _ _ _ h => h) (Or.inl ⟨by rfl, ?_⟩) hS0 ?_
          rotate_left
          · (intro w hSw; (try dsimp only at hSw); go_simp; try with_reducible rfl)
          simp only [List.getElem_toArray, List.getElem_cons_zero, List.getElem_cons_succ, Act.put, List.setIfInBounds_toArray, List.set_cons_zero, List.set_cons_succ]
          refine wpAnyH_take (i := 3) (v := ?_) rfl (by kernel_rfl) (by kernel_rfl) (by kernel_rfl) (fun _ _ _ h => h) (Or.inl ⟨by rfl, ?_⟩) hS0 ?_
          rotate_left
          · (intro w hSw; (try dsimp only at hSw); go_simp; try with_reducible rfl)
          simp only [List.getElem_toArray, List.getElem_cons_zero, List.getElem_cons_succ, Act.put, List.setIfInBounds_toArray, List.set_cons_zero, List.set_cons_succ]
          refine wpAnyH_ready (rs := [4]) (by kernel_rfl) (by simp) ?_
          refine AllReadyH.cons rfl (fun K hK => ?_) AllReadyH.nil
          rw [if_pos (show Region.wanted _ _ = true from by rfl)]
          refine wp_store_row 27 _ _ rfl z #[Value.slice none 0 0, .slice none 0 0, .slice none 0 0, .slice none 0 0, .slice none 0 0, .int .i64 0] rfl rfl 27 _ (hS0.2.1) (by kernel_rfl) rfl (by kernel_rfl) ?_
          rw [setRow_same (hS0.2.1)]
          refine hK.out _ _ hS0 (fun _ => ?_)
          clear hK K
          simp only [List.getElem_toArray, List.getElem_cons_zero, List.getElem_cons_succ, Act.put, List.setIfInBounds_toArray, List.set_cons_zero, List.set_cons_succ]
          refine wpAnyH_ready (rs := [5]) (by kernel_rfl) (by simp) ?_
          refine AllReadyH.cons rfl (fun K hK => ?_) AllReadyH.nil
          rw [if_pos (show Region.wanted _ _ = true from by rfl)]
          refine wp_store_row 34 _ _ rfl (z + 1) #[Value.int .i64 (C.1 : Int), .int .i64 0] rfl rfl 34 _ hF50_0 (by kernel_rfl) rfl (by kernel_rfl) ?_
          refine hK.out _ _ ⟨(by first | exact below_setRow hS0.1 (by omega) _ | exact hS0.1.setRow_far (by omega) _ | exact (World.cell?_of_block (setRow_block _ _ _ _ (by first | omega | (dsimp only; omega)))).trans hS0.1 | exact hS0.1.only (only_setRow _ _ _) (fun k e => by (have e : k = _ := e); omega)), (by first | exact below_setRow hS0.2.1 (by omega) _ | exact hS0.2.1.setRow_far (by omega) _ | exact (World.cell?_of_block (setRow_block _ _ _ _ (by first | omega | (dsimp only; omega)))).trans hS0.2.1 | exact hS0.2.1.only (only_setRow _ _ _) (fun k e => by (have e : k = _ := e); omega)), (by first | exact below_setRow hS0.2.2 (by omega) _ | exact hS0.2.2.setRow_far (by omega) _ | exact (World.cell?_of_block (setRow_block _ _ _ _ (by first | omega | (dsimp only; omega)))).trans hS0.2.2 | exact hS0.2.2.only (only_setRow _ _ _) (fun k e => by (have e : k = _ := e); omega))⟩ (fun hS1 => ?_)
          clear hK K
          have hF50_1 := hF50_0.setRow #[Value.int .i64 (C.1 : Int), .int .i64 0]
          clear hS0
          generalize v0.setRow (z + 1) #[Value.int .i64 (C.1 : Int), .int .i64 0] = v1 at *
          simp only [List.getElem_toArray, List.getElem_cons_zero, List.getElem_cons_succ, Act.put, List.setIfInBounds_toArray, List.set_cons_zero, List.set_cons_succ]
          refine wpAnyH_done (by kernel_rfl) ?_ _
          have kx := hS1.1
          have hZ5 := hS1.2.1
          have hz5 := hS1.2.2
          clear hS1
          have hF50 := hF50_1
          go_wp2_with fail
          refine bodyPost_ret (results_cc rfl rfl hZ5 Tryd.underlying27 rfl (by kernel_rfl) rfl hF50 Tryd.underlying34 rfl (by kernel_rfl)) rfl ?_
          refine ⟨by rw [hzz]; exact hz5, ?_⟩
          rw [EW.out, if_pos HC.out]
          rfl
      · have hmk := mk_no p (p * 8192) po T.ps.length pc (psA T.ps) pO (psN T.ps) pCp (psB T.ps) wr hpr rfl hnp hPB hfit
        have EW : Hid (parW T = .inl (1, 0)) := by unfold Hid parW; rw [hp, hbd]; dsimp only; rw [if_neg hfit]
        clear hp hbd hfit hPB hnp hpr
        go_wp2_with fail
        refine hmk.mono ?_
        clear hmk
        rintro e w3 ⟨q, rfl, hb3⟩
        have hG0 : Blk (w3.alloc (.cells #[Value.int .i64 0, .int .i64 0] 34)) w3.heap.size 34 #[Value.int .i64 0, .int .i64 0] := Blk.new _ _ _
        have sR := setRow_new w3 #[Value.int .i64 0, .int .i64 0] #[.int .i64 1, .int .i64 (q : Int)] 34
        have hG1 : Blk (w3.alloc (.cells #[.int .i64 1, .int .i64 (q : Int)] 34)) w3.heap.size 34 #[.int .i64 1, .int .i64 (q : Int)] := Blk.new _ _ _
        have kf : (w3.alloc (.cells #[.int .i64 1, .int .i64 (q : Int)] 34)).cell? ⟨w3.heap.size, 0, none⟩ = some (.int .i64 1) := hG1.cell 0
        have hww : Below wr.heap.size wr (w3.alloc (.cells #[.int .i64 1, .int .i64 (q : Int)] 34)) := hb3.trans ((Bl.alloc (Below.refl w3.heap.size w3) _).mono hb3.size)
        clear c0 c2 hl1 hl2 hZ hF hF8 hb3 hG1
        go_upto_region 6 with (first | (refine wpList_store_row rfl 34 _ _ rfl w3.heap.size #[.int .i64 1, .int .i64 (q : Int)] rfl rfl 34 _ hG0 (by kernel_rfl) rfl (by kernel_rfl) ?_; rw [sR]))
        clear sR hG0
        generalize w3.alloc (.cells #[.int .i64 1, .int .i64 (q : Int)] 34) = wa at *
        generalize w3.heap.size = gf at *
        have hZa := HZ.out.below hww HZ.out.lt
        have hF8a := (HF.out.below hww HF.out.lt).setRow_far (g' := z) (by omega) #[Value.slice none 0 0, .slice none 0 0, .slice none 0 0, .slice none 0 0, .slice none 0 0, .int .i64 0]
        have hbw : Hid (Below z w ((wa.setRow z #[Value.slice none 0 0, .slice none 0 0, .slice none 0 0, .slice none 0 0, .slice none 0 0, .int .i64 0]).setRow (z + 1) #[Value.int .i64 1, .int .i64 0])) := below_setRow (below_setRow (HB0.out.trans (hww.mono (by have := HB0.out.size; omega))) (Nat.le_refl _) _) (by omega) _
        clear hww
        go_wp2_with (first | (refine wpList_store_row rfl 27 _ _ rfl z #[Value.slice none 0 0, .slice none 0 0, .slice none 0 0, .slice none 0 0, .slice none 0 0, .int .i64 0] rfl rfl 27 _ hZa (by kernel_rfl) rfl (by kernel_rfl) ?_) | (refine wpList_store_row rfl 34 _ _ rfl (z + 1) #[Value.int .i64 1, .int .i64 0] rfl rfl 34 _ hF8a (by kernel_rfl) rfl (by kernel_rfl) ?_))
        refine bodyPost_ret (results_cc rfl rfl ((hZa.setRow #[Value.slice none 0 0, .slice none 0 0, .slice none 0 0, .slice none 0 0, .slice none 0 0, .int .i64 0]).setRow_far (by omega) _) Tryd.underlying27 rfl (by kernel_rfl) rfl (hF8a.setRow _) Tryd.underlying34 rfl (by kernel_rfl)) rfl ?_
        refine ⟨by rw [hzz]; exact hbw.out, ?_⟩
        rw [EW.out]
        rfl
end Go.Proofs.YtdhdknjefjolpaaDoor
end
