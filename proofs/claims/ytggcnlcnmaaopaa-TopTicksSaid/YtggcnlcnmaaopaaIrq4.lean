/-
  irq.Choose.
-/
import Derived.Test.YtggcnlcnmaaopaaIrq3
import Derived.Test.YtggcnlcnmaaopaaObit
namespace Go.Proofs.Ytggcnlcnmaaopaa
set_option linter.unusedSimpArgs false
set_option linter.unusedVariables false
set_option maxRecDepth 10000
open Go.RowKit Go.Shelf Pl
attribute [local go_sem] Oper.semAt_some

/-- Is this one let in? -/
def chK (r m u i j k : Bool) (d x : Nat) : Bool := lkB r m u i j x && (decide (x < 3) || (!k && !tb d (5 - (x : Int))))
def chF (r m u i j k : Bool) (d : Nat) : Kd → Bool := fun x => chK r m u i j k d x.1
/-- The first of a list that is let in. -/
def chL (f : Kd → Bool) (l : List Kd) : Nat := match l.find? f with | some x => x.1 | none => 0
theorem find_snoc {f : Kd → Bool} {l : List Kd} (x : Kd) (h : l.find? f = none) : (l ++ [x]).find? f = if f x then some x else none := by
  rw [List.find?_append, h]
  cases hf : f x <;> simp [hf]
theorem find_pre {f : Kd → Bool} {l t : List Kd} {x : Kd} (h : l.find? f = some x) (hp : l <+: t) : chL f t = chL f l := by
  obtain ⟨s, rfl⟩ := hp
  unfold chL
  rw [List.find?_append, h]
  rfl
theorem qv_own {β : Type} (o : Option Addr) (d : Nat) (u : Bool) : Own (fun (_ : β) W => QV W o d u) := fun s X Y row hs hg hrow => by
  rcases hs with h | ⟨g, e, h⟩
  · exact .inl h
  · exact .inr ⟨g, e, (blk_own g 88 (fun _ : β => #[.int .u8 (d : Int), .bool u])) s X Y row h hg hrow⟩
theorem results_cell1 {P : Program} {fn : Func} {p : Tmp} {ty : TypeId} {tmps : Array Value} {w : World} {g : Nat} {v : Value} (h : fn.results = #[.cell p ty]) (hp : tmps.getD p undef = .pointer (some ⟨g, 0, none⟩)) (hc : w.cell? ⟨g, 0, none⟩ = some v)
    (hag : ∀ w, (isAgg ty).run P w = .ok false w) : (results fn tmps).run P w = .ok v w := by
  have hp' : tmps[p]?.getD undef = .pointer (some ⟨g, 0, none⟩) := by simpa using hp
  simp [results, h, hp', asAddr, loadVar, Sem.run_bind, hag, Result.andThen, go_sem, hc]
theorem agg_u8 : ∀ w, (isAgg 5).run Try.prog w = .ok false w := fun w => by
  unfold isAgg
  rw [Sem.run_bind, run_underlying Try.underlying5 w]
  rfl
set_option maxRecDepth 100000 in
set_option maxHeartbeats 1000000 in
theorem iqChoose_calls (o : Option Addr) (d : Nat) (u r m i j k : Bool) (w : World) (hd : d < 256) (hI : QV w o d u) :
    Calls Try.prog 41 #[.pointer o, .agg #[.bool r, .bool m, .bool i, .bool j], .bool k] w fun e w' => e = .returned (.int .u8 (chL (chF r m u i j k d) (kL 5) : Nat)) ∧ Below w.heap.size w w' := by
  obtain ⟨f, hf⟩ : ∃ f, f = chF r m u i j k d := ⟨_, rfl⟩
  rw [← hf]
  have hfx : ∀ x : Kd, f x = (lkB r m u i j x.1 && (decide (x.1 < 3) || (!k && !tb d (5 - (x.1 : Int))))) := fun x => by rw [hf]; rfl
  clear hf
  refine (callsIn_wide (n := 3)).1 ?_
  refine callsIn_of_wp_marks Try.func41 rfl trivial ?_ rfl
  simp only [Try.ntmps41, List.size_toArray, List.length_cons, List.length_nil, Nat.reduceAdd, Nat.reduceSub, Array.replicate_succ, Array.replicate_zero, List.push_toArray, List.append_toArray, List.nil_append, List.cons_append]
  gi_wp2_with fail
  have hQ0 : Blk ((((w.alloc (.cells #[.pointer o] 53)).alloc (.cells #[.bool r, .bool m, .bool i, .bool j] 77)).alloc (.cells #[.bool k] 4)).alloc (.cells #[.int .u8 0] 5)) w.heap.size 53 #[.pointer o] := (((Blk.new w _ _).alloc _).alloc _).alloc _
  have hM0 : Blk ((((w.alloc (.cells #[.pointer o] 53)).alloc (.cells #[.bool r, .bool m, .bool i, .bool j] 77)).alloc (.cells #[.bool k] 4)).alloc (.cells #[.int .u8 0] 5)) (w.heap.size + 1 + 1) 4 #[.bool k] := (Blk.newAt (by simp)).alloc _
  have hR0 : Blk ((((w.alloc (.cells #[.pointer o] 53)).alloc (.cells #[.bool r, .bool m, .bool i, .bool j] 77)).alloc (.cells #[.bool k] 4)).alloc (.cells #[.int .u8 0] 5)) (w.heap.size + 1 + 1 + 1) 5 #[.int .u8 0] := Blk.newAt (by simp)
  have hV0 : QV ((((w.alloc (.cells #[.pointer o] 53)).alloc (.cells #[.bool r, .bool m, .bool i, .bool j] 77)).alloc (.cells #[.bool k] 4)).alloc (.cells #[.int .u8 0] 5)) o d u := (((hI.alloc _).alloc _).alloc _).alloc _
  have hb0 : Below w.heap.size w ((((w.alloc (.cells #[.pointer o] 53)).alloc (.cells #[.bool r, .bool m, .bool i, .bool j] 77)).alloc (.cells #[.bool k] 4)).alloc (.cells #[.int .u8 0] 5)) := by (repeat (first | exact Below.refl _ _ | assumption | refine Below.drew ?_ | refine Bl.alloc ?_ _ | refine below_drewN ?_ _ | refine Bl.chain ?_ (by assumption) (Nat.le_refl _)))
  have hs0 : ((((w.alloc (.cells #[.pointer o] 53)).alloc (.cells #[.bool r, .bool m, .bool i, .bool j] 77)).alloc (.cells #[.bool k] 4)).alloc (.cells #[.int .u8 0] 5)).heap.size = w.heap.size + 1 + 1 + 1 + 1 := by simp
  generalize ((((w.alloc (.cells #[.pointer o] 53)).alloc (.cells #[.bool r, .bool m, .bool i, .bool j] 77)).alloc (.cells #[.bool k] 4)).alloc (.cells #[.int .u8 0] 5)) = w0 at *
  generalize hBo : w.heap.size = Bo at *
  refine ⟨trivial, (callsIn_wide.2 (iqAsks_calls o d u r m i j _ hV0)).mono ?_⟩
  rintro e w2 ⟨rfl, hb2⟩
  have hQ2 := hQ0.below hb2 (by omega)
  have hM2 := hM0.below hb2 (by omega)
  have hR2 := hR0.below hb2 (by omega)
  have hV2 := hV0.below hb2 (by omega)
  have hs2 := hb2.size
  have hb02 := hb0.trans (hb2.mono (by omega))
  clear hb2 hb0 hQ0 hM0 hR0 hV0
  unfold askA
  gi_wp2_with fail
  have hL3 : Blk (w2.alloc (.cells #[.bool false, .bool r, .bool m, .bool u, .bool i, .bool j] 101)) w2.heap.size 101 (askA r m u i j) := Blk.new _ _ _
  have hQ3 : Blk (w2.alloc (.cells #[.bool false, .bool r, .bool m, .bool u, .bool i, .bool j] 101)) Bo 53 #[.pointer o] := hQ2.alloc _
  have hM3 : Blk (w2.alloc (.cells #[.bool false, .bool r, .bool m, .bool u, .bool i, .bool j] 101)) (Bo + 1 + 1) 4 #[.bool k] := hM2.alloc _
  have hR3 : Blk (w2.alloc (.cells #[.bool false, .bool r, .bool m, .bool u, .bool i, .bool j] 101)) (Bo + 1 + 1 + 1) 5 #[.int .u8 0] := hR2.alloc _
  have hV3 : QV (w2.alloc (.cells #[.bool false, .bool r, .bool m, .bool u, .bool i, .bool j] 101)) o d u := hV2.alloc _
  have hb3 : Below Bo w (w2.alloc (.cells #[.bool false, .bool r, .bool m, .bool u, .bool i, .bool j] 101)) := hb02.alloc (by omega) _
  have hs3 : (w2.alloc (.cells #[.bool false, .bool r, .bool m, .bool u, .bool i, .bool j] 101)).heap.size = w2.heap.size + 1 := by simp
  generalize (w2.alloc (.cells #[.bool false, .bool r, .bool m, .bool u, .bool i, .bool j] 101)) = w3 at *
  generalize w2.heap.size = G at *
  clear hQ2 hM2 hR2 hV2 hb02
  refine wpIn_rangeFunc_ownG rfl (by decide) (gf := 55) (lb := #[]) rfl trivial (enters_of Try.func55 (by kernel_rfl) rfl)
    (kinds_stops 2 w3) (fun _ _ => trivial) (fun _ _ _ _ _ _ _ _ => trivial) (Below.refl _ _) (fun _ => rfl)
    (fun pre W => pre.find? f = none ∧ Blk W Bo 53 #[.pointer o] ∧ Blk W (Bo + 1 + 1) 4 #[.bool k] ∧ Blk W (Bo + 1 + 1 + 1) 5 #[.int .u8 0] ∧ QV W o d u ∧ Blk W G 101 (askA r m u i j) ∧ Below Bo w W)
    (fun c pre W => c = .ret ∧ (∃ x, pre.find? f = some x) ∧ Blk W (Bo + 1 + 1 + 1) 5 #[.int .u8 (chL f pre : Nat)] ∧ Below Bo w W)
    (OwnFrom.and (fun _ _ _ _ hs _ _ => hs) (OwnFrom.and (Own.from (blk_own Bo 53 (fun _ => #[.pointer o])) _) (OwnFrom.and (Own.from (blk_own (Bo + 1 + 1) 4 (fun _ => #[.bool k])) _) (OwnFrom.and (Own.from (blk_own (Bo + 1 + 1 + 1) 5 (fun _ => #[.int .u8 0])) _) (OwnFrom.and (Own.from (qv_own o d u) _) (OwnFrom.and (Own.from (blk_own G 101 (fun _ => askA r m u i j)) _) (ownFrom_below (by omega) (by omega))))))))
    (fun c => OwnFrom.and (fun _ _ _ _ hs _ _ => hs) (OwnFrom.and (fun _ _ _ _ hs _ _ => hs) (OwnFrom.and (Own.from (blk_own (Bo + 1 + 1 + 1) 5 (fun pre => #[.int .u8 (chL f pre : Nat)])) _) (ownFrom_below (by omega) (by omega)))))
    ⟨rfl, hQ3, hM3, hR3, hV3, hL3, hb3⟩
    (fun x => { tmps := #[.pointer o, .agg #[.bool r, .bool m, .bool i, .bool j], .bool k, .pointer (some ⟨Bo, 0, none⟩), .pointer (some ⟨Bo + 1, 0, none⟩), .pointer (some ⟨Bo + 1 + 1, 0, none⟩), .pointer (some ⟨Bo + 1 + 1 + 1, 0, none⟩), .pointer (some ⟨G, 0, none⟩), .int .u8 (x.1 : Int), undef, .pointer o, .agg #[.bool r, .bool m, .bool i, .bool j], .agg #[.bool false, .bool r, .bool m, .bool u, .bool i, .bool j], .int .u8 (x.1 : Int), undef, undef, undef, undef, undef, undef, undef, undef, undef, undef, undef, undef, undef, undef, undef, undef, undef, undef, undef, undef, undef], defers := [] })
    ?assign ?body ?done ?stop
  case assign =>
    intro lp x W K hK
    gi_wp2_with fail
    exact hK
  case body =>
    rintro lp pre ⟨x, hx1, hx5⟩ W ⟨hn, hQ, hM, hR, hV, hL, hb⟩ _
    have hS := find_snoc ⟨x, hx1, hx5⟩ hn
    rw [hfx] at hS
    clear hfx
    dsimp only at hS
    have y0 : W.cell? ⟨Bo, 0, none⟩ = some (.pointer o) := hQ.cell 0
    have y1 : W.cell? ⟨Bo + 1 + 1, 0, none⟩ = some (.bool k) := hM.cell 0
    have y2 : W.cell? ⟨G, x, none⟩ = some (.bool (lkB r m u i j x)) := (hL.cell x).trans (askA_get _ _ _ _ _ x hx5)
    have y3 : W.frozen? ⟨Bo + 1 + 1 + 1, 0, none⟩ = false := hR.frozen 0
    have y4 : W.cell? ⟨Bo + 1 + 1 + 1, 0, none⟩ = some (.int .u8 0) := hR.cell 0
    have hx' : (x : Int) < 6 := by omega
    have hx2 : (decide ((6 : Int) ≤ (x : Int))) = false := by rw [decide_eq_false_iff_not]; omega
    generalize lkB r m u i j x = L at *
    dsimp only
    gi_wp2_with fail
    refine ⟨trivial, (callsIn_wide.2 (iqBit_calls x _)).mono ?_⟩
    rintro e w4 ⟨rfl, rfl⟩
    cases L with
    | false =>
      simp only [Bool.false_and, Bool.false_eq_true, if_false] at hS
      gi_wp2_with fail
      · rename_i hu _; cases hu
      · rename_i hu _; cases hu
      refine ⟨trivial, ?_⟩
      gi_wp2_with fail
      refine ⟨trivial, ?_⟩
      gi_wp2_with fail
      exact ⟨KeepsFrom.refl _ _, trivial, hS, hQ, hM, hR, hV, hL, hb⟩
    | true =>
      by_cases h3 : x < 3
      · have e2 : kBit x = -1 := if_pos (Or.inl h3)
        simp only [h3, decide_true, Bool.true_or, Bool.and_true, if_true] at hS
        rw [e2]
        clear e2
        have HS := hide hS
        clear hS
        gi_wp2_with fail
        · rename_i hu _; cases hu
        · rename_i hu _; cases hu
        refine ⟨trivial, ?_⟩
        gi_wp2_with fail
        refine ⟨trivial, ?_⟩
        gi_wp2_with fail
        have hch : chL f (pre ++ [⟨x, hx1, hx5⟩]) = x := by unfold chL; rw [HS.out]
        exact ⟨(KeepsOthers.setCell _ _ _).from _, rfl, ⟨_, HS.out⟩, by rw [hch]; exact Blk.set_ hR 0 _, hb.setCell (p := ⟨Bo + 1 + 1 + 1, 0, none⟩) (by show Bo ≤ Bo + 1 + 1 + 1; omega) _⟩
      · have e2 : kBit x = 5 - (x : Int) := if_neg (by omega)
        simp only [h3, decide_false, Bool.false_or, Bool.true_and] at hS
        rw [e2]
        clear e2
        have i0 : (decide (5 - (x : Int) < 0)) = false := by rw [decide_eq_false_iff_not]; omega
        cases k with
        | true =>
          simp only [Bool.not_true, Bool.false_and, Bool.false_eq_true, if_false] at hS
          gi_wp2_with fail
          refine ⟨trivial, ?_⟩
          gi_wp2_with fail
          refine ⟨trivial, ?_⟩
          gi_wp2_with fail
          exact ⟨KeepsFrom.refl _ _, trivial, hS, hQ, hM, hR, hV, hL, hb⟩
        | false =>
          have hc := octBit_calls d (5 - (x : Int)) W hd
          generalize tb d (5 - (x : Int)) = T at *
          gi_wp2_with fail
          refine ⟨trivial, (callsIn_wide.2 (qvDisable_calls o d u _ hV)).mono ?_⟩
          rintro e w5 ⟨rfl, rfl⟩
          gi_wp2_with fail
          refine ⟨trivial, (callsIn_wide.2 hc).mono ?_⟩
          rintro e w5 ⟨rfl, rfl⟩
          cases T with
          | true =>
            simp only [Bool.not_false, Bool.not_true, Bool.and_false, Bool.false_eq_true, if_false] at hS
            gi_wp2_with fail
            exact ⟨KeepsFrom.refl _ _, trivial, hS, hQ, hM, hR, hV, hL, hb⟩
          | false =>
            simp only [Bool.not_false, Bool.and_self, if_true] at hS
            have HS := hide hS
            clear hS
            gi_wp2_with fail
            have hch : chL f (pre ++ [⟨x, hx1, hx5⟩]) = x := by unfold chL; rw [HS.out]
            exact ⟨(KeepsOthers.setCell _ _ _).from _, rfl, ⟨_, HS.out⟩, by rw [hch]; exact Blk.set_ hR 0 _, hb.setCell (p := ⟨Bo + 1 + 1 + 1, 0, none⟩) (by show Bo ≤ Bo + 1 + 1 + 1; omega) _⟩
  case done =>
    rintro D ys W hD rfl ⟨hn, _, _, hR, _, _, hb⟩ hK
    have y0 : W.cell? ⟨Bo + 1 + 1 + 1, 0, none⟩ = some (.int .u8 0) := hR.cell 0
    have y1 : W.frozen? ⟨Bo + 1 + 1 + 1, 0, none⟩ = false := hR.frozen 0
    have hz : chL f (kL 5) = 0 := by unfold chL; rw [hn]
    have hK : (W.setCell ⟨Bo + 1 + 1 + 1, 0, none⟩ (.int .u8 0)).heap[D]? = some (.deferred (some [])) := (Below.heap_setCell W ⟨Bo + 1 + 1 + 1, 0, none⟩ (.int .u8 0) D (by show D ≠ Bo + 1 + 1 + 1; omega)).trans hK
    gi_wp2_with fail
    refine ⟨by simp, .inl ⟨_, _, rfl, run_takeDeferred hK, ?_⟩⟩
    rw [hBo, hz]
    have hR2 : Blk (W.setCell ⟨Bo + 1 + 1 + 1, 0, none⟩ (.int .u8 0)) (Bo + 1 + 1 + 1) 5 #[.int .u8 0] := hR.set_ 0 _
    have hb2 : Below Bo w (W.setCell ⟨Bo + 1 + 1 + 1, 0, none⟩ (.int .u8 0)) := hb.setCell (p := ⟨Bo + 1 + 1 + 1, 0, none⟩) (by show Bo ≤ Bo + 1 + 1 + 1; omega) _
    exact ⟨_, results_cell1 rfl rfl (Blk.cell ((blk_own (Bo + 1 + 1 + 1) 5 (fun _ : Unit => #[.int .u8 0])).putObj (s := ()) _ hR2 hK rfl) 0) agg_u8, rfl, hb2.trans (belowK_b (w := w) (by omega) _ D _ _ (by omega) hK rfl rfl)⟩
  case stop =>
    rintro D cc pre W hD hpre ⟨rfl, ⟨x, hx⟩, hR, hb⟩ hK
    have y0 : W.cell? ⟨Bo + 1 + 1 + 1, 0, none⟩ = some (.int .u8 (chL f pre : Nat)) := hR.cell 0
    gi_wp2_with fail
    refine ⟨by simp, .inl ⟨_, _, rfl, run_takeDeferred hK, ?_⟩⟩
    rw [find_pre hx hpre, hBo]
    exact ⟨_, results_cell1 rfl rfl (Blk.cell ((blk_own (Bo + 1 + 1 + 1) 5 (fun _ : Unit => #[.int .u8 (chL f pre : Nat)])).putObj (s := ()) _ hR hK rfl) 0) agg_u8, rfl, hb.trans (belowK_b (w := w) (by omega) _ D _ _ (by omega) hK rfl rfl)⟩
end Go.Proofs.Ytggcnlcnmaaopaa
