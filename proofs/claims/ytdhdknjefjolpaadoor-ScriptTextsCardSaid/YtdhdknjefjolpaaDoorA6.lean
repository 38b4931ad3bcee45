/-
  The texts Sc14 of the proofs about scripts, as one file (they are merged by a program).
-/
import Derived.Test.YtdhdknjefjolpaaDoorA5
import Derived.Test.YtdhdknjefjolpaaDoorA2
section
/-
  script.Until.
-/
namespace Go.Proofs.YtdhdknjefjolpaaDoor
set_option linter.unusedSimpArgs false
set_option linter.unusedVariables false
set_option maxRecDepth 10000
open Go.RowKit Go.Shelf Pl
theorem nums_setCells {W : World} {o : Option Addr} {n : Nat} {F : Nat → Int} {b k : Nat} {t : TypeId} {cs : Array Value} (h : NumsAt W .u8 o n F) (hB : Blk W b t cs) (hno : ∀ x, Value.int .u8 x ∉ cs.toList) (vs : List Value) : NumsAt (W.setCells b k vs) .u8 o n F := fun i hi => by
  obtain ⟨b', off, e, hlt, hc⟩ := h i hi
  have hne : b' ≠ b := by
    intro e
    subst e
    rw [cell_of_row W b' _ cs t (0, 0) hB] at hc
    rw [← Array.getElem?_toList] at hc
    exact hno _ (List.mem_of_getElem? hc)
  have ho := (only_setCells (S := fun x => x = b) (g := b) rfl vs k W (Only.refl _ _))
  exact ⟨b', off, e, by have := ho.size; omega, (World.cell?_of_block (ho.block b' hlt hne)).trans hc⟩
theorem edDelete_nil (c q : Nat) (t : Int) (w : World) (hq : w.cell? ⟨q, 0, none⟩ = some (.int .i64 t)) :
    Calls Tryd.prog 21 #[.slice none 0 c, .func (.func 23) #[] #[.pointer (some ⟨q, 0, none⟩)]] w
      fun e w' => e = .returned (.slice none 0 c) ∧ Below w.heap.size w w' := by
  have hix := edIndex_calls none 0 c q t (fun _ => 0) (fun _ => 0) (fun _ => false) w (by unfold maxLen; omega) (fun i hi => (Nat.not_lt_zero i hi).elim) hq
  clear hq
  go_enter Tryd.func21, Tryd.ntmps21
  go_wp2_with fail
  refine hix.mono ?_
  clear hix
  rintro e w1 (⟨k, hk, _⟩ | ⟨_, rfl, hb1⟩)
  · omega
  · have hkz : ((-1 : Int) == -1) = true := rfl
    go_wp2_with fail
    go_ret
    exact ⟨rfl, hb1⟩
theorem blk_there {W : World} {b o n : Nat} {t : TypeId} {cs : Array Value} (h : Blk W b t cs) (hn : o + n ≤ cs.size) : W.there b o n := fun j hj => by
  rw [h.cell (o + j)]
  exact ⟨by rw [Array.getElem?_eq_getElem (by omega)]; rfl, h.frozen _⟩
theorem nums_apart {W W' : World} {o : Option Addr} {n : Nat} {F : Nat → Int} {b : Nat} {t : TypeId} {cs : Array Value} (h : NumsAt W .u8 o n F) (hB : Blk W b t cs) (hno : ∀ x, Value.int .u8 x ∉ cs.toList) (ho : Only (fun k => k = b) W W') : NumsAt W' .u8 o n F := fun i hi => by
  obtain ⟨b', off, e, hlt, hc⟩ := h i hi
  have hne : b' ≠ b := by
    intro e
    subst e
    rw [cell_of_row W b' _ cs t (0, 0) hB] at hc
    rw [← Array.getElem?_toList] at hc
    exact hno _ (List.mem_of_getElem? hc)
  exact ⟨b', off, e, by have := ho.size; omega, (World.cell?_of_block (ho.block b' hlt hne)).trans hc⟩
theorem edg_apart {W W' : World} {a : Option Addr} {n : Nat} {St : Nat → Int} {Ln : Nat → Nat} {Up : Nat → Bool} {b : Nat} {t : TypeId} {cs : Array Value} {B : Nat} (h : EdgB W a n St Ln Up B) (hB : Blk W b t cs) (hno : ∀ x, Value.int .u8 x ∉ cs.toList) (ho : Only (fun k => k = b) W W') : EdgB W' a n St Ln Up B := fun i hi => by
  obtain ⟨b', f, h1, h2, h3, h4, h5⟩ := h i hi
  have hne : b' ≠ b := by
    intro e
    subst e
    rw [cell_of_row W b' _ cs t (0, 0) hB] at h4
    rw [← Array.getElem?_toList] at h4
    exact hno _ (List.mem_of_getElem? h4)
  have hbk := ho.block b' (cell_lt h3) hne
  exact ⟨b', f, h1, h2, (World.cell?_of_block hbk).trans h3, (World.cell?_of_block hbk).trans h4, (World.cell?_of_block hbk).trans h5⟩
theorem only_setRowB (w : World) (b : Nat) (cs : Array Value) : Only (fun k => k = b) w (w.setRow b cs) := ⟨by simp [World.setRow], by simp [World.setRow], by simp [World.setRow], by simp [World.setRow], fun k _ hk => setRow_block w b cs k hk⟩
/-- A clone of edges, what lies behind the stamp left out. -/
theorem edCut_calls (v : Value) (n q base : Nat) (t : Int) (St : Nat → Int) (Ln : Nat → Nat) (Up : Nat → Bool) (w : World) (hn : n ≤ 8796093021952) (hown : w.ownsRow base 31 3 v n (edL St Ln Up n)) (hq : w.cell? ⟨q, 0, none⟩ = some (.int .i64 t)) (hqg : q < base) (hbs : base ≤ w.heap.size) :
    Calls Tryd.prog 21 #[v, .func (.func 23) #[] #[.pointer (some ⟨q, 0, none⟩)]] w
      fun e w' => ∃ o c, e = .returned (.slice o (kp t St n).length c) ∧ (∀ x, o = some x → x.spot = none) ∧ EdgB w' o (kp t St n).length (fun x => St (kpF t St n x)) (fun x => Ln (kpF t St n x)) (fun x => Up (kpF t St n x)) w'.heap.size ∧ Below base w w' := by
  have h0 := hown
  obtain ⟨hl, ⟨rfl, rfl⟩ | ⟨g, cap, cur, rfl, hb, hh, _⟩⟩ := h0
  · refine (edDelete_nil 0 q t w hq).mono ?_
    rintro e w' ⟨rfl, hb⟩
    exact ⟨none, 0, rfl, fun _ h => (by cases h), fun i hi => (Nat.not_lt_zero i hi).elim, hb.mono hbs⟩
  · refine (edDelete_calls g n cap q base t St Ln Up w hn hown hq (by omega)).mono ?_
    rintro e w' ⟨rfl, ho, hO⟩
    exact ⟨_, cap, rfl, fun _ h => (by cases h; rfl), own_edges ho, hO.below hbs (fun k e => by cases e; exact hb)⟩
set_option maxRecDepth 100000 in
set_option maxHeartbeats 32000000 in
theorem until_calls (o o0 o1 o2 oe : Option Addr) (n c l0 c0 l1 c1 l2 c2 ne ce : Nat) (bud t : Int) (F F0 F1 F2 St : Nat → Int) (Ln : Nat → Nat) (Up : Nat → Bool) (w : World) (hn : n ≤ 140737488355328) (hn0 : l0 ≤ 140737488355328) (hn1 : l1 ≤ 140737488355328) (hn2 : l2 ≤ 140737488355328) (hne : ne ≤ 8796093021952)
    (f : NumsAt w .u8 o n F) (f0 : NumsAt w .u8 o0 l0 F0) (f1 : NumsAt w .u8 o1 l1 F1) (f2 : NumsAt w .u8 o2 l2 F2) (hE : EdgB w oe ne St Ln Up w.heap.size) :
    Calls Tryd.prog 8 #[.agg #[Value.slice o n c, Value.slice o0 l0 c0, Value.slice o1 l1 c1, Value.slice o2 l2 c2, Value.slice oe ne ce, Value.int .i64 bud], .int .i64 t] w fun e w' => ∃ p p0 p1 p2 pe d d0 d1 d2 de, e = .returned (.agg #[Value.slice p n d, Value.slice p0 l0 d0, Value.slice p1 l1 d1, Value.slice p2 l2 d2, Value.slice pe (kp t St ne).length de, Value.int .i64 bud]) ∧
      NumsAt w' .u8 p n F ∧ NumsAt w' .u8 p0 l0 F0 ∧ NumsAt w' .u8 p1 l1 F1 ∧ NumsAt w' .u8 p2 l2 F2 ∧ EdgB w' pe (kp t St ne).length (fun x => St (kpF t St ne x)) (fun x => Ln (kpF t St ne x)) (fun x => Up (kpF t St ne x)) w'.heap.size ∧ Below w.heap.size w w' := by
  have hb0 : Below w.heap.size w (((w.alloc (.cells #[Value.slice o n c, Value.slice o0 l0 c0, Value.slice o1 l1 c1, Value.slice o2 l2 c2, Value.slice oe ne ce, Value.int .i64 bud] 27)).alloc (.cells #[.int .i64 t] 2)).alloc (.cells #[.slice none 0 0, .slice none 0 0, .slice none 0 0, .slice none 0 0, .slice none 0 0, .int .i64 0] 27)) := Bl.alloc (Bl.alloc (Bl.alloc (Below.refl _ _) _) _) _
  have hB : Blk (((w.alloc (.cells #[Value.slice o n c, Value.slice o0 l0 c0, Value.slice o1 l1 c1, Value.slice o2 l2 c2, Value.slice oe ne ce, Value.int .i64 bud] 27)).alloc (.cells #[.int .i64 t] 2)).alloc (.cells #[.slice none 0 0, .slice none 0 0, .slice none 0 0, .slice none 0 0, .slice none 0 0, .int .i64 0] 27)) w.heap.size 27 #[Value.slice o n c, Value.slice o0 l0 c0, Value.slice o1 l1 c1, Value.slice o2 l2 c2, Value.slice oe ne ce, Value.int .i64 bud] := ((Blk.new w _ _).alloc _).alloc _
  have hq : Blk (((w.alloc (.cells #[Value.slice o n c, Value.slice o0 l0 c0, Value.slice o1 l1 c1, Value.slice o2 l2 c2, Value.slice oe ne ce, Value.int .i64 bud] 27)).alloc (.cells #[.int .i64 t] 2)).alloc (.cells #[.slice none 0 0, .slice none 0 0, .slice none 0 0, .slice none 0 0, .slice none 0 0, .int .i64 0] 27)) (w.heap.size + 1) 2 #[.int .i64 t] := (Blk.newAt (by simp)).alloc _
  have hR : Blk (((w.alloc (.cells #[Value.slice o n c, Value.slice o0 l0 c0, Value.slice o1 l1 c1, Value.slice o2 l2 c2, Value.slice oe ne ce, Value.int .i64 bud] 27)).alloc (.cells #[.int .i64 t] 2)).alloc (.cells #[.slice none 0 0, .slice none 0 0, .slice none 0 0, .slice none 0 0, .slice none 0 0, .int .i64 0] 27)) (w.heap.size + 2) 27 #[.slice none 0 0, .slice none 0 0, .slice none 0 0, .slice none 0 0, .slice none 0 0, .int .i64 0] := Blk.newAt (by simp)
  have g := f.below hb0 (Nat.le_refl _)
  have g0 := f0.below hb0 (Nat.le_refl _)
  have g1 := f1.below hb0 (Nat.le_refl _)
  have g2 := f2.below hb0 (Nat.le_refl _)
  have gE := hE.low hb0
  clear f f0 f1 f2 hE
  go_enter Tryd.func8, Tryd.ntmps8
  go_wp2_with fail
  generalize hrz : w.heap.size + 1 + 1 = r at *
  have hr2 : w.heap.size + 2 = r := by omega
  (try rw [hr2] at hR)
  generalize ((w.alloc (.cells #[Value.slice o n c, Value.slice o0 l0 c0, Value.slice o1 l1 c1, Value.slice o2 l2 c2, Value.slice oe ne ce, Value.int .i64 bud] 27)).alloc (.cells #[.int .i64 t] 2)).alloc (.cells #[.slice none 0 0, .slice none 0 0, .slice none 0 0, .slice none 0 0, .slice none 0 0, .int .i64 0] 27) = v1 at *
  refine (slClone_calls o n c F v1 hn g).mono ?_
  rintro e v2 ⟨p, d, rfl, n2, hb2⟩
  have hB2 := hB.below hb2 hB.lt
  have hq2 := hq.below hb2 hq.lt
  have hR2 := hR.below hb2 hR.lt
  have m0 := g0.below hb2 (Nat.le_refl _)
  have m1 := g1.below hb2 (Nat.le_refl _)
  have m2 := g2.below hb2 (Nat.le_refl _)
  have mE := gE.low hb2
  have hb02 := hb0.trans (hb2.mono hb0.size)
  have hf2 := hB2.frozen 0
  have hk0 : v2.cell? ⟨w.heap.size, 0, none⟩ = some (.slice o n c) := hB2.cell 0
  have HH : Hid (NumsAt v2 .u8 p n F ∧ Blk v2 w.heap.size 27 #[Value.slice o n c, Value.slice o0 l0 c0, Value.slice o1 l1 c1, Value.slice o2 l2 c2, Value.slice oe ne ce, Value.int .i64 bud] ∧ Blk v2 (w.heap.size + 1) 2 #[.int .i64 t] ∧ Blk v2 r 27 #[.slice none 0 0, .slice none 0 0, .slice none 0 0, .slice none 0 0, .slice none 0 0, .int .i64 0] ∧ NumsAt v2 .u8 o0 l0 F0 ∧ NumsAt v2 .u8 o1 l1 F1 ∧ NumsAt v2 .u8 o2 l2 F2 ∧ EdgB v2 oe ne St Ln Up w.heap.size ∧ Below w.heap.size w v2) := ⟨n2, hB2, hq2, hR2, m0, m1, m2, mE, hb02⟩
  clear g g0 g1 g2 gE hb0 hB hq hR n2 hB2 hq2 hR2 m0 m1 m2 mE hb02 hb2
  go_wp2_with fail
  obtain ⟨n2, hB2, hq2, hR2, m0, m1, m2, mE, hb02⟩ := HH.out
  clear HH hf2 hk0
  have no0 : ∀ x, Value.int .u8 x ∉ (#[Value.slice o n c, Value.slice o0 l0 c0, Value.slice o1 l1 c1, Value.slice o2 l2 c2, Value.slice oe ne ce, Value.int .i64 bud] : Array Value).toList := by simp
  have nn := nums_setCells (k := 0) n2 hB2 no0 [.slice p n d]
  have mm0 := nums_setCells (k := 0) m0 hB2 no0 [.slice p n d]
  have mm1 := nums_setCells (k := 0) m1 hB2 no0 [.slice p n d]
  have mm2 := nums_setCells (k := 0) m2 hB2 no0 [.slice p n d]
  have hO := Only.setCell (S := fun k => k = w.heap.size) (Only.refl _ v2) ⟨w.heap.size, 0, none⟩ rfl (.slice p n d)
  have hB3 := Blk.set_ hB2 0 (.slice p n d)
  have hq3 := hq2.only hO (by simp)
  have hR3 := hR2.only hO (by omega)
  have mE3 : EdgB (v2.setCell ⟨w.heap.size, 0, none⟩ (.slice p n d)) oe ne St Ln Up w.heap.size := fun i hi => by
    obtain ⟨b, f, h1, h2, h3, h4, h5⟩ := mE i hi
    have hbk := hO.block b (cell_lt h3) (by omega)
    exact ⟨b, f, h1, h2, (World.cell?_of_block hbk).trans h3, (World.cell?_of_block hbk).trans h4, (World.cell?_of_block hbk).trans h5⟩
  have hb3 := hb02.trans (hO.below (B := w.heap.size) hb02.size (fun k e => by rw [e]; exact Nat.le_refl _))
  change Blk _ _ _ #[Value.slice p n d, Value.slice o0 l0 c0, Value.slice o1 l1 c1, Value.slice o2 l2 c2, Value.slice oe ne ce, Value.int .i64 bud] at hB3
  change NumsAt (v2.setCell ⟨w.heap.size, 0, none⟩ (.slice p n d)) _ _ _ _ at nn
  change NumsAt (v2.setCell ⟨w.heap.size, 0, none⟩ (.slice p n d)) _ _ _ _ at mm0
  change NumsAt (v2.setCell ⟨w.heap.size, 0, none⟩ (.slice p n d)) _ _ _ _ at mm1
  change NumsAt (v2.setCell ⟨w.heap.size, 0, none⟩ (.slice p n d)) _ _ _ _ at mm2
  clear n2 m0 m1 m2 hO hB2 hq2 hR2 mE hb02 no0
  generalize v2.setCell ⟨w.heap.size, 0, none⟩ (.slice p n d) = v3 at *
  have k1 : v3.cell? ⟨w.heap.size, 1, none⟩ = some (.slice o0 l0 c0) := hB3.cell 1
  have k2 : v3.cell? ⟨w.heap.size, 2, none⟩ = some (.slice o1 l1 c1) := hB3.cell 2
  have k3 : v3.cell? ⟨w.heap.size, 3, none⟩ = some (.slice o2 l2 c2) := hB3.cell 3
  have no1 : Hid (∀ x, Value.int .u8 x ∉ (#[Value.slice p n d, Value.slice o0 l0 c0, Value.slice o1 l1 c1, Value.slice o2 l2 c2, Value.slice oe ne ce, Value.int .i64 bud] : Array Value).toList) := by simp [Hid]
  generalize hsz : w.heap.size = s at *
  refine wp_region_held_drew (S := fun W => NumsAt W .u8 p n F ∧ NumsAt W .u8 o0 l0 F0 ∧ NumsAt W .u8 o1 l1 F1 ∧ NumsAt W .u8 o2 l2 F2 ∧ Blk W (s + 1) 2 #[.int .i64 t] ∧ Blk W r 27 #[.slice none 0 0, .slice none 0 0, .slice none 0 0, .slice none 0 0, .slice none 0 0, .int .i64 0] ∧ EdgB W oe ne St Ln Up s ∧ Below s w W) (by kernel_rfl) ⟨(by first | exact nn.drew | exact nn | exact Below.drew nn), (by first | exact mm0.drew | exact mm0 | exact Below.drew mm0), (by first | exact mm1.drew | exact mm1 | exact Below.drew mm1), (by first | exact mm2.drew | exact mm2 | exact Below.drew mm2), (by first | exact hq3.drew | exact hq3 | exact Below.drew hq3), (by first | exact hR3.drew | exact hR3 | exact Below.drew hR3), (by first | exact mE3.drew | exact mE3 | exact Below.drew mE3), (by first | exact hb3.drew | exact hb3 | exact Below.drew hb3)⟩ (fun hS0 => ?_)
  have hB3_0 : Blk v3.drew s 27 #[Value.slice p n d, Value.slice o0 l0 c0, Value.slice o1 l1 c1, Value.slice o2 l2 c2, Value.slice oe ne ce, Value.int .i64 bud] := by first | exact hB3.drew | exact hB3
  have k1_0 : v3.drew.cell? ⟨s, 1, none⟩ = some (.slice o0 l0 c0) := by first | exact k1.drew | exact k1
  have k2_0 : v3.drew.cell? ⟨s, 2, none⟩ = some (.slice o1 l1 c1) := by first | exact k2.drew | exact k2
  have k3_0 : v3.drew.cell? ⟨s, 3, none⟩ = some (.slice o2 l2 c2) := by first | exact k3.drew | exact k3
  clear nn mm0 mm1 mm2 hq3 hR3 mE3 hb3 hB3 k1 k2 k3
  change wpAnyH _ _ _ _ _ 15 #[false, false, false, false, false, false, false, false, false, false, false, false, false, false, false] _ _
  generalize v3.drew = v0 at *
  refine wpAnyH_take (i := 0) (v := ?_) rfl (by kernel_rfl) (by kernel_rfl) (by kernel_rfl) (fun _ _ _ h => h) (Or.inl ⟨by rfl, ?_⟩) hS0 ?_
  rotate_left
  · (intro w hSw; (try dsimp only at hSw); go_simp; try with_reducible rfl)
  simp only [List.getElem_toArray, List.getElem_cons_zero, List.getElem_cons_succ, Act.put, List.setIfInBounds_toArray, List.set_cons_zero, List.set_cons_succ]
  refine wpAnyH_take (i := 1) (v := ?_) rfl (by kernel_rfl) (by kernel_rfl) (by kernel_rfl) (fun _ _ _ h => h) (Or.inl ⟨by rfl, ?_⟩) hS0 ?_
  rotate_left
  · (intro w hSw; (try dsimp only at hSw); go_simp; try with_reducible rfl)
  simp only [List.getElem_toArray, List.getElem_cons_zero, List.getElem_cons_succ, Act.put, List.setIfInBounds_toArray, List.set_cons_zero, List.set_cons_succ]
  refine wpAnyH_take (i := 4) (v := ?_) rfl (by kernel_rfl) (by kernel_rfl) (by kernel_rfl) (fun _ _ _ h => h) (Or.inl ⟨by rfl, ?_⟩) hS0 ?_
  rotate_left
  · (intro w hSw; (try dsimp only at hSw); go_simp; try with_reducible rfl)
  simp only [List.getElem_toArray, List.getElem_cons_zero, List.getElem_cons_succ, Act.put, List.setIfInBounds_toArray, List.set_cons_zero, List.set_cons_succ]
  refine wpAnyH_take (i := 5) (v := ?_) rfl (by kernel_rfl) (by kernel_rfl) (by kernel_rfl) (fun _ _ _ h => h) (Or.inl ⟨by rfl, ?_⟩) hS0 ?_
  rotate_left
  · (intro w hSw; (try dsimp only at hSw); go_simp; try with_reducible rfl)
  simp only [List.getElem_toArray, List.getElem_cons_zero, List.getElem_cons_succ, Act.put, List.setIfInBounds_toArray, List.set_cons_zero, List.set_cons_succ]
  refine wpAnyH_take (i := 8) (v := ?_) rfl (by kernel_rfl) (by kernel_rfl) (by kernel_rfl) (fun _ _ _ h => h) (Or.inl ⟨by rfl, ?_⟩) hS0 ?_
  rotate_left
  · (intro w hSw; (try dsimp only at hSw); go_simp; try with_reducible rfl)
  simp only [List.getElem_toArray, List.getElem_cons_zero, List.getElem_cons_succ, Act.put, List.setIfInBounds_toArray, List.set_cons_zero, List.set_cons_succ]
  refine wpAnyH_take (i := 9) (v := ?_) rfl (by kernel_rfl) (by kernel_rfl) (by kernel_rfl) (fun _ _ _ h => h) (Or.inl ⟨by rfl, ?_⟩) hS0 ?_
  rotate_left
  · (intro w hSw; (try dsimp only at hSw); go_simp; try with_reducible rfl)
  simp only [List.getElem_toArray, List.getElem_cons_zero, List.getElem_cons_succ, Act.put, List.setIfInBounds_toArray, List.set_cons_zero, List.set_cons_succ]
  refine wpAnyH_ready (rs := [2, 6, 10]) (by kernel_rfl) (by simp) ?_
  refine AllReadyH.cons rfl (fun K hK => ?_) ?_
  · -- load 2
    go_simp
    refine hK.out _ _ hS0 (fun _ => ?_)
    clear hK K
    simp only [List.getElem_toArray, List.getElem_cons_zero, List.getElem_cons_succ, Act.put, List.setIfInBounds_toArray, List.set_cons_zero, List.set_cons_succ]
    refine wpAnyH_ready (rs := [3, 6, 10]) (by kernel_rfl) (by simp) ?_
    refine AllReadyH.cons rfl (fun K hK => ?_) ?_
    · -- call 3
      go_simp
      refine (slClone_calls o0 l0 c0 F0 _ hn0 hS0.2.1).mono ?_
      rintro e v1 ⟨p0, d0, rfl, a0, hb1⟩
      (try go_simp)
      refine hK.out _ _ ⟨(hS0.1.below hb1 (Nat.le_refl _)), (hS0.2.1.below hb1 (Nat.le_refl _)), (hS0.2.2.1.below hb1 (Nat.le_refl _)), (hS0.2.2.2.1.below hb1 (Nat.le_refl _)), (hS0.2.2.2.2.1.below hb1 hS0.2.2.2.2.1.lt), (hS0.2.2.2.2.2.1.below hb1 hS0.2.2.2.2.2.1.lt), (by first | exact hS0.2.2.2.2.2.2.1.low hb1 | exact hS0.2.2.2.2.2.2.1.below hb1 (Nat.le_refl _)), (by first | exact hS0.2.2.2.2.2.2.2.trans (hb1.mono hS0.2.2.2.2.2.2.2.size) | exact hS0.2.2.2.2.2.2.2.trans (hb1.mono (by have := hS0.2.2.2.2.2.2.2.size; omega)))⟩ (fun hS1 => ?_)
      clear hK K
      have hB3_1 : Blk v1 s 27 #[Value.slice p n d, Value.slice o0 l0 c0, Value.slice o1 l1 c1, Value.slice o2 l2 c2, Value.slice oe ne ce, Value.int .i64 bud] := (hB3_0.below hb1 hB3_0.lt)
      have k1_1 : v1.cell? ⟨s, 1, none⟩ = some (.slice o0 l0 c0) := ((hb1.cell (cell_lt k1_0)).trans k1_0)
      have k2_1 : v1.cell? ⟨s, 2, none⟩ = some (.slice o1 l1 c1) := ((hb1.cell (cell_lt k2_0)).trans k2_0)
      have k3_1 : v1.cell? ⟨s, 3, none⟩ = some (.slice o2 l2 c2) := ((hb1.cell (cell_lt k3_0)).trans k3_0)
      have hT : NumsAt v1 .u8 p n F ∧ NumsAt v1 .u8 o0 l0 F0 ∧ NumsAt v1 .u8 o1 l1 F1 ∧ NumsAt v1 .u8 o2 l2 F2 ∧ Blk v1 (s + 1) 2 #[.int .i64 t] ∧ Blk v1 r 27 #[.slice none 0 0, .slice none 0 0, .slice none 0 0, .slice none 0 0, .slice none 0 0, .int .i64 0] ∧ EdgB v1 oe ne St Ln Up s ∧ Below s w v1 ∧ NumsAt v1 .u8 p0 l0 F0 := ⟨hS1.1, hS1.2.1, hS1.2.2.1, hS1.2.2.2.1, hS1.2.2.2.2.1, hS1.2.2.2.2.2.1, hS1.2.2.2.2.2.2.1, hS1.2.2.2.2.2.2.2, a0⟩
      refine wpAnyH_mono (S' := fun W => NumsAt W .u8 p n F ∧ NumsAt W .u8 o0 l0 F0 ∧ NumsAt W .u8 o1 l1 F1 ∧ NumsAt W .u8 o2 l2 F2 ∧ Blk W (s + 1) 2 #[.int .i64 t] ∧ Blk W r 27 #[.slice none 0 0, .slice none 0 0, .slice none 0 0, .slice none 0 0, .slice none 0 0, .int .i64 0] ∧ EdgB W oe ne St Ln Up s ∧ Below s w W ∧ NumsAt W .u8 p0 l0 F0) (fun _ h => ⟨h.1, h.2.1, h.2.2.1, h.2.2.2.1, h.2.2.2.2.1, h.2.2.2.2.2.1, h.2.2.2.2.2.2.1, h.2.2.2.2.2.2.2.1⟩) ?_
      clear hS1
      have hS1 := hT
      clear hT
      clear hb1 hS0
      simp only [List.getElem_toArray, List.getElem_cons_zero, List.getElem_cons_succ, Act.put, List.setIfInBounds_toArray, List.set_cons_zero, List.set_cons_succ]
      refine wpAnyH_ready (rs := [6, 10]) (by kernel_rfl) (by simp) ?_
      refine AllReadyH.cons rfl (fun K hK => ?_) ?_
      · -- load 6
        go_simp
        refine hK.out _ _ hS1 (fun _ => ?_)
        clear hK K
        simp only [List.getElem_toArray, List.getElem_cons_zero, List.getElem_cons_succ, Act.put, List.setIfInBounds_toArray, List.set_cons_zero, List.set_cons_succ]
        refine wpAnyH_ready (rs := [7, 10]) (by kernel_rfl) (by simp) ?_
        refine AllReadyH.cons rfl (fun K hK => ?_) ?_
        · -- call 7
          go_simp
          refine (slClone_calls o1 l1 c1 F1 _ hn1 hS1.2.2.1).mono ?_
          rintro e v2 ⟨p1, d1, rfl, a1, hb2⟩
          (try go_simp)
          refine hK.out _ _ ⟨(hS1.1.below hb2 (Nat.le_refl _)), (hS1.2.1.below hb2 (Nat.le_refl _)), (hS1.2.2.1.below hb2 (Nat.le_refl _)), (hS1.2.2.2.1.below hb2 (Nat.le_refl _)), (hS1.2.2.2.2.1.below hb2 hS1.2.2.2.2.1.lt), (hS1.2.2.2.2.2.1.below hb2 hS1.2.2.2.2.2.1.lt), (by first | exact hS1.2.2.2.2.2.2.1.low hb2 | exact hS1.2.2.2.2.2.2.1.below hb2 (Nat.le_refl _)), (by first | exact hS1.2.2.2.2.2.2.2.1.trans (hb2.mono hS1.2.2.2.2.2.2.2.1.size) | exact hS1.2.2.2.2.2.2.2.1.trans (hb2.mono (by have := hS1.2.2.2.2.2.2.2.1.size; omega))), (hS1.2.2.2.2.2.2.2.2.below hb2 (Nat.le_refl _))⟩ (fun hS2 => ?_)
          clear hK K
          have hB3_2 : Blk v2 s 27 #[Value.slice p n d, Value.slice o0 l0 c0, Value.slice o1 l1 c1, Value.slice o2 l2 c2, Value.slice oe ne ce, Value.int .i64 bud] := (hB3_1.below hb2 hB3_1.lt)
          have k1_2 : v2.cell? ⟨s, 1, none⟩ = some (.slice o0 l0 c0) := ((hb2.cell (cell_lt k1_1)).trans k1_1)
          have k2_2 : v2.cell? ⟨s, 2, none⟩ = some (.slice o1 l1 c1) := ((hb2.cell (cell_lt k2_1)).trans k2_1)
          have k3_2 : v2.cell? ⟨s, 3, none⟩ = some (.slice o2 l2 c2) := ((hb2.cell (cell_lt k3_1)).trans k3_1)
          have hT : NumsAt v2 .u8 p n F ∧ NumsAt v2 .u8 o0 l0 F0 ∧ NumsAt v2 .u8 o1 l1 F1 ∧ NumsAt v2 .u8 o2 l2 F2 ∧ Blk v2 (s + 1) 2 #[.int .i64 t] ∧ Blk v2 r 27 #[.slice none 0 0, .slice none 0 0, .slice none 0 0, .slice none 0 0, .slice none 0 0, .int .i64 0] ∧ EdgB v2 oe ne St Ln Up s ∧ Below s w v2 ∧ NumsAt v2 .u8 p0 l0 F0 ∧ NumsAt v2 .u8 p1 l1 F1 := ⟨hS2.1, hS2.2.1, hS2.2.2.1, hS2.2.2.2.1, hS2.2.2.2.2.1, hS2.2.2.2.2.2.1, hS2.2.2.2.2.2.2.1, hS2.2.2.2.2.2.2.2.1, hS2.2.2.2.2.2.2.2.2, a1⟩
          refine wpAnyH_mono (S' := fun W => NumsAt W .u8 p n F ∧ NumsAt W .u8 o0 l0 F0 ∧ NumsAt W .u8 o1 l1 F1 ∧ NumsAt W .u8 o2 l2 F2 ∧ Blk W (s + 1) 2 #[.int .i64 t] ∧ Blk W r 27 #[.slice none 0 0, .slice none 0 0, .slice none 0 0, .slice none 0 0, .slice none 0 0, .int .i64 0] ∧ EdgB W oe ne St Ln Up s ∧ Below s w W ∧ NumsAt W .u8 p0 l0 F0 ∧ NumsAt W .u8 p1 l1 F1) (fun _ h => ⟨h.1, h.2.1, h.2.2.1, h.2.2.2.1, h.2.2.2.2.1, h.2.2.2.2.2.1, h.2.2.2.2.2.2.1, h.2.2.2.2.2.2.2.1, h.2.2.2.2.2.2.2.2.1⟩) ?_
          clear hS2
          have hS2 := hT
          clear hT
          clear hb2 hS1
          simp only [List.getElem_toArray, List.getElem_cons_zero, List.getElem_cons_succ, Act.put, List.setIfInBounds_toArray, List.set_cons_zero, List.set_cons_succ]
          refine wpAnyH_ready (rs := [10]) (by kernel_rfl) (by simp) ?_
          refine AllReadyH.cons rfl (fun K hK => ?_) AllReadyH.nil
          go_simp
          refine hK.out _ _ hS2 (fun _ => ?_)
          clear hK K
          simp only [List.getElem_toArray, List.getElem_cons_zero, List.getElem_cons_succ, Act.put, List.setIfInBounds_toArray, List.set_cons_zero, List.set_cons_succ]
          refine wpAnyH_ready (rs := [11]) (by kernel_rfl) (by simp) ?_
          refine AllReadyH.cons rfl (fun K hK => ?_) AllReadyH.nil
          go_simp
          refine (slClone_calls o2 l2 c2 F2 _ hn2 hS2.2.2.2.1).mono ?_
          rintro e v3 ⟨p2, d2, rfl, a2, hb3⟩
          (try go_simp)
          refine hK.out _ _ ⟨(hS2.1.below hb3 (Nat.le_refl _)), (hS2.2.1.below hb3 (Nat.le_refl _)), (hS2.2.2.1.below hb3 (Nat.le_refl _)), (hS2.2.2.2.1.below hb3 (Nat.le_refl _)), (hS2.2.2.2.2.1.below hb3 hS2.2.2.2.2.1.lt), (hS2.2.2.2.2.2.1.below hb3 hS2.2.2.2.2.2.1.lt), (by first | exact hS2.2.2.2.2.2.2.1.low hb3 | exact hS2.2.2.2.2.2.2.1.below hb3 (Nat.le_refl _)), (by first | exact hS2.2.2.2.2.2.2.2.1.trans (hb3.mono hS2.2.2.2.2.2.2.2.1.size) | exact hS2.2.2.2.2.2.2.2.1.trans (hb3.mono (by have := hS2.2.2.2.2.2.2.2.1.size; omega))), (hS2.2.2.2.2.2.2.2.2.1.below hb3 (Nat.le_refl _)), (hS2.2.2.2.2.2.2.2.2.2.below hb3 (Nat.le_refl _))⟩ (fun hS3 => ?_)
          clear hK K
          have hB3_3 : Blk v3 s 27 #[Value.slice p n d, Value.slice o0 l0 c0, Value.slice o1 l1 c1, Value.slice o2 l2 c2, Value.slice oe ne ce, Value.int .i64 bud] := (hB3_2.below hb3 hB3_2.lt)
          have k1_3 : v3.cell? ⟨s, 1, none⟩ = some (.slice o0 l0 c0) := ((hb3.cell (cell_lt k1_2)).trans k1_2)
          have k2_3 : v3.cell? ⟨s, 2, none⟩ = some (.slice o1 l1 c1) := ((hb3.cell (cell_lt k2_2)).trans k2_2)
          have k3_3 : v3.cell? ⟨s, 3, none⟩ = some (.slice o2 l2 c2) := ((hb3.cell (cell_lt k3_2)).trans k3_2)
          have hT : NumsAt v3 .u8 p n F ∧ NumsAt v3 .u8 o0 l0 F0 ∧ NumsAt v3 .u8 o1 l1 F1 ∧ NumsAt v3 .u8 o2 l2 F2 ∧ Blk v3 (s + 1) 2 #[.int .i64 t] ∧ Blk v3 r 27 #[.slice none 0 0, .slice none 0 0, .slice none 0 0, .slice none 0 0, .slice none 0 0, .int .i64 0] ∧ EdgB v3 oe ne St Ln Up s ∧ Below s w v3 ∧ NumsAt v3 .u8 p0 l0 F0 ∧ NumsAt v3 .u8 p1 l1 F1 ∧ NumsAt v3 .u8 p2 l2 F2 := ⟨hS3.1, hS3.2.1, hS3.2.2.1, hS3.2.2.2.1, hS3.2.2.2.2.1, hS3.2.2.2.2.2.1, hS3.2.2.2.2.2.2.1, hS3.2.2.2.2.2.2.2.1, hS3.2.2.2.2.2.2.2.2.1, hS3.2.2.2.2.2.2.2.2.2, a2⟩
          refine wpAnyH_mono (S' := fun W => NumsAt W .u8 p n F ∧ NumsAt W .u8 o0 l0 F0 ∧ NumsAt W .u8 o1 l1 F1 ∧ NumsAt W .u8 o2 l2 F2 ∧ Blk W (s + 1) 2 #[.int .i64 t] ∧ Blk W r 27 #[.slice none 0 0, .slice none 0 0, .slice none 0 0, .slice none 0 0, .slice none 0 0, .int .i64 0] ∧ EdgB W oe ne St Ln Up s ∧ Below s w W ∧ NumsAt W .u8 p0 l0 F0 ∧ NumsAt W .u8 p1 l1 F1 ∧ NumsAt W .u8 p2 l2 F2) (fun _ h => ⟨h.1, h.2.1, h.2.2.1, h.2.2.2.1, h.2.2.2.2.1, h.2.2.2.2.2.1, h.2.2.2.2.2.2.1, h.2.2.2.2.2.2.2.1, h.2.2.2.2.2.2.2.2.1, h.2.2.2.2.2.2.2.2.2.1⟩) ?_
          clear hS3
          have hS3 := hT
          clear hT
          clear hb3 hS2
          simp only [List.getElem_toArray, List.getElem_cons_zero, List.getElem_cons_succ, Act.put, List.setIfInBounds_toArray, List.set_cons_zero, List.set_cons_succ]
          refine wpAnyH_take (i := 12) (v := ?_) rfl (by kernel_rfl) (by kernel_rfl) (by kernel_rfl) (fun _ _ _ h => h) (Or.inl ⟨by rfl, ?_⟩) hS3 ?_
          rotate_left
          · (intro w hSw; (try dsimp only at hSw); go_simp; try with_reducible rfl)
          simp only [List.getElem_toArray, List.getElem_cons_zero, List.getElem_cons_succ, Act.put, List.setIfInBounds_toArray, List.set_cons_zero, List.set_cons_succ]
          refine wpAnyH_take (i := 13) (v := ?_) rfl (by kernel_rfl) (by kernel_rfl) (by kernel_rfl) (fun _ _ _ h => h) (Or.inl ⟨by rfl, ?_⟩) hS3 ?_
          rotate_left
          · (intro w hSw; (try dsimp only at hSw); go_simp; try with_reducible rfl)
          simp only [List.getElem_toArray, List.getElem_cons_zero, List.getElem_cons_succ, Act.put, List.setIfInBounds_toArray, List.set_cons_zero, List.set_cons_succ]
          refine wpAnyH_ready (rs := [14]) (by kernel_rfl) (by simp) ?_
          refine AllReadyH.cons rfl (fun K hK => ?_) AllReadyH.nil
          rw [if_pos (show Region.wanted _ _ = true from by rfl)]
          have hO := only_setCells (S := fun k => k = s) rfl (#[Value.slice p0 l0 d0, Value.slice p1 l1 d1, Value.slice p2 l2 d2] : Array Value).toList 1 v3 (Only.refl _ _)
          have hN : Blk (v3.setCells s 1 (#[Value.slice p0 l0 d0, Value.slice p1 l1 d1, Value.slice p2 l2 d2] : Array Value).toList) s 27 #[Value.slice p n d, Value.slice p0 l0 d0, Value.slice p1 l1 d1, Value.slice p2 l2 d2, Value.slice oe ne ce, Value.int .i64 bud] := Blk.set_ (Blk.set_ (Blk.set_ hB3_3 1 _) 2 _) 3 _
          refine wp_store_mid 24 _ _ rfl s 1 #[Value.slice p0 l0 d0, Value.slice p1 l1 d1, Value.slice p2 l2 d2] rfl rfl (blk_there hB3_3 (by show 1 + 3 ≤ 6; omega)) (by kernel_rfl) (by kernel_rfl) ?_
          refine hK.out _ _ ⟨nums_setCells hS3.1 hB3_3 no1.out _, nums_setCells hS3.2.1 hB3_3 no1.out _, nums_setCells hS3.2.2.1 hB3_3 no1.out _, nums_setCells hS3.2.2.2.1 hB3_3 no1.out _, hS3.2.2.2.2.1.only hO (by (first | omega | (dsimp only; omega))), hS3.2.2.2.2.2.1.only hO (by (first | omega | (dsimp only; omega))), hS3.2.2.2.2.2.2.1.only hO (fun k h => by (first | omega | (dsimp only; omega))), hS3.2.2.2.2.2.2.2.1.trans (hO.below (B := s) (by have := hS3.2.2.2.2.2.2.2.1.size; omega) (fun k e => by (first | omega | (dsimp only at e; omega)))), nums_setCells hS3.2.2.2.2.2.2.2.2.1 hB3_3 no1.out _, nums_setCells hS3.2.2.2.2.2.2.2.2.2.1 hB3_3 no1.out _, nums_setCells hS3.2.2.2.2.2.2.2.2.2.2 hB3_3 no1.out _⟩ (fun hS4 => ?_)
          clear hK K hS3
          generalize v3.setCells s 1 (#[Value.slice p0 l0 d0, Value.slice p1 l1 d1, Value.slice p2 l2 d2] : Array Value).toList = v4 at *
          simp only [List.getElem_toArray, List.getElem_cons_zero, List.getElem_cons_succ, Act.put, List.setIfInBounds_toArray, List.set_cons_zero, List.set_cons_succ]
          refine wpAnyH_done (by kernel_rfl) ?_ _
          have nn := hS4.1
          have mm0 := hS4.2.1
          have mm1 := hS4.2.2.1
          have mm2 := hS4.2.2.2.1
          have hq3 := hS4.2.2.2.2.1
          have hR3 := hS4.2.2.2.2.2.1
          have mE3 := hS4.2.2.2.2.2.2.1
          have hb3 := hS4.2.2.2.2.2.2.2.1
          have na0 := hS4.2.2.2.2.2.2.2.2.1
          have na1 := hS4.2.2.2.2.2.2.2.2.2.1
          have na2 := hS4.2.2.2.2.2.2.2.2.2.2
          clear hS4
          have hB3 := hB3_3
          have k1 := k1_3
          have k2 := k2_3
          have k3 := k3_3
          have HF : Hid (NumsAt v4 .u8 p n F ∧ NumsAt v4 .u8 p0 l0 F0 ∧ NumsAt v4 .u8 p1 l1 F1 ∧ NumsAt v4 .u8 p2 l2 F2) := ⟨nn, na0, na1, na2⟩
          clear nn na0 na1 na2 mm0 mm1 mm2 hB3 k1 k2 k3 no1 hO
          rename_i HV
          clear HV
          have k4 : v4.cell? ⟨s, 4, none⟩ = some (.slice oe ne ce) := hN.cell 4
          have hcl := edClone_calls oe ne ce St Ln Up v4 hne (mE3.mono (by have := hb3.size; omega))
          have HS : Hid (Blk v4 s 27 #[Value.slice p n d, Value.slice p0 l0 d0, Value.slice p1 l1 d1, Value.slice p2 l2 d2, Value.slice oe ne ce, Value.int .i64 bud] ∧ Blk v4 (s + 1) 2 #[.int .i64 t] ∧ Blk v4 r 27 #[.slice none 0 0, .slice none 0 0, .slice none 0 0, .slice none 0 0, .slice none 0 0, .int .i64 0] ∧ Below s w v4) := ⟨hN, hq3, hR3, hb3⟩
          clear hN hq3 hR3 mE3 hb3
          go_wp2_with fail
          refine hcl.mono ?_
          clear hcl k4
          rintro e w5 ⟨ve, rfl, hown, hb5⟩
          obtain ⟨hN, hq3, hR3, hb3⟩ := HS.out
          have hcut := edCut_calls ve ne (s + 1) v4.heap.size t St Ln Up w5 hne hown ((hq3.below hb5 hq3.lt).cell 0) hq3.lt hb5.size
          clear hown hN hq3 hR3 hb3
          go_wp2_with fail
          refine hcut.mono ?_
          clear hcut
          rintro e w6 ⟨pe, de, rfl, hsp, hE6, hb6⟩
          obtain ⟨hN, hq3, hR3, hb3⟩ := HS.out
          have hb56 := hb5.trans (hb6.mono (Nat.le_refl _))
          have hN6 := hN.below hb56 hN.lt
          have hR6 := hR3.below hb56 hR3.lt
          have hb06 := hb3.trans (hb56.mono (by have := hb3.size; omega))
          have k46 : w6.cell? ⟨s, 4, none⟩ = some (.slice oe ne ce) := hN6.cell 4
          have f46 := hN6.frozen 4
          have no2 : ∀ x, Value.int .u8 x ∉ (#[Value.slice p n d, Value.slice p0 l0 d0, Value.slice p1 l1 d1, Value.slice p2 l2 d2, Value.slice oe ne ce, Value.int .i64 bud] : Array Value).toList := by simp
          have no3 : ∀ x, Value.int .u8 x ∉ (#[Value.slice none 0 0, .slice none 0 0, .slice none 0 0, .slice none 0 0, .slice none 0 0, .int .i64 0] : Array Value).toList := by simp
          obtain ⟨nn, na0, na1, na2⟩ := HF.out
          have le := Nat.le_refl v4.heap.size
          have hO7 := Only.setCell (S := fun k => k = s) (Only.refl _ w6) ⟨s, 4, none⟩ rfl (.slice pe (kp t St ne).length de)
          have hN7 : Blk (w6.setCell ⟨s, 4, none⟩ (.slice pe (kp t St ne).length de)) s 27 #[Value.slice p n d, Value.slice p0 l0 d0, Value.slice p1 l1 d1, Value.slice p2 l2 d2, Value.slice pe (kp t St ne).length de, Value.int .i64 bud] := Blk.set_ hN6 4 _
          have hR7 := hR6.only hO7 (by (first | omega | (dsimp only; omega)))
          have hO8 := only_setRowB (w6.setCell ⟨s, 4, none⟩ (.slice pe (kp t St ne).length de)) r #[Value.slice p n d, Value.slice p0 l0 d0, Value.slice p1 l1 d1, Value.slice p2 l2 d2, Value.slice pe (kp t St ne).length de, Value.int .i64 bud]
          have FIN : Hid (NumsAt ((w6.setCell ⟨s, 4, none⟩ (.slice pe (kp t St ne).length de)).setRow r #[Value.slice p n d, Value.slice p0 l0 d0, Value.slice p1 l1 d1, Value.slice p2 l2 d2, Value.slice pe (kp t St ne).length de, Value.int .i64 bud]) .u8 p n F ∧ NumsAt ((w6.setCell ⟨s, 4, none⟩ (.slice pe (kp t St ne).length de)).setRow r #[Value.slice p n d, Value.slice p0 l0 d0, Value.slice p1 l1 d1, Value.slice p2 l2 d2, Value.slice pe (kp t St ne).length de, Value.int .i64 bud]) .u8 p0 l0 F0 ∧ NumsAt ((w6.setCell ⟨s, 4, none⟩ (.slice pe (kp t St ne).length de)).setRow r #[Value.slice p n d, Value.slice p0 l0 d0, Value.slice p1 l1 d1, Value.slice p2 l2 d2, Value.slice pe (kp t St ne).length de, Value.int .i64 bud]) .u8 p1 l1 F1 ∧ NumsAt ((w6.setCell ⟨s, 4, none⟩ (.slice pe (kp t St ne).length de)).setRow r #[Value.slice p n d, Value.slice p0 l0 d0, Value.slice p1 l1 d1, Value.slice p2 l2 d2, Value.slice pe (kp t St ne).length de, Value.int .i64 bud]) .u8 p2 l2 F2 ∧ EdgB ((w6.setCell ⟨s, 4, none⟩ (.slice pe (kp t St ne).length de)).setRow r #[Value.slice p n d, Value.slice p0 l0 d0, Value.slice p1 l1 d1, Value.slice p2 l2 d2, Value.slice pe (kp t St ne).length de, Value.int .i64 bud]) pe (kp t St ne).length (fun x => St (kpF t St ne x)) (fun x => Ln (kpF t St ne x)) (fun x => Up (kpF t St ne x)) ((w6.setCell ⟨s, 4, none⟩ (.slice pe (kp t St ne).length de)).setRow r #[Value.slice p n d, Value.slice p0 l0 d0, Value.slice p1 l1 d1, Value.slice p2 l2 d2, Value.slice pe (kp t St ne).length de, Value.int .i64 bud]).heap.size ∧ Below s w ((w6.setCell ⟨s, 4, none⟩ (.slice pe (kp t St ne).length de)).setRow r #[Value.slice p n d, Value.slice p0 l0 d0, Value.slice p1 l1 d1, Value.slice p2 l2 d2, Value.slice pe (kp t St ne).length de, Value.int .i64 bud])) :=
            ⟨nums_apart (nums_apart (nn.below hb56 le) hN6 no2 hO7) hR7 no3 hO8, nums_apart (nums_apart (na0.below hb56 le) hN6 no2 hO7) hR7 no3 hO8, nums_apart (nums_apart (na1.below hb56 le) hN6 no2 hO7) hR7 no3 hO8, nums_apart (nums_apart (na2.below hb56 le) hN6 no2 hO7) hR7 no3 hO8,
              (edg_apart (edg_apart hE6 hN6 no2 hO7) hR7 no3 hO8).mono (Nat.le_trans hO7.size hO8.size), (hb06.trans (hO7.below (B := s) (by have := hb06.size; omega) (fun k e => by (first | omega | (dsimp only at e; omega))))).trans (hO8.below (B := s) (by have := hb06.size; have := hO7.size; omega) (fun k e => by (first | omega | (dsimp only at e; omega))))⟩
          clear nn na0 na1 na2 hE6 hN hq3 hR3 hb3 hb5 hb6 hb56 hN6 hR6 hb06 hO7 hO8 no2 no3 le hsp
          go_wp2_with (first | (refine wpList_load_row rfl 27 _ rfl s rfl _ #[Value.slice p n d, Value.slice p0 l0 d0, Value.slice p1 l1 d1, Value.slice p2 l2 d2, Value.slice pe (kp t St ne).length de, Value.int .i64 bud] (0, 0) _ hN7 Tryd.underlying27 rfl (by kernel_rfl) ?_) | (refine wpList_store_row rfl 27 _ _ rfl r #[Value.slice p n d, Value.slice p0 l0 d0, Value.slice p1 l1 d1, Value.slice p2 l2 d2, Value.slice pe (kp t St ne).length de, Value.int .i64 bud] rfl rfl 27 _ hR7 (by kernel_rfl) rfl (by kernel_rfl) ?_))
          obtain ⟨y0, y1, y2, y3, y4, y5⟩ := FIN.out
          exact bodyPost_ret (results_cell_row rfl _ _ r 27 #[Value.slice p n d, Value.slice p0 l0 d0, Value.slice p1 l1 d1, Value.slice p2 l2 d2, Value.slice pe (kp t St ne).length de, Value.int .i64 bud] (0, 0) _ rfl (hR7.setRow _) Tryd.underlying27 rfl (by kernel_rfl)) rfl ⟨p, p0, p1, p2, pe, d, d0, d1, d2, de, rfl, y0, y1, y2, y3, y4, by rw [hsz]; exact y5⟩
        refine AllReadyH.cons rfl (fun K hK => ?_) ?_
        · -- load 10
          go_simp
          refine hK.out _ _ hS1 (fun _ => ?_)
          clear hK K
          simp only [List.getElem_toArray, List.getElem_cons_zero, List.getElem_cons_succ, Act.put, List.setIfInBounds_toArray, List.set_cons_zero, List.set_cons_succ]
          refine wpAnyH_ready (rs := [7]) (by kernel_rfl) (by simp) ?_
          refine AllReadyH.cons rfl (fun K hK => ?_) AllReadyH.nil
          go_simp
          refine (slClone_calls o1 l1 c1 F1 _ hn1 hS1.2.2.1).mono ?_
          rintro e v2 ⟨p1, d1, rfl, a1, hb2⟩
          (try go_simp)
          refine hK.out _ _ ⟨(hS1.1.below hb2 (Nat.le_refl _)), (hS1.2.1.below hb2 (Nat.le_refl _)), (hS1.2.2.1.below hb2 (Nat.le_refl _)), (hS1.2.2.2.1.below hb2 (Nat.le_refl _)), (hS1.2.2.2.2.1.below hb2 hS1.2.2.2.2.1.lt), (hS1.2.2.2.2.2.1.below hb2 hS1.2.2.2.2.2.1.lt), (by first | exact hS1.2.2.2.2.2.2.1.low hb2 | exact hS1.2.2.2.2.2.2.1.below hb2 (Nat.le_refl _)), (by first | exact hS1.2.2.2.2.2.2.2.1.trans (hb2.mono hS1.2.2.2.2.2.2.2.1.size) | exact hS1.2.2.2.2.2.2.2.1.trans (hb2.mono (by have := hS1.2.2.2.2.2.2.2.1.size; omega))), (hS1.2.2.2.2.2.2.2.2.below hb2 (Nat.le_refl _))⟩ (fun hS2 => ?_)
          clear hK K
          have hB3_2 : Blk v2 s 27 #[Value.slice p n d, Value.slice o0 l0 c0, Value.slice o1 l1 c1, Value.slice o2 l2 c2, Value.slice oe ne ce, Value.int .i64 bud] := (hB3_1.below hb2 hB3_1.lt)
          have k1_2 : v2.cell? ⟨s, 1, none⟩ = some (.slice o0 l0 c0) := ((hb2.cell (cell_lt k1_1)).trans k1_1)
          have k2_2 : v2.cell? ⟨s, 2, none⟩ = some (.slice o1 l1 c1) := ((hb2.cell (cell_lt k2_1)).trans k2_1)
          have k3_2 : v2.cell? ⟨s, 3, none⟩ = some (.slice o2 l2 c2) := ((hb2.cell (cell_lt k3_1)).trans k3_1)
          have hT : NumsAt v2 .u8 p n F ∧ NumsAt v2 .u8 o0 l0 F0 ∧ NumsAt v2 .u8 o1 l1 F1 ∧ NumsAt v2 .u8 o2 l2 F2 ∧ Blk v2 (s + 1) 2 #[.int .i64 t] ∧ Blk v2 r 27 #[.slice none 0 0, .slice none 0 0, .slice none 0 0, .slice none 0 0, .slice none 0 0, .int .i64 0] ∧ EdgB v2 oe ne St Ln Up s ∧ Below s w v2 ∧ NumsAt v2 .u8 p0 l0 F0 ∧ NumsAt v2 .u8 p1 l1 F1 := ⟨hS2.1, hS2.2.1, hS2.2.2.1, hS2.2.2.2.1, hS2.2.2.2.2.1, hS2.2.2.2.2.2.1, hS2.2.2.2.2.2.2.1, hS2.2.2.2.2.2.2.2.1, hS2.2.2.2.2.2.2.2.2, a1⟩
          refine wpAnyH_mono (S' := fun W => NumsAt W .u8 p n F ∧ NumsAt W .u8 o0 l0 F0 ∧ NumsAt W .u8 o1 l1 F1 ∧ NumsAt W .u8 o2 l2 F2 ∧ Blk W (s + 1) 2 #[.int .i64 t] ∧ Blk W r 27 #[.slice none 0 0, .slice none 0 0, .slice none 0 0, .slice none 0 0, .slice none 0 0, .int .i64 0] ∧ EdgB W oe ne St Ln Up s ∧ Below s w W ∧ NumsAt W .u8 p0 l0 F0 ∧ NumsAt W .u8 p1 l1 F1) (fun _ h => ⟨h.1, h.2.1, h.2.2.1, h.2.2.2.1, h.2.2.2.2.1, h.2.2.2.2.2.1, h.2.2.2.2.2.2.1, h.2.2.2.2.2.2.2.1, h.2.2.2.2.2.2.2.2.1⟩) ?_
          clear hS2
          have hS2 := hT
          clear hT
          clear hb2 hS1
          simp only [List.getElem_toArray, List.getElem_cons_zero, List.getElem_cons_succ, Act.put, List.setIfInBounds_toArray, List.set_cons_zero, List.set_cons_succ]
          refine wpAnyH_ready (rs := [11]) (by kernel_rfl) (by simp) ?_
          refine AllReadyH.cons rfl (fun K hK => ?_) AllReadyH.nil
          go_simp
          refine (slClone_calls o2 l2 c2 F2 _ hn2 hS2.2.2.2.1).mono ?_
          rintro e v3 ⟨p2, d2, rfl, a2, hb3⟩
          (try go_simp)
          refine hK.out _ _ ⟨(hS2.1.below hb3 (Nat.le_refl _)), (hS2.2.1.below hb3 (Nat.le_refl _)), (hS2.2.2.1.below hb3 (Nat.le_refl _)), (hS2.2.2.2.1.below hb3 (Nat.le_refl _)), (hS2.2.2.2.2.1.below hb3 hS2.2.2.2.2.1.lt), (hS2.2.2.2.2.2.1.below hb3 hS2.2.2.2.2.2.1.lt), (by first | exact hS2.2.2.2.2.2.2.1.low hb3 | exact hS2.2.2.2.2.2.2.1.below hb3 (Nat.le_refl _)), (by first | exact hS2.2.2.2.2.2.2.2.1.trans (hb3.mono hS2.2.2.2.2.2.2.2.1.size) | exact hS2.2.2.2.2.2.2.2.1.trans (hb3.mono (by have := hS2.2.2.2.2.2.2.2.1.size; omega))), (hS2.2.2.2.2.2.2.2.2.1.below hb3 (Nat.le_refl _)), (hS2.2.2.2.2.2.2.2.2.2.below hb3 (Nat.le_refl _))⟩ (fun hS3 => ?_)
          clear hK K
          have hB3_3 : Blk v3 s 27 #[Value.slice p n d, Value.slice o0 l0 c0, Value.slice o1 l1 c1, Value.slice o2 l2 c2, Value.slice oe ne ce, Value.int .i64 bud] := (hB3_2.below hb3 hB3_2.lt)
          have k1_3 : v3.cell? ⟨s, 1, none⟩ = some (.slice o0 l0 c0) := ((hb3.cell (cell_lt k1_2)).trans k1_2)
          have k2_3 : v3.cell? ⟨s, 2, none⟩ = some (.slice o1 l1 c1) := ((hb3.cell (cell_lt k2_2)).trans k2_2)
          have k3_3 : v3.cell? ⟨s, 3, none⟩ = some (.slice o2 l2 c2) := ((hb3.cell (cell_lt k3_2)).trans k3_2)
          have hT : NumsAt v3 .u8 p n F ∧ NumsAt v3 .u8 o0 l0 F0 ∧ NumsAt v3 .u8 o1 l1 F1 ∧ NumsAt v3 .u8 o2 l2 F2 ∧ Blk v3 (s + 1) 2 #[.int .i64 t] ∧ Blk v3 r 27 #[.slice none 0 0, .slice none 0 0, .slice none 0 0, .slice none 0 0, .slice none 0 0, .int .i64 0] ∧ EdgB v3 oe ne St Ln Up s ∧ Below s w v3 ∧ NumsAt v3 .u8 p0 l0 F0 ∧ NumsAt v3 .u8 p1 l1 F1 ∧ NumsAt v3 .u8 p2 l2 F2 := ⟨hS3.1, hS3.2.1, hS3.2.2.1, hS3.2.2.2.1, hS3.2.2.2.2.1, hS3.2.2.2.2.2.1, hS3.2.2.2.2.2.2.1, hS3.2.2.2.2.2.2.2.1, hS3.2.2.2.2.2.2.2.2.1, hS3.2.2.2.2.2.2.2.2.2, a2⟩
          refine wpAnyH_mono (S' := fun W => NumsAt W .u8 p n F ∧ NumsAt W .u8 o0 l0 F0 ∧ NumsAt W .u8 o1 l1 F1 ∧ NumsAt W .u8 o2 l2 F2 ∧ Blk W (s + 1) 2 #[.int .i64 t] ∧ Blk W r 27 #[.slice none 0 0, .slice none 0 0, .slice none 0 0, .slice none 0 0, .slice none 0 0, .int .i64 0] ∧ EdgB W oe ne St Ln Up s ∧ Below s w W ∧ NumsAt W .u8 p0 l0 F0 ∧ NumsAt W .u8 p1 l1 F1 ∧ NumsAt W .u8 p2 l2 F2) (fun _ h => ⟨h.1, h.2.1, h.2.2.1, h.2.2.2.1, h.2.2.2.2.1, h.2.2.2.2.2.1, h.2.2.2.2.2.2.1, h.2.2.2.2.2.2.2.1, h.2.2.2.2.2.2.2.2.1, h.2.2.2.2.2.2.2.2.2.1⟩) ?_
          clear hS3
          have hS3 := hT
          clear hT
          clear hb3 hS2
          simp only [List.getElem_toArray, List.getElem_cons_zero, List.getElem_cons_succ, Act.put, List.setIfInBounds_toArray, List.set_cons_zero, List.set_cons_succ]
          refine wpAnyH_take (i := 12) (v := ?_) rfl (by kernel_rfl) (by kernel_rfl) (by kernel_rfl) (fun _ _ _ h => h) (Or.inl ⟨by rfl, ?_⟩) hS3 ?_
          rotate_left
          · (intro w hSw; (try dsimp only at hSw); go_simp; try with_reducible rfl)
          simp only [List.getElem_toArray, List.getElem_cons_zero, List.getElem_cons_succ, Act.put, List.setIfInBounds_toArray, List.set_cons_zero, List.set_cons_succ]
          refine wpAnyH_take (i := 13) (v := ?_) rfl (by kernel_rfl) (by kernel_rfl) (by kernel_rfl) (fun _ _ _ h => h) (Or.inl ⟨by rfl, ?_⟩) hS3 ?_
          rotate_left
          · (intro w hSw; (try dsimp only at hSw); go_simp; try with_reducible rfl)
          simp only [List.getElem_toArray, List.getElem_cons_zero, List.getElem_cons_succ, Act.put, List.setIfInBounds_toArray, List.set_cons_zero, List.set_cons_succ]
          refine wpAnyH_ready (rs := [14]) (by kernel_rfl) (by simp) ?_
          refine AllReadyH.cons rfl (fun K hK => ?_) AllReadyH.nil
          rw [if_pos (show Region.wanted _ _ = true from by rfl)]
          have hO := only_setCells (S := fun k => k = s) rfl (#[Value.slice p0 l0 d0, Value.slice p1 l1 d1, Value.slice p2 l2 d2] : Array Value).toList 1 v3 (Only.refl _ _)
          have hN : Blk (v3.setCells s 1 (#[Value.slice p0 l0 d0, Value.slice p1 l1 d1, Value.slice p2 l2 d2] : Array Value).toList) s 27 #[Value.slice p n d, Value.slice p0 l0 d0, Value.slice p1 l1 d1, Value.slice p2 l2 d2, Value.slice oe ne ce, Value.int .i64 bud] := Blk.set_ (Blk.set_ (Blk.set_ hB3_3 1 _) 2 _) 3 _
          refine wp_store_mid 24 _ _ rfl s 1 #[Value.slice p0 l0 d0, Value.slice p1 l1 d1, Value.slice p2 l2 d2] rfl rfl (blk_there hB3_3 (by show 1 + 3 ≤ 6; omega)) (by kernel_rfl) (by kernel_rfl) ?_
          refine hK.out _ _ ⟨nums_setCells hS3.1 hB3_3 no1.out _, nums_setCells hS3.2.1 hB3_3 no1.out _, nums_setCells hS3.2.2.1 hB3_3 no1.out _, nums_setCells hS3.2.2.2.1 hB3_3 no1.out _, hS3.2.2.2.2.1.only hO (by (first | omega | (dsimp only; omega))), hS3.2.2.2.2.2.1.only hO (by (first | omega | (dsimp only; omega))), hS3.2.2.2.2.2.2.1.only hO (fun k h => by (first | omega | (dsimp only; omega))), hS3.2.2.2.2.2.2.2.1.trans (hO.below (B := s) (by have := hS3.2.2.2.2.2.2.2.1.size; omega) (fun k e => by (first | omega | (dsimp only at e; omega)))), nums_setCells hS3.2.2.2.2.2.2.2.2.1 hB3_3 no1.out _, nums_setCells hS3.2.2.2.2.2.2.2.2.2.1 hB3_3 no1.out _, nums_setCells hS3.2.2.2.2.2.2.2.2.2.2 hB3_3 no1.out _⟩ (fun hS4 => ?_)
          clear hK K hS3
          generalize v3.setCells s 1 (#[Value.slice p0 l0 d0, Value.slice p1 l1 d1, Value.slice p2 l2 d2] : Array Value).toList = v4 at *
          simp only [List.getElem_toArray, List.getElem_cons_zero, List.getElem_cons_succ, Act.put, List.setIfInBounds_toArray, List.set_cons_zero, List.set_cons_succ]
          refine wpAnyH_done (by kernel_rfl) ?_ _
          have nn := hS4.1
          have mm0 := hS4.2.1
          have mm1 := hS4.2.2.1
          have mm2 := hS4.2.2.2.1
          have hq3 := hS4.2.2.2.2.1
          have hR3 := hS4.2.2.2.2.2.1
          have mE3 := hS4.2.2.2.2.2.2.1
          have hb3 := hS4.2.2.2.2.2.2.2.1
          have na0 := hS4.2.2.2.2.2.2.2.2.1
          have na1 := hS4.2.2.2.2.2.2.2.2.2.1
          have na2 := hS4.2.2.2.2.2.2.2.2.2.2
          clear hS4
          have hB3 := hB3_3
          have k1 := k1_3
          have k2 := k2_3
          have k3 := k3_3
          have HF : Hid (NumsAt v4 .u8 p n F ∧ NumsAt v4 .u8 p0 l0 F0 ∧ NumsAt v4 .u8 p1 l1 F1 ∧ NumsAt v4 .u8 p2 l2 F2) := ⟨nn, na0, na1, na2⟩
          clear nn na0 na1 na2 mm0 mm1 mm2 hB3 k1 k2 k3 no1 hO
          rename_i HV
          clear HV
          have k4 : v4.cell? ⟨s, 4, none⟩ = some (.slice oe ne ce) := hN.cell 4
          have hcl := edClone_calls oe ne ce St Ln Up v4 hne (mE3.mono (by have := hb3.size; omega))
          have HS : Hid (Blk v4 s 27 #[Value.slice p n d, Value.slice p0 l0 d0, Value.slice p1 l1 d1, Value.slice p2 l2 d2, Value.slice oe ne ce, Value.int .i64 bud] ∧ Blk v4 (s + 1) 2 #[.int .i64 t] ∧ Blk v4 r 27 #[.slice none 0 0, .slice none 0 0, .slice none 0 0, .slice none 0 0, .slice none 0 0, .int .i64 0] ∧ Below s w v4) := ⟨hN, hq3, hR3, hb3⟩
          clear hN hq3 hR3 mE3 hb3
          go_wp2_with fail
          refine hcl.mono ?_
          clear hcl k4
          rintro e w5 ⟨ve, rfl, hown, hb5⟩
          obtain ⟨hN, hq3, hR3, hb3⟩ := HS.out
          have hcut := edCut_calls ve ne (s + 1) v4.heap.size t St Ln Up w5 hne hown ((hq3.below hb5 hq3.lt).cell 0) hq3.lt hb5.size
          clear hown hN hq3 hR3 hb3
          go_wp2_with fail
          refine hcut.mono ?_
          clear hcut
          rintro e w6 ⟨pe, de, rfl, hsp, hE6, hb6⟩
          obtain ⟨hN, hq3, hR3, hb3⟩ := HS.out
          have hb56 := hb5.trans (hb6.mono (Nat.le_refl _))
          have hN6 := hN.below hb56 hN.lt
          have hR6 := hR3.below hb56 hR3.lt
          have hb06 := hb3.trans (hb56.mono (by have := hb3.size; omega))
          have k46 : w6.cell? ⟨s, 4, none⟩ = some (.slice oe ne ce) := hN6.cell 4
          have f46 := hN6.frozen 4
          have no2 : ∀ x, Value.int .u8 x ∉ (#[Value.slice p n d, Value.slice p0 l0 d0, Value.slice p1 l1 d1, Value.slice p2 l2 d2, Value.slice oe ne ce, Value.int .i64 bud] : Array Value).toList := by simp
          have no3 : ∀ x, Value.int .u8 x ∉ (#[Value.slice none 0 0, .slice none 0 0, .slice none 0 0, .slice none 0 0, .slice none 0 0, .int .i64 0] : Array Value).toList := by simp
          obtain ⟨nn, na0, na1, na2⟩ := HF.out
          have le := Nat.le_refl v4.heap.size
          have hO7 := Only.setCell (S := fun k => k = s) (Only.refl _ w6) ⟨s, 4, none⟩ rfl (.slice pe (kp t St ne).length de)
          have hN7 : Blk (w6.setCell ⟨s, 4, none⟩ (.slice pe (kp t St ne).length de)) s 27 #[Value.slice p n d, Value.slice p0 l0 d0, Value.slice p1 l1 d1, Value.slice p2 l2 d2, Value.slice pe (kp t St ne).length de, Value.int .i64 bud] := Blk.set_ hN6 4 _
          have hR7 := hR6.only hO7 (by (first | omega | (dsimp only; omega)))
          have hO8 := only_setRowB (w6.setCell ⟨s, 4, none⟩ (.slice pe (kp t St ne).length de)) r #[Value.slice p n d, Value.slice p0 l0 d0, Value.slice p1 l1 d1, Value.slice p2 l2 d2, Value.slice pe (kp t St ne).length de, Value.int .i64 bud]
          have FIN : Hid (NumsAt ((w6.setCell ⟨s, 4, none⟩ (.slice pe (kp t St ne).length de)).setRow r #[Value.slice p n d, Value.slice p0 l0 d0, Value.slice p1 l1 d1, Value.slice p2 l2 d2, Value.slice pe (kp t St ne).length de, Value.int .i64 bud]) .u8 p n F ∧ NumsAt ((w6.setCell ⟨s, 4, none⟩ (.slice pe (kp t St ne).length de)).setRow r #[Value.slice p n d, Value.slice p0 l0 d0, Value.slice p1 l1 d1, Value.slice p2 l2 d2, Value.slice pe (kp t St ne).length de, Value.int .i64 bud]) .u8 p0 l0 F0 ∧ NumsAt ((w6.setCell ⟨s, 4, none⟩ (.slice pe (kp t St ne).length de)).setRow r #[Value.slice p n d, Value.slice p0 l0 d0, Value.slice p1 l1 d1, Value.slice p2 l2 d2, Value.slice pe (kp t St ne).length de, Value.int .i64 bud]) .u8 p1 l1 F1 ∧ NumsAt ((w6.setCell ⟨s, 4, none⟩ (.slice pe (kp t St ne).length de)).setRow r #[Value.slice p n d, Value.slice p0 l0 d0, Value.slice p1 l1 d1, Value.slice p2 l2 d2, Value.slice pe (kp t St ne).length de, Value.int .i64 bud]) .u8 p2 l2 F2 ∧ EdgB ((w6.setCell ⟨s, 4, none⟩ (.slice pe (kp t St ne).length de)).setRow r #[Value.slice p n d, Value.slice p0 l0 d0, Value.slice p1 l1 d1, Value.slice p2 l2 d2, Value.slice pe (kp t St ne).length de, Value.int .i64 bud]) pe (kp t St ne).length (fun x => St (kpF t St ne x)) (fun x => Ln (kpF t St ne x)) (fun x => Up (kpF t St ne x)) ((w6.setCell ⟨s, 4, none⟩ (.slice pe (kp t St ne).length de)).setRow r #[Value.slice p n d, Value.slice p0 l0 d0, Value.slice p1 l1 d1, Value.slice p2 l2 d2, Value.slice pe (kp t St ne).length de, Value.int .i64 bud]).heap.size ∧ Below s w ((w6.setCell ⟨s, 4, none⟩ (.slice pe (kp t St ne).length de)).setRow r #[Value.slice p n d, Value.slice p0 l0 d0, Value.slice p1 l1 d1, Value.slice p2 l2 d2, Value.slice pe (kp t St ne).length de, Value.int .i64 bud])) :=
            ⟨nums_apart (nums_apart (nn.below hb56 le) hN6 no2 hO7) hR7 no3 hO8, nums_apart (nums_apart (na0.below hb56 le) hN6 no2 hO7) hR7 no3 hO8, nums_apart (nums_apart (na1.below hb56 le) hN6 no2 hO7) hR7 no3 hO8, nums_apart (nums_apart (na2.below hb56 le) hN6 no2 hO7) hR7 no3 hO8,
              (edg_apart (edg_apart hE6 hN6 no2 hO7) hR7 no3 hO8).mono (Nat.le_trans hO7.size hO8.size), (hb06.trans (hO7.below (B := s) (by have := hb06.size; omega) (fun k e => by (first | omega | (dsimp only at e; omega))))).trans (hO8.below (B := s) (by have := hb06.size; have := hO7.size; omega) (fun k e => by (first | omega | (dsimp only at e; omega))))⟩
          clear nn na0 na1 na2 hE6 hN hq3 hR3 hb3 hb5 hb6 hb56 hN6 hR6 hb06 hO7 hO8 no2 no3 le hsp
          go_wp2_with (first | (refine wpList_load_row rfl 27 _ rfl s rfl _ #[Value.slice p n d, Value.slice p0 l0 d0, Value.slice p1 l1 d1, Value.slice p2 l2 d2, Value.slice pe (kp t St ne).length de, Value.int .i64 bud] (0, 0) _ hN7 Tryd.underlying27 rfl (by kernel_rfl) ?_) | (refine wpList_store_row rfl 27 _ _ rfl r #[Value.slice p n d, Value.slice p0 l0 d0, Value.slice p1 l1 d1, Value.slice p2 l2 d2, Value.slice pe (kp t St ne).length de, Value.int .i64 bud] rfl rfl 27 _ hR7 (by kernel_rfl) rfl (by kernel_rfl) ?_))
          obtain ⟨y0, y1, y2, y3, y4, y5⟩ := FIN.out
          exact bodyPost_ret (results_cell_row rfl _ _ r 27 #[Value.slice p n d, Value.slice p0 l0 d0, Value.slice p1 l1 d1, Value.slice p2 l2 d2, Value.slice pe (kp t St ne).length de, Value.int .i64 bud] (0, 0) _ rfl (hR7.setRow _) Tryd.underlying27 rfl (by kernel_rfl)) rfl ⟨p, p0, p1, p2, pe, d, d0, d1, d2, de, rfl, y0, y1, y2, y3, y4, by rw [hsz]; exact y5⟩
        exact AllReadyH.nil
      refine AllReadyH.cons rfl (fun K hK => ?_) ?_
      · -- load 10
        go_simp
        refine hK.out _ _ hS1 (fun _ => ?_)
        clear hK K
        simp only [List.getElem_toArray, List.getElem_cons_zero, List.getElem_cons_succ, Act.put, List.setIfInBounds_toArray, List.set_cons_zero, List.set_cons_succ]
        refine wpAnyH_ready (rs := [6]) (by kernel_rfl) (by simp) ?_
        refine AllReadyH.cons rfl (fun K hK => ?_) AllReadyH.nil
        go_simp
        refine hK.out _ _ hS1 (fun _ => ?_)
        clear hK K
        simp only [List.getElem_toArray, List.getElem_cons_zero, List.getElem_cons_succ, Act.put, List.setIfInBounds_toArray, List.set_cons_zero, List.set_cons_succ]
        refine wpAnyH_ready (rs := [7]) (by kernel_rfl) (by simp) ?_
        refine AllReadyH.cons rfl (fun K hK => ?_) AllReadyH.nil
        go_simp
        refine (slClone_calls o1 l1 c1 F1 _ hn1 hS1.2.2.1).mono ?_
        rintro e v2 ⟨p1, d1, rfl, a1, hb2⟩
        (try go_simp)
        refine hK.out _ _ ⟨(hS1.1.below hb2 (Nat.le_refl _)), (hS1.2.1.below hb2 (Nat.le_refl _)), (hS1.2.2.1.below hb2 (Nat.le_refl _)), (hS1.2.2.2.1.below hb2 (Nat.le_refl _)), (hS1.2.2.2.2.1.below hb2 hS1.2.2.2.2.1.lt), (hS1.2.2.2.2.2.1.below hb2 hS1.2.2.2.2.2.1.lt), (by first | exact hS1.2.2.2.2.2.2.1.low hb2 | exact hS1.2.2.2.2.2.2.1.below hb2 (Nat.le_refl _)), (by first | exact hS1.2.2.2.2.2.2.2.1.trans (hb2.mono hS1.2.2.2.2.2.2.2.1.size) | exact hS1.2.2.2.2.2.2.2.1.trans (hb2.mono (by have := hS1.2.2.2.2.2.2.2.1.size; omega))), (hS1.2.2.2.2.2.2.2.2.below hb2 (Nat.le_refl _))⟩ (fun hS2 => ?_)
        clear hK K
        have hB3_2 : Blk v2 s 27 #[Value.slice p n d, Value.slice o0 l0 c0, Value.slice o1 l1 c1, Value.slice o2 l2 c2, Value.slice oe ne ce, Value.int .i64 bud] := (hB3_1.below hb2 hB3_1.lt)
        have k1_2 : v2.cell? ⟨s, 1, none⟩ = some (.slice o0 l0 c0) := ((hb2.cell (cell_lt k1_1)).trans k1_1)
        have k2_2 : v2.cell? ⟨s, 2, none⟩ = some (.slice o1 l1 c1) := ((hb2.cell (cell_lt k2_1)).trans k2_1)
        have k3_2 : v2.cell? ⟨s, 3, none⟩ = some (.slice o2 l2 c2) := ((hb2.cell (cell_lt k3_1)).trans k3_1)
        have hT : NumsAt v2 .u8 p n F ∧ NumsAt v2 .u8 o0 l0 F0 ∧ NumsAt v2 .u8 o1 l1 F1 ∧ NumsAt v2 .u8 o2 l2 F2 ∧ Blk v2 (s + 1) 2 #[.int .i64 t] ∧ Blk v2 r 27 #[.slice none 0 0, .slice none 0 0, .slice none 0 0, .slice none 0 0, .slice none 0 0, .int .i64 0] ∧ EdgB v2 oe ne St Ln Up s ∧ Below s w v2 ∧ NumsAt v2 .u8 p0 l0 F0 ∧ NumsAt v2 .u8 p1 l1 F1 := ⟨hS2.1, hS2.2.1, hS2.2.2.1, hS2.2.2.2.1, hS2.2.2.2.2.1, hS2.2.2.2.2.2.1, hS2.2.2.2.2.2.2.1, hS2.2.2.2.2.2.2.2.1, hS2.2.2.2.2.2.2.2.2, a1⟩
        refine wpAnyH_mono (S' := fun W => NumsAt W .u8 p n F ∧ NumsAt W .u8 o0 l0 F0 ∧ NumsAt W .u8 o1 l1 F1 ∧ NumsAt W .u8 o2 l2 F2 ∧ Blk W (s + 1) 2 #[.int .i64 t] ∧ Blk W r 27 #[.slice none 0 0, .slice none 0 0, .slice none 0 0, .slice none 0 0, .slice none 0 0, .int .i64 0] ∧ EdgB W oe ne St Ln Up s ∧ Below s w W ∧ NumsAt W .u8 p0 l0 F0 ∧ NumsAt W .u8 p1 l1 F1) (fun _ h => ⟨h.1, h.2.1, h.2.2.1, h.2.2.2.1, h.2.2.2.2.1, h.2.2.2.2.2.1, h.2.2.2.2.2.2.1, h.2.2.2.2.2.2.2.1, h.2.2.2.2.2.2.2.2.1⟩) ?_
        clear hS2
        have hS2 := hT
        clear hT
        clear hb2 hS1
        simp only [List.getElem_toArray, List.getElem_cons_zero, List.getElem_cons_succ, Act.put, List.setIfInBounds_toArray, List.set_cons_zero, List.set_cons_succ]
        refine wpAnyH_ready (rs := [11]) (by kernel_rfl) (by simp) ?_
        refine AllReadyH.cons rfl (fun K hK => ?_) AllReadyH.nil
        go_simp
        refine (slClone_calls o2 l2 c2 F2 _ hn2 hS2.2.2.2.1).mono ?_
        rintro e v3 ⟨p2, d2, rfl, a2, hb3⟩
        (try go_simp)
        refine hK.out _ _ ⟨(hS2.1.below hb3 (Nat.le_refl _)), (hS2.2.1.below hb3 (Nat.le_refl _)), (hS2.2.2.1.below hb3 (Nat.le_refl _)), (hS2.2.2.2.1.below hb3 (Nat.le_refl _)), (hS2.2.2.2.2.1.below hb3 hS2.2.2.2.2.1.lt), (hS2.2.2.2.2.2.1.below hb3 hS2.2.2.2.2.2.1.lt), (by first | exact hS2.2.2.2.2.2.2.1.low hb3 | exact hS2.2.2.2.2.2.2.1.below hb3 (Nat.le_refl _)), (by first | exact hS2.2.2.2.2.2.2.2.1.trans (hb3.mono hS2.2.2.2.2.2.2.2.1.size) | exact hS2.2.2.2.2.2.2.2.1.trans (hb3.mono (by have := hS2.2.2.2.2.2.2.2.1.size; omega))), (hS2.2.2.2.2.2.2.2.2.1.below hb3 (Nat.le_refl _)), (hS2.2.2.2.2.2.2.2.2.2.below hb3 (Nat.le_refl _))⟩ (fun hS3 => ?_)
        clear hK K
        have hB3_3 : Blk v3 s 27 #[Value.slice p n d, Value.slice o0 l0 c0, Value.slice o1 l1 c1, Value.slice o2 l2 c2, Value.slice oe ne ce, Value.int .i64 bud] := (hB3_2.below hb3 hB3_2.lt)
        have k1_3 : v3.cell? ⟨s, 1, none⟩ = some (.slice o0 l0 c0) := ((hb3.cell (cell_lt k1_2)).trans k1_2)
        have k2_3 : v3.cell? ⟨s, 2, none⟩ = some (.slice o1 l1 c1) := ((hb3.cell (cell_lt k2_2)).trans k2_2)
        have k3_3 : v3.cell? ⟨s, 3, none⟩ = some (.slice o2 l2 c2) := ((hb3.cell (cell_lt k3_2)).trans k3_2)
        have hT : NumsAt v3 .u8 p n F ∧ NumsAt v3 .u8 o0 l0 F0 ∧ NumsAt v3 .u8 o1 l1 F1 ∧ NumsAt v3 .u8 o2 l2 F2 ∧ Blk v3 (s + 1) 2 #[.int .i64 t] ∧ Blk v3 r 27 #[.slice none 0 0, .slice none 0 0, .slice none 0 0, .slice none 0 0, .slice none 0 0, .int .i64 0] ∧ EdgB v3 oe ne St Ln Up s ∧ Below s w v3 ∧ NumsAt v3 .u8 p0 l0 F0 ∧ NumsAt v3 .u8 p1 l1 F1 ∧ NumsAt v3 .u8 p2 l2 F2 := ⟨hS3.1, hS3.2.1, hS3.2.2.1, hS3.2.2.2.1, hS3.2.2.2.2.1, hS3.2.2.2.2.2.1, hS3.2.2.2.2.2.2.1, hS3.2.2.2.2.2.2.2.1, hS3.2.2.2.2.2.2.2.2.1, hS3.2.2.2.2.2.2.2.2.2, a2⟩
        refine wpAnyH_mono (S' := fun W => NumsAt W .u8 p n F ∧ NumsAt W .u8 o0 l0 F0 ∧ NumsAt W .u8 o1 l1 F1 ∧ NumsAt W .u8 o2 l2 F2 ∧ Blk W (s + 1) 2 #[.int .i64 t] ∧ Blk W r 27 #[.slice none 0 0, .slice none 0 0, .slice none 0 0, .slice none 0 0, .slice none 0 0, .int .i64 0] ∧ EdgB W oe ne St Ln Up s ∧ Below s w W ∧ NumsAt W .u8 p0 l0 F0 ∧ NumsAt W .u8 p1 l1 F1 ∧ NumsAt W .u8 p2 l2 F2) (fun _ h => ⟨h.1, h.2.1, h.2.2.1, h.2.2.2.1, h.2.2.2.2.1, h.2.2.2.2.2.1, h.2.2.2.2.2.2.1, h.2.2.2.2.2.2.2.1, h.2.2.2.2.2.2.2.2.1, h.2.2.2.2.2.2.2.2.2.1⟩) ?_
        clear hS3
        have hS3 := hT
        clear hT
        clear hb3 hS2
        simp only [List.getElem_toArray, List.getElem_cons_zero, List.getElem_cons_succ, Act.put, List.setIfInBounds_toArray, List.set_cons_zero, List.set_cons_succ]
        refine wpAnyH_take (i := 12) (v := ?_) rfl (by kernel_rfl) (by kernel_rfl) (by kernel_rfl) (fun _ _ _ h => h) (Or.inl ⟨by rfl, ?_⟩) hS3 ?_
        rotate_left
        · (intro w hSw; (try dsimp only at hSw); go_simp; try with_reducible rfl)
        simp only [List.getElem_toArray, List.getElem_cons_zero, List.getElem_cons_succ, Act.put, List.setIfInBounds_toArray, List.set_cons_zero, List.set_cons_succ]
        refine wpAnyH_take (i := 13) (v := ?_) rfl (by kernel_rfl) (by kernel_rfl) (by kernel_rfl) (fun _ _ _ h => h) (Or.inl ⟨by rfl, ?_⟩) hS3 ?_
        rotate_left
        · (intro w hSw; (try dsimp only at hSw); go_simp; try with_reducible rfl)
        simp only [List.getElem_toArray, List.getElem_cons_zero, List.getElem_cons_succ, Act.put, List.setIfInBounds_toArray, List.set_cons_zero, List.set_cons_succ]
        refine wpAnyH_ready (rs := [14]) (by kernel_rfl) (by simp) ?_
        refine AllReadyH.cons rfl (fun K hK => ?_) AllReadyH.nil
        rw [if_pos (show Region.wanted _ _ = true from by rfl)]
        have hO := only_setCells (S := fun k => k = s) rfl (#[Value.slice p0 l0 d0, Value.slice p1 l1 d1, Value.slice p2 l2 d2] : Array Value).toList 1 v3 (Only.refl _ _)
        have hN : Blk (v3.setCells s 1 (#[Value.slice p0 l0 d0, Value.slice p1 l1 d1, Value.slice p2 l2 d2] : Array Value).toList) s 27 #[Value.slice p n d, Value.slice p0 l0 d0, Value.slice p1 l1 d1, Value.slice p2 l2 d2, Value.slice oe ne ce, Value.int .i64 bud] := Blk.set_ (Blk.set_ (Blk.set_ hB3_3 1 _) 2 _) 3 _
        refine wp_store_mid 24 _ _ rfl s 1 #[Value.slice p0 l0 d0, Value.slice p1 l1 d1, Value.slice p2 l2 d2] rfl rfl (blk_there hB3_3 (by show 1 + 3 ≤ 6; omega)) (by kernel_rfl) (by kernel_rfl) ?_
        refine hK.out _ _ ⟨nums_setCells hS3.1 hB3_3 no1.out _, nums_setCells hS3.2.1 hB3_3 no1.out _, nums_setCells hS3.2.2.1 hB3_3 no1.out _, nums_setCells hS3.2.2.2.1 hB3_3 no1.out _, hS3.2.2.2.2.1.only hO (by (first | omega | (dsimp only; omega))), hS3.2.2.2.2.2.1.only hO (by (first | omega | (dsimp only; omega))), hS3.2.2.2.2.2.2.1.only hO (fun k h => by (first | omega | (dsimp only; omega))), hS3.2.2.2.2.2.2.2.1.trans (hO.below (B := s) (by have := hS3.2.2.2.2.2.2.2.1.size; omega) (fun k e => by (first | omega | (dsimp only at e; omega)))), nums_setCells hS3.2.2.2.2.2.2.2.2.1 hB3_3 no1.out _, nums_setCells hS3.2.2.2.2.2.2.2.2.2.1 hB3_3 no1.out _, nums_setCells hS3.2.2.2.2.2.2.2.2.2.2 hB3_3 no1.out _⟩ (fun hS4 => ?_)
        clear hK K hS3
        generalize v3.setCells s 1 (#[Value.slice p0 l0 d0, Value.slice p1 l1 d1, Value.slice p2 l2 d2] : Array Value).toList = v4 at *
        simp only [List.getElem_toArray, List.getElem_cons_zero, List.getElem_cons_succ, Act.put, List.setIfInBounds_toArray, List.set_cons_zero, List.set_cons_succ]
        refine wpAnyH_done (by kernel_rfl) ?_ _
        have nn := hS4.1
        have mm0 := hS4.2.1
        have mm1 := hS4.2.2.1
        have mm2 := hS4.2.2.2.1
        have hq3 := hS4.2.2.2.2.1
        have hR3 := hS4.2.2.2.2.2.1
        have mE3 := hS4.2.2.2.2.2.2.1
        have hb3 := hS4.2.2.2.2.2.2.2.1
        have na0 := hS4.2.2.2.2.2.2.2.2.1
        have na1 := hS4.2.2.2.2.2.2.2.2.2.1
        have na2 := hS4.2.2.2.2.2.2.2.2.2.2
        clear hS4
        have hB3 := hB3_3
        have k1 := k1_3
        have k2 := k2_3
        have k3 := k3_3
        have HF : Hid (NumsAt v4 .u8 p n F ∧ NumsAt v4 .u8 p0 l0 F0 ∧ NumsAt v4 .u8 p1 l1 F1 ∧ NumsAt v4 .u8 p2 l2 F2) := ⟨nn, na0, na1, na2⟩
        clear nn na0 na1 na2 mm0 mm1 mm2 hB3 k1 k2 k3 no1 hO
        rename_i HV
        clear HV
        have k4 : v4.cell? ⟨s, 4, none⟩ = some (.slice oe ne ce) := hN.cell 4
        have hcl := edClone_calls oe ne ce St Ln Up v4 hne (mE3.mono (by have := hb3.size; omega))
        have HS : Hid (Blk v4 s 27 #[Value.slice p n d, Value.slice p0 l0 d0, Value.slice p1 l1 d1, Value.slice p2 l2 d2, Value.slice oe ne ce, Value.int .i64 bud] ∧ Blk v4 (s + 1) 2 #[.int .i64 t] ∧ Blk v4 r 27 #[.slice none 0 0, .slice none 0 0, .slice none 0 0, .slice none 0 0, .slice none 0 0, .int .i64 0] ∧ Below s w v4) := ⟨hN, hq3, hR3, hb3⟩
        clear hN hq3 hR3 mE3 hb3
        go_wp2_with fail
        refine hcl.mono ?_
        clear hcl k4
        rintro e w5 ⟨ve, rfl, hown, hb5⟩
        obtain ⟨hN, hq3, hR3, hb3⟩ := HS.out
        have hcut := edCut_calls ve ne (s + 1) v4.heap.size t St Ln Up w5 hne hown ((hq3.below hb5 hq3.lt).cell 0) hq3.lt hb5.size
        clear hown hN hq3 hR3 hb3
        go_wp2_with fail
        refine hcut.mono ?_
        clear hcut
        rintro e w6 ⟨pe, de, rfl, hsp, hE6, hb6⟩
        obtain ⟨hN, hq3, hR3, hb3⟩ := HS.out
        have hb56 := hb5.trans (hb6.mono (Nat.le_refl _))
        have hN6 := hN.below hb56 hN.lt
        have hR6 := hR3.below hb56 hR3.lt
        have hb06 := hb3.trans (hb56.mono (by have := hb3.size; omega))
        have k46 : w6.cell? ⟨s, 4, none⟩ = some (.slice oe ne ce) := hN6.cell 4
        have f46 := hN6.frozen 4
        have no2 : ∀ x, Value.int .u8 x ∉ (#[Value.slice p n d, Value.slice p0 l0 d0, Value.slice p1 l1 d1, Value.slice p2 l2 d2, Value.slice oe ne ce, Value.int .i64 bud] : Array Value).toList := by simp
        have no3 : ∀ x, Value.int .u8 x ∉ (#[Value.slice none 0 0, .slice none 0 0, .slice none 0 0, .slice none 0 0, .slice none 0 0, .int .i64 0] : Array Value).toList := by simp
        obtain ⟨nn, na0, na1, na2⟩ := HF.out
        have le := Nat.le_refl v4.heap.size
        have hO7 := Only.setCell (S := fun k => k = s) (Only.refl _ w6) ⟨s, 4, none⟩ rfl (.slice pe (kp t St ne).length de)
        have hN7 : Blk (w6.setCell ⟨s, 4, none⟩ (.slice pe (kp t St ne).length de)) s 27 #[Value.slice p n d, Value.slice p0 l0 d0, Value.slice p1 l1 d1, Value.slice p2 l2 d2, Value.slice pe (kp t St ne).length de, Value.int .i64 bud] := Blk.set_ hN6 4 _
        have hR7 := hR6.only hO7 (by (first | omega | (dsimp only; omega)))
        have hO8 := only_setRowB (w6.setCell ⟨s, 4, none⟩ (.slice pe (kp t St ne).length de)) r #[Value.slice p n d, Value.slice p0 l0 d0, Value.slice p1 l1 d1, Value.slice p2 l2 d2, Value.slice pe (kp t St ne).length de, Value.int .i64 bud]
        have FIN : Hid (NumsAt ((w6.setCell ⟨s, 4, none⟩ (.slice pe (kp t St ne).length de)).setRow r #[Value.slice p n d, Value.slice p0 l0 d0, Value.slice p1 l1 d1, Value.slice p2 l2 d2, Value.slice pe (kp t St ne).length de, Value.int .i64 bud]) .u8 p n F ∧ NumsAt ((w6.setCell ⟨s, 4, none⟩ (.slice pe (kp t St ne).length de)).setRow r #[Value.slice p n d, Value.slice p0 l0 d0, Value.slice p1 l1 d1, Value.slice p2 l2 d2, Value.slice pe (kp t St ne).length de, Value.int .i64 bud]) .u8 p0 l0 F0 ∧ NumsAt ((w6.setCell ⟨s, 4, none⟩ (.slice pe (kp t St ne).length de)).setRow r #[Value.slice p n d, Value.slice p0 l0 d0, Value.slice p1 l1 d1, Value.slice p2 l2 d2, Value.slice pe (kp t St ne).length de, Value.int .i64 bud]) .u8 p1 l1 F1 ∧ NumsAt ((w6.setCell ⟨s, 4, none⟩ (.slice pe (kp t St ne).length de)).setRow r #[Value.slice p n d, Value.slice p0 l0 d0, Value.slice p1 l1 d1, Value.slice p2 l2 d2, Value.slice pe (kp t St ne).length de, Value.int .i64 bud]) .u8 p2 l2 F2 ∧ EdgB ((w6.setCell ⟨s, 4, none⟩ (.slice pe (kp t St ne).length de)).setRow r #[Value.slice p n d, Value.slice p0 l0 d0, Value.slice p1 l1 d1, Value.slice p2 l2 d2, Value.slice pe (kp t St ne).length de, Value.int .i64 bud]) pe (kp t St ne).length (fun x => St (kpF t St ne x)) (fun x => Ln (kpF t St ne x)) (fun x => Up (kpF t St ne x)) ((w6.setCell ⟨s, 4, none⟩ (.slice pe (kp t St ne).length de)).setRow r #[Value.slice p n d, Value.slice p0 l0 d0, Value.slice p1 l1 d1, Value.slice p2 l2 d2, Value.slice pe (kp t St ne).length de, Value.int .i64 bud]).heap.size ∧ Below s w ((w6.setCell ⟨s, 4, none⟩ (.slice pe (kp t St ne).length de)).setRow r #[Value.slice p n d, Value.slice p0 l0 d0, Value.slice p1 l1 d1, Value.slice p2 l2 d2, Value.slice pe (kp t St ne).length de, Value.int .i64 bud])) :=
          ⟨nums_apart (nums_apart (nn.below hb56 le) hN6 no2 hO7) hR7 no3 hO8, nums_apart (nums_apart (na0.below hb56 le) hN6 no2 hO7) hR7 no3 hO8, nums_apart (nums_apart (na1.below hb56 le) hN6 no2 hO7) hR7 no3 hO8, nums_apart (nums_apart (na2.below hb56 le) hN6 no2 hO7) hR7 no3 hO8,
            (edg_apart (edg_apart hE6 hN6 no2 hO7) hR7 no3 hO8).mono (Nat.le_trans hO7.size hO8.size), (hb06.trans (hO7.below (B := s) (by have := hb06.size; omega) (fun k e => by (first | omega | (dsimp only at e; omega))))).trans (hO8.below (B := s) (by have := hb06.size; have := hO7.size; omega) (fun k e => by (first | omega | (dsimp only at e; omega))))⟩
        clear nn na0 na1 na2 hE6 hN hq3 hR3 hb3 hb5 hb6 hb56 hN6 hR6 hb06 hO7 hO8 no2 no3 le hsp
        go_wp2_with (first | (refine wpList_load_row rfl 27 _ rfl s rfl _ #[Value.slice p n d, Value.slice p0 l0 d0, Value.slice p1 l1 d1, Value.slice p2 l2 d2, Value.slice pe (kp t St ne).length de, Value.int .i64 bud] (0, 0) _ hN7 Tryd.underlying27 rfl (by kernel_rfl) ?_) | (refine wpList_store_row rfl 27 _ _ rfl r #[Value.slice p n d, Value.slice p0 l0 d0, Value.slice p1 l1 d1, Value.slice p2 l2 d2, Value.slice pe (kp t St ne).length de, Value.int .i64 bud] rfl rfl 27 _ hR7 (by kernel_rfl) rfl (by kernel_rfl) ?_))
        obtain ⟨y0, y1, y2, y3, y4, y5⟩ := FIN.out
        exact bodyPost_ret (results_cell_row rfl _ _ r 27 #[Value.slice p n d, Value.slice p0 l0 d0, Value.slice p1 l1 d1, Value.slice p2 l2 d2, Value.slice pe (kp t St ne).length de, Value.int .i64 bud] (0, 0) _ rfl (hR7.setRow _) Tryd.underlying27 rfl (by kernel_rfl)) rfl ⟨p, p0, p1, p2, pe, d, d0, d1, d2, de, rfl, y0, y1, y2, y3, y4, by rw [hsz]; exact y5⟩
      exact AllReadyH.nil
    refine AllReadyH.cons rfl (fun K hK => ?_) ?_
    · -- load 6
      go_simp
      refine hK.out _ _ hS0 (fun _ => ?_)
      clear hK K
      simp only [List.getElem_toArray, List.getElem_cons_zero, List.getElem_cons_succ, Act.put, List.setIfInBounds_toArray, List.set_cons_zero, List.set_cons_succ]
      refine wpAnyH_ready (rs := [3, 10]) (by kernel_rfl) (by simp) ?_
      refine AllReadyH.cons rfl (fun K hK => ?_) ?_
      · -- call 3
        go_simp
        refine (slClone_calls o0 l0 c0 F0 _ hn0 hS0.2.1).mono ?_
        rintro e v1 ⟨p0, d0, rfl, a0, hb1⟩
        (try go_simp)
        refine hK.out _ _ ⟨(hS0.1.below hb1 (Nat.le_refl _)), (hS0.2.1.below hb1 (Nat.le_refl _)), (hS0.2.2.1.below hb1 (Nat.le_refl _)), (hS0.2.2.2.1.below hb1 (Nat.le_refl _)), (hS0.2.2.2.2.1.below hb1 hS0.2.2.2.2.1.lt), (hS0.2.2.2.2.2.1.below hb1 hS0.2.2.2.2.2.1.lt), (by first | exact hS0.2.2.2.2.2.2.1.low hb1 | exact hS0.2.2.2.2.2.2.1.below hb1 (Nat.le_refl _)), (by first | exact hS0.2.2.2.2.2.2.2.trans (hb1.mono hS0.2.2.2.2.2.2.2.size) | exact hS0.2.2.2.2.2.2.2.trans (hb1.mono (by have := hS0.2.2.2.2.2.2.2.size; omega)))⟩ (fun hS1 => ?_)
        clear hK K
        have hB3_1 : Blk v1 s 27 #[Value.slice p n d, Value.slice o0 l0 c0, Value.slice o1 l1 c1, Value.slice o2 l2 c2, Value.slice oe ne ce, Value.int .i64 bud] := (hB3_0.below hb1 hB3_0.lt)
        have k1_1 : v1.cell? ⟨s, 1, none⟩ = some (.slice o0 l0 c0) := ((hb1.cell (cell_lt k1_0)).trans k1_0)
        have k2_1 : v1.cell? ⟨s, 2, none⟩ = some (.slice o1 l1 c1) := ((hb1.cell (cell_lt k2_0)).trans k2_0)
        have k3_1 : v1.cell? ⟨s, 3, none⟩ = some (.slice o2 l2 c2) := ((hb1.cell (cell_lt k3_0)).trans k3_0)
        have hT : NumsAt v1 .u8 p n F ∧ NumsAt v1 .u8 o0 l0 F0 ∧ NumsAt v1 .u8 o1 l1 F1 ∧ NumsAt v1 .u8 o2 l2 F2 ∧ Blk v1 (s + 1) 2 #[.int .i64 t] ∧ Blk v1 r 27 #[.slice none 0 0, .slice none 0 0, .slice none 0 0, .slice none 0 0, .slice none 0 0, .int .i64 0] ∧ EdgB v1 oe ne St Ln Up s ∧ Below s w v1 ∧ NumsAt v1 .u8 p0 l0 F0 := ⟨hS1.1, hS1.2.1, hS1.2.2.1, hS1.2.2.2.1, hS1.2.2.2.2.1, hS1.2.2.2.2.2.1, hS1.2.2.2.2.2.2.1, hS1.2.2.2.2.2.2.2, a0⟩
        refine wpAnyH_mono (S' := fun W => NumsAt W .u8 p n F ∧ NumsAt W .u8 o0 l0 F0 ∧ NumsAt W .u8 o1 l1 F1 ∧ NumsAt W .u8 o2 l2 F2 ∧ Blk W (s + 1) 2 #[.int .i64 t] ∧ Blk W r 27 #[.slice none 0 0, .slice none 0 0, .slice none 0 0, .slice none 0 0, .slice none 0 0, .int .i64 0] ∧ EdgB W oe ne St Ln Up s ∧ Below s w W ∧ NumsAt W .u8 p0 l0 F0) (fun _ h => ⟨h.1, h.2.1, h.2.2.1, h.2.2.2.1, h.2.2.2.2.1, h.2.2.2.2.2.1, h.2.2.2.2.2.2.1, h.2.2.2.2.2.2.2.1⟩) ?_
        clear hS1
        have hS1 := hT
        clear hT
        clear hb1 hS0
        simp only [List.getElem_toArray, List.getElem_cons_zero, List.getElem_cons_succ, Act.put, List.setIfInBounds_toArray, List.set_cons_zero, List.set_cons_succ]
        refine wpAnyH_ready (rs := [7, 10]) (by kernel_rfl) (by simp) ?_
        refine AllReadyH.cons rfl (fun K hK => ?_) ?_
        · -- call 7
          go_simp
          refine (slClone_calls o1 l1 c1 F1 _ hn1 hS1.2.2.1).mono ?_
          rintro e v2 ⟨p1, d1, rfl, a1, hb2⟩
          (try go_simp)
          refine hK.out _ _ ⟨(hS1.1.below hb2 (Nat.le_refl _)), (hS1.2.1.below hb2 (Nat.le_refl _)), (hS1.2.2.1.below hb2 (Nat.le_refl _)), (hS1.2.2.2.1.below hb2 (Nat.le_refl _)), (hS1.2.2.2.2.1.below hb2 hS1.2.2.2.2.1.lt), (hS1.2.2.2.2.2.1.below hb2 hS1.2.2.2.2.2.1.lt), (by first | exact hS1.2.2.2.2.2.2.1.low hb2 | exact hS1.2.2.2.2.2.2.1.below hb2 (Nat.le_refl _)), (by first | exact hS1.2.2.2.2.2.2.2.1.trans (hb2.mono hS1.2.2.2.2.2.2.2.1.size) | exact hS1.2.2.2.2.2.2.2.1.trans (hb2.mono (by have := hS1.2.2.2.2.2.2.2.1.size; omega))), (hS1.2.2.2.2.2.2.2.2.below hb2 (Nat.le_refl _))⟩ (fun hS2 => ?_)
          clear hK K
          have hB3_2 : Blk v2 s 27 #[Value.slice p n d, Value.slice o0 l0 c0, Value.slice o1 l1 c1, Value.slice o2 l2 c2, Value.slice oe ne ce, Value.int .i64 bud] := (hB3_1.below hb2 hB3_1.lt)
          have k1_2 : v2.cell? ⟨s, 1, none⟩ = some (.slice o0 l0 c0) := ((hb2.cell (cell_lt k1_1)).trans k1_1)
          have k2_2 : v2.cell? ⟨s, 2, none⟩ = some (.slice o1 l1 c1) := ((hb2.cell (cell_lt k2_1)).trans k2_1)
          have k3_2 : v2.cell? ⟨s, 3, none⟩ = some (.slice o2 l2 c2) := ((hb2.cell (cell_lt k3_1)).trans k3_1)
          have hT : NumsAt v2 .u8 p n F ∧ NumsAt v2 .u8 o0 l0 F0 ∧ NumsAt v2 .u8 o1 l1 F1 ∧ NumsAt v2 .u8 o2 l2 F2 ∧ Blk v2 (s + 1) 2 #[.int .i64 t] ∧ Blk v2 r 27 #[.slice none 0 0, .slice none 0 0, .slice none 0 0, .slice none 0 0, .slice none 0 0, .int .i64 0] ∧ EdgB v2 oe ne St Ln Up s ∧ Below s w v2 ∧ NumsAt v2 .u8 p0 l0 F0 ∧ NumsAt v2 .u8 p1 l1 F1 := ⟨hS2.1, hS2.2.1, hS2.2.2.1, hS2.2.2.2.1, hS2.2.2.2.2.1, hS2.2.2.2.2.2.1, hS2.2.2.2.2.2.2.1, hS2.2.2.2.2.2.2.2.1, hS2.2.2.2.2.2.2.2.2, a1⟩
          refine wpAnyH_mono (S' := fun W => NumsAt W .u8 p n F ∧ NumsAt W .u8 o0 l0 F0 ∧ NumsAt W .u8 o1 l1 F1 ∧ NumsAt W .u8 o2 l2 F2 ∧ Blk W (s + 1) 2 #[.int .i64 t] ∧ Blk W r 27 #[.slice none 0 0, .slice none 0 0, .slice none 0 0, .slice none 0 0, .slice none 0 0, .int .i64 0] ∧ EdgB W oe ne St Ln Up s ∧ Below s w W ∧ NumsAt W .u8 p0 l0 F0 ∧ NumsAt W .u8 p1 l1 F1) (fun _ h => ⟨h.1, h.2.1, h.2.2.1, h.2.2.2.1, h.2.2.2.2.1, h.2.2.2.2.2.1, h.2.2.2.2.2.2.1, h.2.2.2.2.2.2.2.1, h.2.2.2.2.2.2.2.2.1⟩) ?_
          clear hS2
          have hS2 := hT
          clear hT
          clear hb2 hS1
          simp only [List.getElem_toArray, List.getElem_cons_zero, List.getElem_cons_succ, Act.put, List.setIfInBounds_toArray, List.set_cons_zero, List.set_cons_succ]
          refine wpAnyH_ready (rs := [10]) (by kernel_rfl) (by simp) ?_
          refine AllReadyH.cons rfl (fun K hK => ?_) AllReadyH.nil
          go_simp
          refine hK.out _ _ hS2 (fun _ => ?_)
          clear hK K
          simp only [List.getElem_toArray, List.getElem_cons_zero, List.getElem_cons_succ, Act.put, List.setIfInBounds_toArray, List.set_cons_zero, List.set_cons_succ]
          refine wpAnyH_ready (rs := [11]) (by kernel_rfl) (by simp) ?_
          refine AllReadyH.cons rfl (fun K hK => ?_) AllReadyH.nil
          go_simp
          refine (slClone_calls o2 l2 c2 F2 _ hn2 hS2.2.2.2.1).mono ?_
          rintro e v3 ⟨p2, d2, rfl, a2, hb3⟩
          (try go_simp)
          refine hK.out _ _ ⟨(hS2.1.below hb3 (Nat.le_refl _)), (hS2.2.1.below hb3 (Nat.le_refl _)), (hS2.2.2.1.below hb3 (Nat.le_refl _)), (hS2.2.2.2.1.below hb3 (Nat.le_refl _)), (hS2.2.2.2.2.1.below hb3 hS2.2.2.2.2.1.lt), (hS2.2.2.2.2.2.1.below hb3 hS2.2.2.2.2.2.1.lt), (by first | exact hS2.2.2.2.2.2.2.1.low hb3 | exact hS2.2.2.2.2.2.2.1.below hb3 (Nat.le_refl _)), (by first | exact hS2.2.2.2.2.2.2.2.1.trans (hb3.mono hS2.2.2.2.2.2.2.2.1.size) | exact hS2.2.2.2.2.2.2.2.1.trans (hb3.mono (by have := hS2.2.2.2.2.2.2.2.1.size; omega))), (hS2.2.2.2.2.2.2.2.2.1.below hb3 (Nat.le_refl _)), (hS2.2.2.2.2.2.2.2.2.2.below hb3 (Nat.le_refl _))⟩ (fun hS3 => ?_)
          clear hK K
          have hB3_3 : Blk v3 s 27 #[Value.slice p n d, Value.slice o0 l0 c0, Value.slice o1 l1 c1, Value.slice o2 l2 c2, Value.slice oe ne ce, Value.int .i64 bud] := (hB3_2.below hb3 hB3_2.lt)
          have k1_3 : v3.cell? ⟨s, 1, none⟩ = some (.slice o0 l0 c0) := ((hb3.cell (cell_lt k1_2)).trans k1_2)
          have k2_3 : v3.cell? ⟨s, 2, none⟩ = some (.slice o1 l1 c1) := ((hb3.cell (cell_lt k2_2)).trans k2_2)
          have k3_3 : v3.cell? ⟨s, 3, none⟩ = some (.slice o2 l2 c2) := ((hb3.cell (cell_lt k3_2)).trans k3_2)
          have hT : NumsAt v3 .u8 p n F ∧ NumsAt v3 .u8 o0 l0 F0 ∧ NumsAt v3 .u8 o1 l1 F1 ∧ NumsAt v3 .u8 o2 l2 F2 ∧ Blk v3 (s + 1) 2 #[.int .i64 t] ∧ Blk v3 r 27 #[.slice none 0 0, .slice none 0 0, .slice none 0 0, .slice none 0 0, .slice none 0 0, .int .i64 0] ∧ EdgB v3 oe ne St Ln Up s ∧ Below s w v3 ∧ NumsAt v3 .u8 p0 l0 F0 ∧ NumsAt v3 .u8 p1 l1 F1 ∧ NumsAt v3 .u8 p2 l2 F2 := ⟨hS3.1, hS3.2.1, hS3.2.2.1, hS3.2.2.2.1, hS3.2.2.2.2.1, hS3.2.2.2.2.2.1, hS3.2.2.2.2.2.2.1, hS3.2.2.2.2.2.2.2.1, hS3.2.2.2.2.2.2.2.2.1, hS3.2.2.2.2.2.2.2.2.2, a2⟩
          refine wpAnyH_mono (S' := fun W => NumsAt W .u8 p n F ∧ NumsAt W .u8 o0 l0 F0 ∧ NumsAt W .u8 o1 l1 F1 ∧ NumsAt W .u8 o2 l2 F2 ∧ Blk W (s + 1) 2 #[.int .i64 t] ∧ Blk W r 27 #[.slice none 0 0, .slice none 0 0, .slice none 0 0, .slice none 0 0, .slice none 0 0, .int .i64 0] ∧ EdgB W oe ne St Ln Up s ∧ Below s w W ∧ NumsAt W .u8 p0 l0 F0 ∧ NumsAt W .u8 p1 l1 F1 ∧ NumsAt W .u8 p2 l2 F2) (fun _ h => ⟨h.1, h.2.1, h.2.2.1, h.2.2.2.1, h.2.2.2.2.1, h.2.2.2.2.2.1, h.2.2.2.2.2.2.1, h.2.2.2.2.2.2.2.1, h.2.2.2.2.2.2.2.2.1, h.2.2.2.2.2.2.2.2.2.1⟩) ?_
          clear hS3
          have hS3 := hT
          clear hT
          clear hb3 hS2
          simp only [List.getElem_toArray, List.getElem_cons_zero, List.getElem_cons_succ, Act.put, List.setIfInBounds_toArray, List.set_cons_zero, List.set_cons_succ]
          refine wpAnyH_take (i := 12) (v := ?_) rfl (by kernel_rfl) (by kernel_rfl) (by kernel_rfl) (fun _ _ _ h => h) (Or.inl ⟨by rfl, ?_⟩) hS3 ?_
          rotate_left
          · (intro w hSw; (try dsimp only at hSw); go_simp; try with_reducible rfl)
          simp only [List.getElem_toArray, List.getElem_cons_zero, List.getElem_cons_succ, Act.put, List.setIfInBounds_toArray, List.set_cons_zero, List.set_cons_succ]
          refine wpAnyH_take (i := 13) (v := ?_) rfl (by kernel_rfl) (by kernel_rfl) (by kernel_rfl) (fun _ _ _ h => h) (Or.inl ⟨by rfl, ?_⟩) hS3 ?_
          rotate_left
          · (intro w hSw; (try dsimp only at hSw); go_simp; try with_reducible rfl)
          simp only [List.getElem_toArray, List.getElem_cons_zero, List.getElem_cons_succ, Act.put, List.setIfInBounds_toArray, List.set_cons_zero, List.set_cons_succ]
          refine wpAnyH_ready (rs := [14]) (by kernel_rfl) (by simp) ?_
          refine AllReadyH.cons rfl (fun K hK => ?_) AllReadyH.nil
          rw [if_pos (show Region.wanted _ _ = true from by rfl)]
          have hO := only_setCells (S := fun k => k = s) rfl (#[Value.slice p0 l0 d0, Value.slice p1 l1 d1, Value.slice p2 l2 d2] : Array Value).toList 1 v3 (Only.refl _ _)
          have hN : Blk (v3.setCells s 1 (#[Value.slice p0 l0 d0, Value.slice p1 l1 d1, Value.slice p2 l2 d2] : Array Value).toList) s 27 #[Value.slice p n d, Value.slice p0 l0 d0, Value.slice p1 l1 d1, Value.slice p2 l2 d2, Value.slice oe ne ce, Value.int .i64 bud] := Blk.set_ (Blk.set_ (Blk.set_ hB3_3 1 _) 2 _) 3 _
          refine wp_store_mid 24 _ _ rfl s 1 #[Value.slice p0 l0 d0, Value.slice p1 l1 d1, Value.slice p2 l2 d2] rfl rfl (blk_there hB3_3 (by show 1 + 3 ≤ 6; omega)) (by kernel_rfl) (by kernel_rfl) ?_
          refine hK.out _ _ ⟨nums_setCells hS3.1 hB3_3 no1.out _, nums_setCells hS3.2.1 hB3_3 no1.out _, nums_setCells hS3.2.2.1 hB3_3 no1.out _, nums_setCells hS3.2.2.2.1 hB3_3 no1.out _, hS3.2.2.2.2.1.only hO (by (first | omega | (dsimp only; omega))), hS3.2.2.2.2.2.1.only hO (by (first | omega | (dsimp only; omega))), hS3.2.2.2.2.2.2.1.only hO (fun k h => by (first | omega | (dsimp only; omega))), hS3.2.2.2.2.2.2.2.1.trans (hO.below (B := s) (by have := hS3.2.2.2.2.2.2.2.1.size; omega) (fun k e => by (first | omega | (dsimp only at e; omega)))), nums_setCells hS3.2.2.2.2.2.2.2.2.1 hB3_3 no1.out _, nums_setCells hS3.2.2.2.2.2.2.2.2.2.1 hB3_3 no1.out _, nums_setCells hS3.2.2.2.2.2.2.2.2.2.2 hB3_3 no1.out _⟩ (fun hS4 => ?_)
          clear hK K hS3
          generalize v3.setCells s 1 (#[Value.slice p0 l0 d0, Value.slice p1 l1 d1, Value.slice p2 l2 d2] : Array Value).toList = v4 at *
          simp only [List.getElem_toArray, List.getElem_cons_zero, List.getElem_cons_succ, Act.put, List.setIfInBounds_toArray, List.set_cons_zero, List.set_cons_succ]
          refine wpAnyH_done (by kernel_rfl) ?_ _
          have nn := hS4.1
          have mm0 := hS4.2.1
          have mm1 := hS4.2.2.1
          have mm2 := hS4.2.2.2.1
          have hq3 := hS4.2.2.2.2.1
          have hR3 := hS4.2.2.2.2.2.1
          have mE3 := hS4.2.2.2.2.2.2.1
          have hb3 := hS4.2.2.2.2.2.2.2.1
          have na0 := hS4.2.2.2.2.2.2.2.2.1
          have na1 := hS4.2.2.2.2.2.2.2.2.2.1
          have na2 := hS4.2.2.2.2.2.2.2.2.2.2
          clear hS4
          have hB3 := hB3_3
          have k1 := k1_3
          have k2 := k2_3
          have k3 := k3_3
          have HF : Hid (NumsAt v4 .u8 p n F ∧ NumsAt v4 .u8 p0 l0 F0 ∧ NumsAt v4 .u8 p1 l1 F1 ∧ NumsAt v4 .u8 p2 l2 F2) := ⟨nn, na0, na1, na2⟩
          clear nn na0 na1 na2 mm0 mm1 mm2 hB3 k1 k2 k3 no1 hO
          rename_i HV
          clear HV
          have k4 : v4.cell? ⟨s, 4, none⟩ = some (.slice oe ne ce) := hN.cell 4
          have hcl := edClone_calls oe ne ce St Ln Up v4 hne (mE3.mono (by have := hb3.size; omega))
          have HS : Hid (Blk v4 s 27 #[Value.slice p n d, Value.slice p0 l0 d0, Value.slice p1 l1 d1, Value.slice p2 l2 d2, Value.slice oe ne ce, Value.int .i64 bud] ∧ Blk v4 (s + 1) 2 #[.int .i64 t] ∧ Blk v4 r 27 #[.slice none 0 0, .slice none 0 0, .slice none 0 0, .slice none 0 0, .slice none 0 0, .int .i64 0] ∧ Below s w v4) := ⟨hN, hq3, hR3, hb3⟩
          clear hN hq3 hR3 mE3 hb3
          go_wp2_with fail
          refine hcl.mono ?_
          clear hcl k4
          rintro e w5 ⟨ve, rfl, hown, hb5⟩
          obtain ⟨hN, hq3, hR3, hb3⟩ := HS.out
          have hcut := edCut_calls ve ne (s + 1) v4.heap.size t St Ln Up w5 hne hown ((hq3.below hb5 hq3.lt).cell 0) hq3.lt hb5.size
          clear hown hN hq3 hR3 hb3
          go_wp2_with fail
          refine hcut.mono ?_
          clear hcut
          rintro e w6 ⟨pe, de, rfl, hsp, hE6, hb6⟩
          obtain ⟨hN, hq3, hR3, hb3⟩ := HS.out
          have hb56 := hb5.trans (hb6.mono (Nat.le_refl _))
          have hN6 := hN.below hb56 hN.lt
          have hR6 := hR3.below hb56 hR3.lt
          have hb06 := hb3.trans (hb56.mono (by have := hb3.size; omega))
          have k46 : w6.cell? ⟨s, 4, none⟩ = some (.slice oe ne ce) := hN6.cell 4
          have f46 := hN6.frozen 4
          have no2 : ∀ x, Value.int .u8 x ∉ (#[Value.slice p n d, Value.slice p0 l0 d0, Value.slice p1 l1 d1, Value.slice p2 l2 d2, Value.slice oe ne ce, Value.int .i64 bud] : Array Value).toList := by simp
          have no3 : ∀ x, Value.int .u8 x ∉ (#[Value.slice none 0 0, .slice none 0 0, .slice none 0 0, .slice none 0 0, .slice none 0 0, .int .i64 0] : Array Value).toList := by simp
          obtain ⟨nn, na0, na1, na2⟩ := HF.out
          have le := Nat.le_refl v4.heap.size
          have hO7 := Only.setCell (S := fun k => k = s) (Only.refl _ w6) ⟨s, 4, none⟩ rfl (.slice pe (kp t St ne).length de)
          have hN7 : Blk (w6.setCell ⟨s, 4, none⟩ (.slice pe (kp t St ne).length de)) s 27 #[Value.slice p n d, Value.slice p0 l0 d0, Value.slice p1 l1 d1, Value.slice p2 l2 d2, Value.slice pe (kp t St ne).length de, Value.int .i64 bud] := Blk.set_ hN6 4 _
          have hR7 := hR6.only hO7 (by (first | omega | (dsimp only; omega)))
          have hO8 := only_setRowB (w6.setCell ⟨s, 4, none⟩ (.slice pe (kp t St ne).length de)) r #[Value.slice p n d, Value.slice p0 l0 d0, Value.slice p1 l1 d1, Value.slice p2 l2 d2, Value.slice pe (kp t St ne).length de, Value.int .i64 bud]
          have FIN : Hid (NumsAt ((w6.setCell ⟨s, 4, none⟩ (.slice pe (kp t St ne).length de)).setRow r #[Value.slice p n d, Value.slice p0 l0 d0, Value.slice p1 l1 d1, Value.slice p2 l2 d2, Value.slice pe (kp t St ne).length de, Value.int .i64 bud]) .u8 p n F ∧ NumsAt ((w6.setCell ⟨s, 4, none⟩ (.slice pe (kp t St ne).length de)).setRow r #[Value.slice p n d, Value.slice p0 l0 d0, Value.slice p1 l1 d1, Value.slice p2 l2 d2, Value.slice pe (kp t St ne).length de, Value.int .i64 bud]) .u8 p0 l0 F0 ∧ NumsAt ((w6.setCell ⟨s, 4, none⟩ (.slice pe (kp t St ne).length de)).setRow r #[Value.slice p n d, Value.slice p0 l0 d0, Value.slice p1 l1 d1, Value.slice p2 l2 d2, Value.slice pe (kp t St ne).length de, Value.int .i64 bud]) .u8 p1 l1 F1 ∧ NumsAt ((w6.setCell ⟨s, 4, none⟩ (.slice pe (kp t St ne).length de)).setRow r #[Value.slice p n d, Value.slice p0 l0 d0, Value.slice p1 l1 d1, Value.slice p2 l2 d2, Value.slice pe (kp t St ne).length de, Value.int .i64 bud]) .u8 p2 l2 F2 ∧ EdgB ((w6.setCell ⟨s, 4, none⟩ (.slice pe (kp t St ne).length de)).setRow r #[Value.slice p n d, Value.slice p0 l0 d0, Value.slice p1 l1 d1, Value.slice p2 l2 d2, Value.slice pe (kp t St ne).length de, Value.int .i64 bud]) pe (kp t St ne).length (fun x => St (kpF t St ne x)) (fun x => Ln (kpF t St ne x)) (fun x => Up (kpF t St ne x)) ((w6.setCell ⟨s, 4, none⟩ (.slice pe (kp t St ne).length de)).setRow r #[Value.slice p n d, Value.slice p0 l0 d0, Value.slice p1 l1 d1, Value.slice p2 l2 d2, Value.slice pe (kp t St ne).length de, Value.int .i64 bud]).heap.size ∧ Below s w ((w6.setCell ⟨s, 4, none⟩ (.slice pe (kp t St ne).length de)).setRow r #[Value.slice p n d, Value.slice p0 l0 d0, Value.slice p1 l1 d1, Value.slice p2 l2 d2, Value.slice pe (kp t St ne).length de, Value.int .i64 bud])) :=
            ⟨nums_apart (nums_apart (nn.below hb56 le) hN6 no2 hO7) hR7 no3 hO8, nums_apart (nums_apart (na0.below hb56 le) hN6 no2 hO7) hR7 no3 hO8, nums_apart (nums_apart (na1.below hb56 le) hN6 no2 hO7) hR7 no3 hO8, nums_apart (nums_apart (na2.below hb56 le) hN6 no2 hO7) hR7 no3 hO8,
              (edg_apart (edg_apart hE6 hN6 no2 hO7) hR7 no3 hO8).mono (Nat.le_trans hO7.size hO8.size), (hb06.trans (hO7.below (B := s) (by have := hb06.size; omega) (fun k e => by (first | omega | (dsimp only at e; omega))))).trans (hO8.below (B := s) (by have := hb06.size; have := hO7.size; omega) (fun k e => by (first | omega | (dsimp only at e; omega))))⟩
          clear nn na0 na1 na2 hE6 hN hq3 hR3 hb3 hb5 hb6 hb56 hN6 hR6 hb06 hO7 hO8 no2 no3 le hsp
          go_wp2_with (first | (refine wpList_load_row rfl 27 _ rfl s rfl _ #[Value.slice p n d, Value.slice p0 l0 d0, Value.slice p1 l1 d1, Value.slice p2 l2 d2, Value.slice pe (kp t St ne).length de, Value.int .i64 bud] (0, 0) _ hN7 Tryd.underlying27 rfl (by kernel_rfl) ?_) | (refine wpList_store_row rfl 27 _ _ rfl r #[Value.slice p n d, Value.slice p0 l0 d0, Value.slice p1 l1 d1, Value.slice p2 l2 d2, Value.slice pe (kp t St ne).length de, Value.int .i64 bud] rfl rfl 27 _ hR7 (by kernel_rfl) rfl (by kernel_rfl) ?_))
          obtain ⟨y0, y1, y2, y3, y4, y5⟩ := FIN.out
          exact bodyPost_ret (results_cell_row rfl _ _ r 27 #[Value.slice p n d, Value.slice p0 l0 d0, Value.slice p1 l1 d1, Value.slice p2 l2 d2, Value.slice pe (kp t St ne).length de, Value.int .i64 bud] (0, 0) _ rfl (hR7.setRow _) Tryd.underlying27 rfl (by kernel_rfl)) rfl ⟨p, p0, p1, p2, pe, d, d0, d1, d2, de, rfl, y0, y1, y2, y3, y4, by rw [hsz]; exact y5⟩
        refine AllReadyH.cons rfl (fun K hK => ?_) ?_
        · -- load 10
          go_simp
          refine hK.out _ _ hS1 (fun _ => ?_)
          clear hK K
          simp only [List.getElem_toArray, List.getElem_cons_zero, List.getElem_cons_succ, Act.put, List.setIfInBounds_toArray, List.set_cons_zero, List.set_cons_succ]
          refine wpAnyH_ready (rs := [7]) (by kernel_rfl) (by simp) ?_
          refine AllReadyH.cons rfl (fun K hK => ?_) AllReadyH.nil
          go_simp
          refine (slClone_calls o1 l1 c1 F1 _ hn1 hS1.2.2.1).mono ?_
          rintro e v2 ⟨p1, d1, rfl, a1, hb2⟩
          (try go_simp)
          refine hK.out _ _ ⟨(hS1.1.below hb2 (Nat.le_refl _)), (hS1.2.1.below hb2 (Nat.le_refl _)), (hS1.2.2.1.below hb2 (Nat.le_refl _)), (hS1.2.2.2.1.below hb2 (Nat.le_refl _)), (hS1.2.2.2.2.1.below hb2 hS1.2.2.2.2.1.lt), (hS1.2.2.2.2.2.1.below hb2 hS1.2.2.2.2.2.1.lt), (by first | exact hS1.2.2.2.2.2.2.1.low hb2 | exact hS1.2.2.2.2.2.2.1.below hb2 (Nat.le_refl _)), (by first | exact hS1.2.2.2.2.2.2.2.1.trans (hb2.mono hS1.2.2.2.2.2.2.2.1.size) | exact hS1.2.2.2.2.2.2.2.1.trans (hb2.mono (by have := hS1.2.2.2.2.2.2.2.1.size; omega))), (hS1.2.2.2.2.2.2.2.2.below hb2 (Nat.le_refl _))⟩ (fun hS2 => ?_)
          clear hK K
          have hB3_2 : Blk v2 s 27 #[Value.slice p n d, Value.slice o0 l0 c0, Value.slice o1 l1 c1, Value.slice o2 l2 c2, Value.slice oe ne ce, Value.int .i64 bud] := (hB3_1.below hb2 hB3_1.lt)
          have k1_2 : v2.cell? ⟨s, 1, none⟩ = some (.slice o0 l0 c0) := ((hb2.cell (cell_lt k1_1)).trans k1_1)
          have k2_2 : v2.cell? ⟨s, 2, none⟩ = some (.slice o1 l1 c1) := ((hb2.cell (cell_lt k2_1)).trans k2_1)
          have k3_2 : v2.cell? ⟨s, 3, none⟩ = some (.slice o2 l2 c2) := ((hb2.cell (cell_lt k3_1)).trans k3_1)
          have hT : NumsAt v2 .u8 p n F ∧ NumsAt v2 .u8 o0 l0 F0 ∧ NumsAt v2 .u8 o1 l1 F1 ∧ NumsAt v2 .u8 o2 l2 F2 ∧ Blk v2 (s + 1) 2 #[.int .i64 t] ∧ Blk v2 r 27 #[.slice none 0 0, .slice none 0 0, .slice none 0 0, .slice none 0 0, .slice none 0 0, .int .i64 0] ∧ EdgB v2 oe ne St Ln Up s ∧ Below s w v2 ∧ NumsAt v2 .u8 p0 l0 F0 ∧ NumsAt v2 .u8 p1 l1 F1 := ⟨hS2.1, hS2.2.1, hS2.2.2.1, hS2.2.2.2.1, hS2.2.2.2.2.1, hS2.2.2.2.2.2.1, hS2.2.2.2.2.2.2.1, hS2.2.2.2.2.2.2.2.1, hS2.2.2.2.2.2.2.2.2, a1⟩
          refine wpAnyH_mono (S' := fun W => NumsAt W .u8 p n F ∧ NumsAt W .u8 o0 l0 F0 ∧ NumsAt W .u8 o1 l1 F1 ∧ NumsAt W .u8 o2 l2 F2 ∧ Blk W (s + 1) 2 #[.int .i64 t] ∧ Blk W r 27 #[.slice none 0 0, .slice none 0 0, .slice none 0 0, .slice none 0 0, .slice none 0 0, .int .i64 0] ∧ EdgB W oe ne St Ln Up s ∧ Below s w W ∧ NumsAt W .u8 p0 l0 F0 ∧ NumsAt W .u8 p1 l1 F1) (fun _ h => ⟨h.1, h.2.1, h.2.2.1, h.2.2.2.1, h.2.2.2.2.1, h.2.2.2.2.2.1, h.2.2.2.2.2.2.1, h.2.2.2.2.2.2.2.1, h.2.2.2.2.2.2.2.2.1⟩) ?_
          clear hS2
          have hS2 := hT
          clear hT
          clear hb2 hS1
          simp only [List.getElem_toArray, List.getElem_cons_zero, List.getElem_cons_succ, Act.put, List.setIfInBounds_toArray, List.set_cons_zero, List.set_cons_succ]
          refine wpAnyH_ready (rs := [11]) (by kernel_rfl) (by simp) ?_
          refine AllReadyH.cons rfl (fun K hK => ?_) AllReadyH.nil
          go_simp
          refine (slClone_calls o2 l2 c2 F2 _ hn2 hS2.2.2.2.1).mono ?_
          rintro e v3 ⟨p2, d2, rfl, a2, hb3⟩
          (try go_simp)
          refine hK.out _ _ ⟨(hS2.1.below hb3 (Nat.le_refl _)), (hS2.2.1.below hb3 (Nat.le_refl _)), (hS2.2.2.1.below hb3 (Nat.le_refl _)), (hS2.2.2.2.1.below hb3 (Nat.le_refl _)), (hS2.2.2.2.2.1.below hb3 hS2.2.2.2.2.1.lt), (hS2.2.2.2.2.2.1.below hb3 hS2.2.2.2.2.2.1.lt), (by first | exact hS2.2.2.2.2.2.2.1.low hb3 | exact hS2.2.2.2.2.2.2.1.below hb3 (Nat.le_refl _)), (by first | exact hS2.2.2.2.2.2.2.2.1.trans (hb3.mono hS2.2.2.2.2.2.2.2.1.size) | exact hS2.2.2.2.2.2.2.2.1.trans (hb3.mono (by have := hS2.2.2.2.2.2.2.2.1.size; omega))), (hS2.2.2.2.2.2.2.2.2.1.below hb3 (Nat.le_refl _)), (hS2.2.2.2.2.2.2.2.2.2.below hb3 (Nat.le_refl _))⟩ (fun hS3 => ?_)
          clear hK K
          have hB3_3 : Blk v3 s 27 #[Value.slice p n d, Value.slice o0 l0 c0, Value.slice o1 l1 c1, Value.slice o2 l2 c2, Value.slice oe ne ce, Value.int .i64 bud] := (hB3_2.below hb3 hB3_2.lt)
          have k1_3 : v3.cell? ⟨s, 1, none⟩ = some (.slice o0 l0 c0) := ((hb3.cell (cell_lt k1_2)).trans k1_2)
          have k2_3 : v3.cell? ⟨s, 2, none⟩ = some (.slice o1 l1 c1) := ((hb3.cell (cell_lt k2_2)).trans k2_2)
          have k3_3 : v3.cell? ⟨s, 3, none⟩ = some (.slice o2 l2 c2) := ((hb3.cell (cell_lt k3_2)).trans k3_2)
          have hT : NumsAt v3 .u8 p n F ∧ NumsAt v3 .u8 o0 l0 F0 ∧ NumsAt v3 .u8 o1 l1 F1 ∧ NumsAt v3 .u8 o2 l2 F2 ∧ Blk v3 (s + 1) 2 #[.int .i64 t] ∧ Blk v3 r 27 #[.slice none 0 0, .slice none 0 0, .slice none 0 0, .slice none 0 0, .slice none 0 0, .int .i64 0] ∧ EdgB v3 oe ne St Ln Up s ∧ Below s w v3 ∧ NumsAt v3 .u8 p0 l0 F0 ∧ NumsAt v3 .u8 p1 l1 F1 ∧ NumsAt v3 .u8 p2 l2 F2 := ⟨hS3.1, hS3.2.1, hS3.2.2.1, hS3.2.2.2.1, hS3.2.2.2.2.1, hS3.2.2.2.2.2.1, hS3.2.2.2.2.2.2.1, hS3.2.2.2.2.2.2.2.1, hS3.2.2.2.2.2.2.2.2.1, hS3.2.2.2.2.2.2.2.2.2, a2⟩
          refine wpAnyH_mono (S' := fun W => NumsAt W .u8 p n F ∧ NumsAt W .u8 o0 l0 F0 ∧ NumsAt W .u8 o1 l1 F1 ∧ NumsAt W .u8 o2 l2 F2 ∧ Blk W (s + 1) 2 #[.int .i64 t] ∧ Blk W r 27 #[.slice none 0 0, .slice none 0 0, .slice none 0 0, .slice none 0 0, .slice none 0 0, .int .i64 0] ∧ EdgB W oe ne St Ln Up s ∧ Below s w W ∧ NumsAt W .u8 p0 l0 F0 ∧ NumsAt W .u8 p1 l1 F1 ∧ NumsAt W .u8 p2 l2 F2) (fun _ h => ⟨h.1, h.2.1, h.2.2.1, h.2.2.2.1, h.2.2.2.2.1, h.2.2.2.2.2.1, h.2.2.2.2.2.2.1, h.2.2.2.2.2.2.2.1, h.2.2.2.2.2.2.2.2.1, h.2.2.2.2.2.2.2.2.2.1⟩) ?_
          clear hS3
          have hS3 := hT
          clear hT
          clear hb3 hS2
          simp only [List.getElem_toArray, List.getElem_cons_zero, List.getElem_cons_succ, Act.put, List.setIfInBounds_toArray, List.set_cons_zero, List.set_cons_succ]
          refine wpAnyH_take (i := 12) (v := ?_) rfl (by kernel_rfl) (by kernel_rfl) (by kernel_rfl) (fun _ _ _ h => h) (Or.inl ⟨by rfl, ?_⟩) hS3 ?_
          rotate_left
          · (intro w hSw; (try dsimp only at hSw); go_simp; try with_reducible rfl)
          simp only [List.getElem_toArray, List.getElem_cons_zero, List.getElem_cons_succ, Act.put, List.setIfInBounds_toArray, List.set_cons_zero, List.set_cons_succ]
          refine wpAnyH_take (i := 13) (v := ?_) rfl (by kernel_rfl) (by kernel_rfl) (by kernel_rfl) (fun _ _ _ h => h) (Or.inl ⟨by rfl, ?_⟩) hS3 ?_
          rotate_left
          · (intro w hSw; (try dsimp only at hSw); go_simp; try with_reducible rfl)
          simp only [List.getElem_toArray, List.getElem_cons_zero, List.getElem_cons_succ, Act.put, List.setIfInBounds_toArray, List.set_cons_zero, List.set_cons_succ]
          refine wpAnyH_ready (rs := [14]) (by kernel_rfl) (by simp) ?_
          refine AllReadyH.cons rfl (fun K hK => ?_) AllReadyH.nil
          rw [if_pos (show Region.wanted _ _ = true from by rfl)]
          have hO := only_setCells (S := fun k => k = s) rfl (#[Value.slice p0 l0 d0, Value.slice p1 l1 d1, Value.slice p2 l2 d2] : Array Value).toList 1 v3 (Only.refl _ _)
          have hN : Blk (v3.setCells s 1 (#[Value.slice p0 l0 d0, Value.slice p1 l1 d1, Value.slice p2 l2 d2] : Array Value).toList) s 27 #[Value.slice p n d, Value.slice p0 l0 d0, Value.slice p1 l1 d1, Value.slice p2 l2 d2, Value.slice oe ne ce, Value.int .i64 bud] := Blk.set_ (Blk.set_ (Blk.set_ hB3_3 1 _) 2 _) 3 _
          refine wp_store_mid 24 _ _ rfl s 1 #[Value.slice p0 l0 d0, Value.slice p1 l1 d1, Value.slice p2 l2 d2] rfl rfl (blk_there hB3_3 (by show 1 + 3 ≤ 6; omega)) (by kernel_rfl) (by kernel_rfl) ?_
          refine hK.out _ _ ⟨nums_setCells hS3.1 hB3_3 no1.out _, nums_setCells hS3.2.1 hB3_3 no1.out _, nums_setCells hS3.2.2.1 hB3_3 no1.out _, nums_setCells hS3.2.2.2.1 hB3_3 no1.out _, hS3.2.2.2.2.1.only hO (by (first | omega | (dsimp only; omega))), hS3.2.2.2.2.2.1.only hO (by (first | omega | (dsimp only; omega))), hS3.2.2.2.2.2.2.1.only hO (fun k h => by (first | omega | (dsimp only; omega))), hS3.2.2.2.2.2.2.2.1.trans (hO.below (B := s) (by have := hS3.2.2.2.2.2.2.2.1.size; omega) (fun k e => by (first | omega | (dsimp only at e; omega)))), nums_setCells hS3.2.2.2.2.2.2.2.2.1 hB3_3 no1.out _, nums_setCells hS3.2.2.2.2.2.2.2.2.2.1 hB3_3 no1.out _, nums_setCells hS3.2.2.2.2.2.2.2.2.2.2 hB3_3 no1.out _⟩ (fun hS4 => ?_)
          clear hK K hS3
          generalize v3.setCells s 1 (#[Value.slice p0 l0 d0, Value.slice p1 l1 d1, Value.slice p2 l2 d2] : Array Value).toList = v4 at *
          simp only [List.getElem_toArray, List.getElem_cons_zero, List.getElem_cons_succ, Act.put, List.setIfInBounds_toArray, List.set_cons_zero, List.set_cons_succ]
          refine wpAnyH_done (by kernel_rfl) ?_ _
          have nn := hS4.1
          have mm0 := hS4.2.1
          have mm1 := hS4.2.2.1
          have mm2 := hS4.2.2.2.1
          have hq3 := hS4.2.2.2.2.1
          have hR3 := hS4.2.2.2.2.2.1
          have mE3 := hS4.2.2.2.2.2.2.1
          have hb3 := hS4.2.2.2.2.2.2.2.1
          have na0 := hS4.2.2.2.2.2.2.2.2.1
          have na1 := hS4.2.2.2.2.2.2.2.2.2.1
          have na2 := hS4.2.2.2.2.2.2.2.2.2.2
          clear hS4
          have hB3 := hB3_3
          have k1 := k1_3
          have k2 := k2_3
          have k3 := k3_3
          have HF : Hid (NumsAt v4 .u8 p n F ∧ NumsAt v4 .u8 p0 l0 F0 ∧ NumsAt v4 .u8 p1 l1 F1 ∧ NumsAt v4 .u8 p2 l2 F2) := ⟨nn, na0, na1, na2⟩
          clear nn na0 na1 na2 mm0 mm1 mm2 hB3 k1 k2 k3 no1 hO
          rename_i HV
          clear HV
          have k4 : v4.cell? ⟨s, 4, none⟩ = some (.slice oe ne ce) := hN.cell 4
          have hcl := edClone_calls oe ne ce St Ln Up v4 hne (mE3.mono (by have := hb3.size; omega))
          have HS : Hid (Blk v4 s 27 #[Value.slice p n d, Value.slice p0 l0 d0, Value.slice p1 l1 d1, Value.slice p2 l2 d2, Value.slice oe ne ce, Value.int .i64 bud] ∧ Blk v4 (s + 1) 2 #[.int .i64 t] ∧ Blk v4 r 27 #[.slice none 0 0, .slice none 0 0, .slice none 0 0, .slice none 0 0, .slice none 0 0, .int .i64 0] ∧ Below s w v4) := ⟨hN, hq3, hR3, hb3⟩
          clear hN hq3 hR3 mE3 hb3
          go_wp2_with fail
          refine hcl.mono ?_
          clear hcl k4
          rintro e w5 ⟨ve, rfl, hown, hb5⟩
          obtain ⟨hN, hq3, hR3, hb3⟩ := HS.out
          have hcut := edCut_calls ve ne (s + 1) v4.heap.size t St Ln Up w5 hne hown ((hq3.below hb5 hq3.lt).cell 0) hq3.lt hb5.size
          clear hown hN hq3 hR3 hb3
          go_wp2_with fail
          refine hcut.mono ?_
          clear hcut
          rintro e w6 ⟨pe, de, rfl, hsp, hE6, hb6⟩
          obtain ⟨hN, hq3, hR3, hb3⟩ := HS.out
          have hb56 := hb5.trans (hb6.mono (Nat.le_refl _))
          have hN6 := hN.below hb56 hN.lt
          have hR6 := hR3.below hb56 hR3.lt
          have hb06 := hb3.trans (hb56.mono (by have := hb3.size; omega))
          have k46 : w6.cell? ⟨s, 4, none⟩ = some (.slice oe ne ce) := hN6.cell 4
          have f46 := hN6.frozen 4
          have no2 : ∀ x, Value.int .u8 x ∉ (#[Value.slice p n d, Value.slice p0 l0 d0, Value.slice p1 l1 d1, Value.slice p2 l2 d2, Value.slice oe ne ce, Value.int .i64 bud] : Array Value).toList := by simp
          have no3 : ∀ x, Value.int .u8 x ∉ (#[Value.slice none 0 0, .slice none 0 0, .slice none 0 0, .slice none 0 0, .slice none 0 0, .int .i64 0] : Array Value).toList := by simp
          obtain ⟨nn, na0, na1, na2⟩ := HF.out
          have le := Nat.le_refl v4.heap.size
          have hO7 := Only.setCell (S := fun k => k = s) (Only.refl _ w6) ⟨s, 4, none⟩ rfl (.slice pe (kp t St ne).length de)
          have hN7 : Blk (w6.setCell ⟨s, 4, none⟩ (.slice pe (kp t St ne).length de)) s 27 #[Value.slice p n d, Value.slice p0 l0 d0, Value.slice p1 l1 d1, Value.slice p2 l2 d2, Value.slice pe (kp t St ne).length de, Value.int .i64 bud] := Blk.set_ hN6 4 _
          have hR7 := hR6.only hO7 (by (first | omega | (dsimp only; omega)))
          have hO8 := only_setRowB (w6.setCell ⟨s, 4, none⟩ (.slice pe (kp t St ne).length de)) r #[Value.slice p n d, Value.slice p0 l0 d0, Value.slice p1 l1 d1, Value.slice p2 l2 d2, Value.slice pe (kp t St ne).length de, Value.int .i64 bud]
          have FIN : Hid (NumsAt ((w6.setCell ⟨s, 4, none⟩ (.slice pe (kp t St ne).length de)).setRow r #[Value.slice p n d, Value.slice p0 l0 d0, Value.slice p1 l1 d1, Value.slice p2 l2 d2, Value.slice pe (kp t St ne).length de, Value.int .i64 bud]) .u8 p n F ∧ NumsAt ((w6.setCell ⟨s, 4, none⟩ (.slice pe (kp t St ne).length de)).setRow r #[Value.slice p n d, Value.slice p0 l0 d0, Value.slice p1 l1 d1, Value.slice p2 l2 d2, Value.slice pe (kp t St ne).length de, Value.int .i64 bud]) .u8 p0 l0 F0 ∧ NumsAt ((w6.setCell ⟨s, 4, none⟩ (.slice pe (kp t St ne).length de)).setRow r #[Value.slice p n d, Value.slice p0 l0 d0, Value.slice p1 l1 d1, Value.slice p2 l2 d2, Value.slice pe (kp t St ne).length de, Value.int .i64 bud]) .u8 p1 l1 F1 ∧ NumsAt ((w6.setCell ⟨s, 4, none⟩ (.slice pe (kp t St ne).length de)).setRow r #[Value.slice p n d, Value.slice p0 l0 d0, Value.slice p1 l1 d1, Value.slice p2 l2 d2, Value.slice pe (kp t St ne).length de, Value.int .i64 bud]) .u8 p2 l2 F2 ∧ EdgB ((w6.setCell ⟨s, 4, none⟩ (.slice pe (kp t St ne).length de)).setRow r #[Value.slice p n d, Value.slice p0 l0 d0, Value.slice p1 l1 d1, Value.slice p2 l2 d2, Value.slice pe (kp t St ne).length de, Value.int .i64 bud]) pe (kp t St ne).length (fun x => St (kpF t St ne x)) (fun x => Ln (kpF t St ne x)) (fun x => Up (kpF t St ne x)) ((w6.setCell ⟨s, 4, none⟩ (.slice pe (kp t St ne).length de)).setRow r #[Value.slice p n d, Value.slice p0 l0 d0, Value.slice p1 l1 d1, Value.slice p2 l2 d2, Value.slice pe (kp t St ne).length de, Value.int .i64 bud]).heap.size ∧ Below s w ((w6.setCell ⟨s, 4, none⟩ (.slice pe (kp t St ne).length de)).setRow r #[Value.slice p n d, Value.slice p0 l0 d0, Value.slice p1 l1 d1, Value.slice p2 l2 d2, Value.slice pe (kp t St ne).length de, Value.int .i64 bud])) :=
            ⟨nums_apart (nums_apart (nn.below hb56 le) hN6 no2 hO7) hR7 no3 hO8, nums_apart (nums_apart (na0.below hb56 le) hN6 no2 hO7) hR7 no3 hO8, nums_apart (nums_apart (na1.below hb56 le) hN6 no2 hO7) hR7 no3 hO8, nums_apart (nums_apart (na2.below hb56 le) hN6 no2 hO7) hR7 no3 hO8,
              (edg_apart (edg_apart hE6 hN6 no2 hO7) hR7 no3 hO8).mono (Nat.le_trans hO7.size hO8.size), (hb06.trans (hO7.below (B := s) (by have := hb06.size; omega) (fun k e => by (first | omega | (dsimp only at e; omega))))).trans (hO8.below (B := s) (by have := hb06.size; have := hO7.size; omega) (fun k e => by (first | omega | (dsimp only at e; omega))))⟩
          clear nn na0 na1 na2 hE6 hN hq3 hR3 hb3 hb5 hb6 hb56 hN6 hR6 hb06 hO7 hO8 no2 no3 le hsp
          go_wp2_with (first | (refine wpList_load_row rfl 27 _ rfl s rfl _ #[Value.slice p n d, Value.slice p0 l0 d0, Value.slice p1 l1 d1, Value.slice p2 l2 d2, Value.slice pe (kp t St ne).length de, Value.int .i64 bud] (0, 0) _ hN7 Tryd.underlying27 rfl (by kernel_rfl) ?_) | (refine wpList_store_row rfl 27 _ _ rfl r #[Value.slice p n d, Value.slice p0 l0 d0, Value.slice p1 l1 d1, Value.slice p2 l2 d2, Value.slice pe (kp t St ne).length de, Value.int .i64 bud] rfl rfl 27 _ hR7 (by kernel_rfl) rfl (by kernel_rfl) ?_))
          obtain ⟨y0, y1, y2, y3, y4, y5⟩ := FIN.out
          exact bodyPost_ret (results_cell_row rfl _ _ r 27 #[Value.slice p n d, Value.slice p0 l0 d0, Value.slice p1 l1 d1, Value.slice p2 l2 d2, Value.slice pe (kp t St ne).length de, Value.int .i64 bud] (0, 0) _ rfl (hR7.setRow _) Tryd.underlying27 rfl (by kernel_rfl)) rfl ⟨p, p0, p1, p2, pe, d, d0, d1, d2, de, rfl, y0, y1, y2, y3, y4, by rw [hsz]; exact y5⟩
        exact AllReadyH.nil
      refine AllReadyH.cons rfl (fun K hK => ?_) ?_
      · -- load 10
        go_simp
        refine hK.out _ _ hS0 (fun _ => ?_)
        clear hK K
        simp only [List.getElem_toArray, List.getElem_cons_zero, List.getElem_cons_succ, Act.put, List.setIfInBounds_toArray, List.set_cons_zero, List.set_cons_succ]
        refine wpAnyH_ready (rs := [3]) (by kernel_rfl) (by simp) ?_
        refine AllReadyH.cons rfl (fun K hK => ?_) AllReadyH.nil
        go_simp
        refine (slClone_calls o0 l0 c0 F0 _ hn0 hS0.2.1).mono ?_
        rintro e v1 ⟨p0, d0, rfl, a0, hb1⟩
        (try go_simp)
        refine hK.out _ _ ⟨(hS0.1.below hb1 (Nat.le_refl _)), (hS0.2.1.below hb1 (Nat.le_refl _)), (hS0.2.2.1.below hb1 (Nat.le_refl _)), (hS0.2.2.2.1.below hb1 (Nat.le_refl _)), (hS0.2.2.2.2.1.below hb1 hS0.2.2.2.2.1.lt), (hS0.2.2.2.2.2.1.below hb1 hS0.2.2.2.2.2.1.lt), (by first | exact hS0.2.2.2.2.2.2.1.low hb1 | exact hS0.2.2.2.2.2.2.1.below hb1 (Nat.le_refl _)), (by first | exact hS0.2.2.2.2.2.2.2.trans (hb1.mono hS0.2.2.2.2.2.2.2.size) | exact hS0.2.2.2.2.2.2.2.trans (hb1.mono (by have := hS0.2.2.2.2.2.2.2.size; omega)))⟩ (fun hS1 => ?_)
        clear hK K
        have hB3_1 : Blk v1 s 27 #[Value.slice p n d, Value.slice o0 l0 c0, Value.slice o1 l1 c1, Value.slice o2 l2 c2, Value.slice oe ne ce, Value.int .i64 bud] := (hB3_0.below hb1 hB3_0.lt)
        have k1_1 : v1.cell? ⟨s, 1, none⟩ = some (.slice o0 l0 c0) := ((hb1.cell (cell_lt k1_0)).trans k1_0)
        have k2_1 : v1.cell? ⟨s, 2, none⟩ = some (.slice o1 l1 c1) := ((hb1.cell (cell_lt k2_0)).trans k2_0)
        have k3_1 : v1.cell? ⟨s, 3, none⟩ = some (.slice o2 l2 c2) := ((hb1.cell (cell_lt k3_0)).trans k3_0)
        have hT : NumsAt v1 .u8 p n F ∧ NumsAt v1 .u8 o0 l0 F0 ∧ NumsAt v1 .u8 o1 l1 F1 ∧ NumsAt v1 .u8 o2 l2 F2 ∧ Blk v1 (s + 1) 2 #[.int .i64 t] ∧ Blk v1 r 27 #[.slice none 0 0, .slice none 0 0, .slice none 0 0, .slice none 0 0, .slice none 0 0, .int .i64 0] ∧ EdgB v1 oe ne St Ln Up s ∧ Below s w v1 ∧ NumsAt v1 .u8 p0 l0 F0 := ⟨hS1.1, hS1.2.1, hS1.2.2.1, hS1.2.2.2.1, hS1.2.2.2.2.1, hS1.2.2.2.2.2.1, hS1.2.2.2.2.2.2.1, hS1.2.2.2.2.2.2.2, a0⟩
        refine wpAnyH_mono (S' := fun W => NumsAt W .u8 p n F ∧ NumsAt W .u8 o0 l0 F0 ∧ NumsAt W .u8 o1 l1 F1 ∧ NumsAt W .u8 o2 l2 F2 ∧ Blk W (s + 1) 2 #[.int .i64 t] ∧ Blk W r 27 #[.slice none 0 0, .slice none 0 0, .slice none 0 0, .slice none 0 0, .slice none 0 0, .int .i64 0] ∧ EdgB W oe ne St Ln Up s ∧ Below s w W ∧ NumsAt W .u8 p0 l0 F0) (fun _ h => ⟨h.1, h.2.1, h.2.2.1, h.2.2.2.1, h.2.2.2.2.1, h.2.2.2.2.2.1, h.2.2.2.2.2.2.1, h.2.2.2.2.2.2.2.1⟩) ?_
        clear hS1
        have hS1 := hT
        clear hT
        clear hb1 hS0
        simp only [List.getElem_toArray, List.getElem_cons_zero, List.getElem_cons_succ, Act.put, List.setIfInBounds_toArray, List.set_cons_zero, List.set_cons_succ]
        refine wpAnyH_ready (rs := [7]) (by kernel_rfl) (by simp) ?_
        refine AllReadyH.cons rfl (fun K hK => ?_) AllReadyH.nil
        go_simp
        refine (slClone_calls o1 l1 c1 F1 _ hn1 hS1.2.2.1).mono ?_
        rintro e v2 ⟨p1, d1, rfl, a1, hb2⟩
        (try go_simp)
        refine hK.out _ _ ⟨(hS1.1.below hb2 (Nat.le_refl _)), (hS1.2.1.below hb2 (Nat.le_refl _)), (hS1.2.2.1.below hb2 (Nat.le_refl _)), (hS1.2.2.2.1.below hb2 (Nat.le_refl _)), (hS1.2.2.2.2.1.below hb2 hS1.2.2.2.2.1.lt), (hS1.2.2.2.2.2.1.below hb2 hS1.2.2.2.2.2.1.lt), (by first | exact hS1.2.2.2.2.2.2.1.low hb2 | exact hS1.2.2.2.2.2.2.1.below hb2 (Nat.le_refl _)), (by first | exact hS1.2.2.2.2.2.2.2.1.trans (hb2.mono hS1.2.2.2.2.2.2.2.1.size) | exact hS1.2.2.2.2.2.2.2.1.trans (hb2.mono (by have := hS1.2.2.2.2.2.2.2.1.size; omega))), (hS1.2.2.2.2.2.2.2.2.below hb2 (Nat.le_refl _))⟩ (fun hS2 => ?_)
        clear hK K
        have hB3_2 : Blk v2 s 27 #[Value.slice p n d, Value.slice o0 l0 c0, Value.slice o1 l1 c1, Value.slice o2 l2 c2, Value.slice oe ne ce, Value.int .i64 bud] := (hB3_1.below hb2 hB3_1.lt)
        have k1_2 : v2.cell? ⟨s, 1, none⟩ = some (.slice o0 l0 c0) := ((hb2.cell (cell_lt k1_1)).trans k1_1)
        have k2_2 : v2.cell? ⟨s, 2, none⟩ = some (.slice o1 l1 c1) := ((hb2.cell (cell_lt k2_1)).trans k2_1)
        have k3_2 : v2.cell? ⟨s, 3, none⟩ = some (.slice o2 l2 c2) := ((hb2.cell (cell_lt k3_1)).trans k3_1)
        have hT : NumsAt v2 .u8 p n F ∧ NumsAt v2 .u8 o0 l0 F0 ∧ NumsAt v2 .u8 o1 l1 F1 ∧ NumsAt v2 .u8 o2 l2 F2 ∧ Blk v2 (s + 1) 2 #[.int .i64 t] ∧ Blk v2 r 27 #[.slice none 0 0, .slice none 0 0, .slice none 0 0, .slice none 0 0, .slice none 0 0, .int .i64 0] ∧ EdgB v2 oe ne St Ln Up s ∧ Below s w v2 ∧ NumsAt v2 .u8 p0 l0 F0 ∧ NumsAt v2 .u8 p1 l1 F1 := ⟨hS2.1, hS2.2.1, hS2.2.2.1, hS2.2.2.2.1, hS2.2.2.2.2.1, hS2.2.2.2.2.2.1, hS2.2.2.2.2.2.2.1, hS2.2.2.2.2.2.2.2.1, hS2.2.2.2.2.2.2.2.2, a1⟩
        refine wpAnyH_mono (S' := fun W => NumsAt W .u8 p n F ∧ NumsAt W .u8 o0 l0 F0 ∧ NumsAt W .u8 o1 l1 F1 ∧ NumsAt W .u8 o2 l2 F2 ∧ Blk W (s + 1) 2 #[.int .i64 t] ∧ Blk W r 27 #[.slice none 0 0, .slice none 0 0, .slice none 0 0, .slice none 0 0, .slice none 0 0, .int .i64 0] ∧ EdgB W oe ne St Ln Up s ∧ Below s w W ∧ NumsAt W .u8 p0 l0 F0 ∧ NumsAt W .u8 p1 l1 F1) (fun _ h => ⟨h.1, h.2.1, h.2.2.1, h.2.2.2.1, h.2.2.2.2.1, h.2.2.2.2.2.1, h.2.2.2.2.2.2.1, h.2.2.2.2.2.2.2.1, h.2.2.2.2.2.2.2.2.1⟩) ?_
        clear hS2
        have hS2 := hT
        clear hT
        clear hb2 hS1
        simp only [List.getElem_toArray, List.getElem_cons_zero, List.getElem_cons_succ, Act.put, List.setIfInBounds_toArray, List.set_cons_zero, List.set_cons_succ]
        refine wpAnyH_ready (rs := [11]) (by kernel_rfl) (by simp) ?_
        refine AllReadyH.cons rfl (fun K hK => ?_) AllReadyH.nil
        go_simp
        refine (slClone_calls o2 l2 c2 F2 _ hn2 hS2.2.2.2.1).mono ?_
        rintro e v3 ⟨p2, d2, rfl, a2, hb3⟩
        (try go_simp)
        refine hK.out _ _ ⟨(hS2.1.below hb3 (Nat.le_refl _)), (hS2.2.1.below hb3 (Nat.le_refl _)), (hS2.2.2.1.below hb3 (Nat.le_refl _)), (hS2.2.2.2.1.below hb3 (Nat.le_refl _)), (hS2.2.2.2.2.1.below hb3 hS2.2.2.2.2.1.lt), (hS2.2.2.2.2.2.1.below hb3 hS2.2.2.2.2.2.1.lt), (by first | exact hS2.2.2.2.2.2.2.1.low hb3 | exact hS2.2.2.2.2.2.2.1.below hb3 (Nat.le_refl _)), (by first | exact hS2.2.2.2.2.2.2.2.1.trans (hb3.mono hS2.2.2.2.2.2.2.2.1.size) | exact hS2.2.2.2.2.2.2.2.1.trans (hb3.mono (by have := hS2.2.2.2.2.2.2.2.1.size; omega))), (hS2.2.2.2.2.2.2.2.2.1.below hb3 (Nat.le_refl _)), (hS2.2.2.2.2.2.2.2.2.2.below hb3 (Nat.le_refl _))⟩ (fun hS3 => ?_)
        clear hK K
        have hB3_3 : Blk v3 s 27 #[Value.slice p n d, Value.slice o0 l0 c0, Value.slice o1 l1 c1, Value.slice o2 l2 c2, Value.slice oe ne ce, Value.int .i64 bud] := (hB3_2.below hb3 hB3_2.lt)
        have k1_3 : v3.cell? ⟨s, 1, none⟩ = some (.slice o0 l0 c0) := ((hb3.cell (cell_lt k1_2)).trans k1_2)
        have k2_3 : v3.cell? ⟨s, 2, none⟩ = some (.slice o1 l1 c1) := ((hb3.cell (cell_lt k2_2)).trans k2_2)
        have k3_3 : v3.cell? ⟨s, 3, none⟩ = some (.slice o2 l2 c2) := ((hb3.cell (cell_lt k3_2)).trans k3_2)
        have hT : NumsAt v3 .u8 p n F ∧ NumsAt v3 .u8 o0 l0 F0 ∧ NumsAt v3 .u8 o1 l1 F1 ∧ NumsAt v3 .u8 o2 l2 F2 ∧ Blk v3 (s + 1) 2 #[.int .i64 t] ∧ Blk v3 r 27 #[.slice none 0 0, .slice none 0 0, .slice none 0 0, .slice none 0 0, .slice none 0 0, .int .i64 0] ∧ EdgB v3 oe ne St Ln Up s ∧ Below s w v3 ∧ NumsAt v3 .u8 p0 l0 F0 ∧ NumsAt v3 .u8 p1 l1 F1 ∧ NumsAt v3 .u8 p2 l2 F2 := ⟨hS3.1, hS3.2.1, hS3.2.2.1, hS3.2.2.2.1, hS3.2.2.2.2.1, hS3.2.2.2.2.2.1, hS3.2.2.2.2.2.2.1, hS3.2.2.2.2.2.2.2.1, hS3.2.2.2.2.2.2.2.2.1, hS3.2.2.2.2.2.2.2.2.2, a2⟩
        refine wpAnyH_mono (S' := fun W => NumsAt W .u8 p n F ∧ NumsAt W .u8 o0 l0 F0 ∧ NumsAt W .u8 o1 l1 F1 ∧ NumsAt W .u8 o2 l2 F2 ∧ Blk W (s + 1) 2 #[.int .i64 t] ∧ Blk W r 27 #[.slice none 0 0, .slice none 0 0, .slice none 0 0, .slice none 0 0, .slice none 0 0, .int .i64 0] ∧ EdgB W oe ne St Ln Up s ∧ Below s w W ∧ NumsAt W .u8 p0 l0 F0 ∧ NumsAt W .u8 p1 l1 F1 ∧ NumsAt W .u8 p2 l2 F2) (fun _ h => ⟨h.1, h.2.1, h.2.2.1, h.2.2.2.1, h.2.2.2.2.1, h.2.2.2.2.2.1, h.2.2.2.2.2.2.1, h.2.2.2.2.2.2.2.1, h.2.2.2.2.2.2.2.2.1, h.2.2.2.2.2.2.2.2.2.1⟩) ?_
        clear hS3
        have hS3 := hT
        clear hT
        clear hb3 hS2
        simp only [List.getElem_toArray, List.getElem_cons_zero, List.getElem_cons_succ, Act.put, List.setIfInBounds_toArray, List.set_cons_zero, List.set_cons_succ]
        refine wpAnyH_take (i := 12) (v := ?_) rfl (by kernel_rfl) (by kernel_rfl) (by kernel_rfl) (fun _ _ _ h => h) (Or.inl ⟨by rfl, ?_⟩) hS3 ?_
        rotate_left
        · (intro w hSw; (try dsimp only at hSw); go_simp; try with_reducible rfl)
        simp only [List.getElem_toArray, List.getElem_cons_zero, List.getElem_cons_succ, Act.put, List.setIfInBounds_toArray, List.set_cons_zero, List.set_cons_succ]
        refine wpAnyH_take (i := 13) (v := ?_) rfl (by kernel_rfl) (by kernel_rfl) (by kernel_rfl) (fun _ _ _ h => h) (Or.inl ⟨by rfl, ?_⟩) hS3 ?_
        rotate_left
        · (intro w hSw; (try dsimp only at hSw); go_simp; try with_reducible rfl)
        simp only [List.getElem_toArray, List.getElem_cons_zero, List.getElem_cons_succ, Act.put, List.setIfInBounds_toArray, List.set_cons_zero, List.set_cons_succ]
        refine wpAnyH_ready (rs := [14]) (by kernel_rfl) (by simp) ?_
        refine AllReadyH.cons rfl (fun K hK => ?_) AllReadyH.nil
        rw [if_pos (show Region.wanted _ _ = true from by rfl)]
        have hO := only_setCells (S := fun k => k = s) rfl (#[Value.slice p0 l0 d0, Value.slice p1 l1 d1, Value.slice p2 l2 d2] : Array Value).toList 1 v3 (Only.refl _ _)
        have hN : Blk (v3.setCells s 1 (#[Value.slice p0 l0 d0, Value.slice p1 l1 d1, Value.slice p2 l2 d2] : Array Value).toList) s 27 #[Value.slice p n d, Value.slice p0 l0 d0, Value.slice p1 l1 d1, Value.slice p2 l2 d2, Value.slice oe ne ce, Value.int .i64 bud] := Blk.set_ (Blk.set_ (Blk.set_ hB3_3 1 _) 2 _) 3 _
        refine wp_store_mid 24 _ _ rfl s 1 #[Value.slice p0 l0 d0, Value.slice p1 l1 d1, Value.slice p2 l2 d2] rfl rfl (blk_there hB3_3 (by show 1 + 3 ≤ 6; omega)) (by kernel_rfl) (by kernel_rfl) ?_
        refine hK.out _ _ ⟨nums_setCells hS3.1 hB3_3 no1.out _, nums_setCells hS3.2.1 hB3_3 no1.out _, nums_setCells hS3.2.2.1 hB3_3 no1.out _, nums_setCells hS3.2.2.2.1 hB3_3 no1.out _, hS3.2.2.2.2.1.only hO (by (first | omega | (dsimp only; omega))), hS3.2.2.2.2.2.1.only hO (by (first | omega | (dsimp only; omega))), hS3.2.2.2.2.2.2.1.only hO (fun k h => by (first | omega | (dsimp only; omega))), hS3.2.2.2.2.2.2.2.1.trans (hO.below (B := s) (by have := hS3.2.2.2.2.2.2.2.1.size; omega) (fun k e => by (first | omega | (dsimp only at e; omega)))), nums_setCells hS3.2.2.2.2.2.2.2.2.1 hB3_3 no1.out _, nums_setCells hS3.2.2.2.2.2.2.2.2.2.1 hB3_3 no1.out _, nums_setCells hS3.2.2.2.2.2.2.2.2.2.2 hB3_3 no1.out _⟩ (fun hS4 => ?_)
        clear hK K hS3
        generalize v3.setCells s 1 (#[Value.slice p0 l0 d0, Value.slice p1 l1 d1, Value.slice p2 l2 d2] : Array Value).toList = v4 at *
        simp only [List.getElem_toArray, List.getElem_cons_zero, List.getElem_cons_succ, Act.put, List.setIfInBounds_toArray, List.set_cons_zero, List.set_cons_succ]
        refine wpAnyH_done (by kernel_rfl) ?_ _
        have nn := hS4.1
        have mm0 := hS4.2.1
        have mm1 := hS4.2.2.1
        have mm2 := hS4.2.2.2.1
        have hq3 := hS4.2.2.2.2.1
        have hR3 := hS4.2.2.2.2.2.1
        have mE3 := hS4.2.2.2.2.2.2.1
        have hb3 := hS4.2.2.2.2.2.2.2.1
        have na0 := hS4.2.2.2.2.2.2.2.2.1
        have na1 := hS4.2.2.2.2.2.2.2.2.2.1
        have na2 := hS4.2.2.2.2.2.2.2.2.2.2
        clear hS4
        have hB3 := hB3_3
        have k1 := k1_3
        have k2 := k2_3
        have k3 := k3_3
        have HF : Hid (NumsAt v4 .u8 p n F ∧ NumsAt v4 .u8 p0 l0 F0 ∧ NumsAt v4 .u8 p1 l1 F1 ∧ NumsAt v4 .u8 p2 l2 F2) := ⟨nn, na0, na1, na2⟩
        clear nn na0 na1 na2 mm0 mm1 mm2 hB3 k1 k2 k3 no1 hO
        rename_i HV
        clear HV
        have k4 : v4.cell? ⟨s, 4, none⟩ = some (.slice oe ne ce) := hN.cell 4
        have hcl := edClone_calls oe ne ce St Ln Up v4 hne (mE3.mono (by have := hb3.size; omega))
        have HS : Hid (Blk v4 s 27 #[Value.slice p n d, Value.slice p0 l0 d0, Value.slice p1 l1 d1, Value.slice p2 l2 d2, Value.slice oe ne ce, Value.int .i64 bud] ∧ Blk v4 (s + 1) 2 #[.int .i64 t] ∧ Blk v4 r 27 #[.slice none 0 0, .slice none 0 0, .slice none 0 0, .slice none 0 0, .slice none 0 0, .int .i64 0] ∧ Below s w v4) := ⟨hN, hq3, hR3, hb3⟩
        clear hN hq3 hR3 mE3 hb3
        go_wp2_with fail
        refine hcl.mono ?_
        clear hcl k4
        rintro e w5 ⟨ve, rfl, hown, hb5⟩
        obtain ⟨hN, hq3, hR3, hb3⟩ := HS.out
        have hcut := edCut_calls ve ne (s + 1) v4.heap.size t St Ln Up w5 hne hown ((hq3.below hb5 hq3.lt).cell 0) hq3.lt hb5.size
        clear hown hN hq3 hR3 hb3
        go_wp2_with fail
        refine hcut.mono ?_
        clear hcut
        rintro e w6 ⟨pe, de, rfl, hsp, hE6, hb6⟩
        obtain ⟨hN, hq3, hR3, hb3⟩ := HS.out
        have hb56 := hb5.trans (hb6.mono (Nat.le_refl _))
        have hN6 := hN.below hb56 hN.lt
        have hR6 := hR3.below hb56 hR3.lt
        have hb06 := hb3.trans (hb56.mono (by have := hb3.size; omega))
        have k46 : w6.cell? ⟨s, 4, none⟩ = some (.slice oe ne ce) := hN6.cell 4
        have f46 := hN6.frozen 4
        have no2 : ∀ x, Value.int .u8 x ∉ (#[Value.slice p n d, Value.slice p0 l0 d0, Value.slice p1 l1 d1, Value.slice p2 l2 d2, Value.slice oe ne ce, Value.int .i64 bud] : Array Value).toList := by simp
        have no3 : ∀ x, Value.int .u8 x ∉ (#[Value.slice none 0 0, .slice none 0 0, .slice none 0 0, .slice none 0 0, .slice none 0 0, .int .i64 0] : Array Value).toList := by simp
        obtain ⟨nn, na0, na1, na2⟩ := HF.out
        have le := Nat.le_refl v4.heap.size
        have hO7 := Only.setCell (S := fun k => k = s) (Only.refl _ w6) ⟨s, 4, none⟩ rfl (.slice pe (kp t St ne).length de)
        have hN7 : Blk (w6.setCell ⟨s, 4, none⟩ (.slice pe (kp t St ne).length de)) s 27 #[Value.slice p n d, Value.slice p0 l0 d0, Value.slice p1 l1 d1, Value.slice p2 l2 d2, Value.slice pe (kp t St ne).length de, Value.int .i64 bud] := Blk.set_ hN6 4 _
        have hR7 := hR6.only hO7 (by (first | omega | (dsimp only; omega)))
        have hO8 := only_setRowB (w6.setCell ⟨s, 4, none⟩ (.slice pe (kp t St ne).length de)) r #[Value.slice p n d, Value.slice p0 l0 d0, Value.slice p1 l1 d1, Value.slice p2 l2 d2, Value.slice pe (kp t St ne).length de, Value.int .i64 bud]
        have FIN : Hid (NumsAt ((w6.setCell ⟨s, 4, none⟩ (.slice pe (kp t St ne).length de)).setRow r #[Value.slice p n d, Value.slice p0 l0 d0, Value.slice p1 l1 d1, Value.slice p2 l2 d2, Value.slice pe (kp t St ne).length de, Value.int .i64 bud]) .u8 p n F ∧ NumsAt ((w6.setCell ⟨s, 4, none⟩ (.slice pe (kp t St ne).length de)).setRow r #[Value.slice p n d, Value.slice p0 l0 d0, Value.slice p1 l1 d1, Value.slice p2 l2 d2, Value.slice pe (kp t St ne).length de, Value.int .i64 bud]) .u8 p0 l0 F0 ∧ NumsAt ((w6.setCell ⟨s, 4, none⟩ (.slice pe (kp t St ne).length de)).setRow r #[Value.slice p n d, Value.slice p0 l0 d0, Value.slice p1 l1 d1, Value.slice p2 l2 d2, Value.slice pe (kp t St ne).length de, Value.int .i64 bud]) .u8 p1 l1 F1 ∧ NumsAt ((w6.setCell ⟨s, 4, none⟩ (.slice pe (kp t St ne).length de)).setRow r #[Value.slice p n d, Value.slice p0 l0 d0, Value.slice p1 l1 d1, Value.slice p2 l2 d2, Value.slice pe (kp t St ne).length de, Value.int .i64 bud]) .u8 p2 l2 F2 ∧ EdgB ((w6.setCell ⟨s, 4, none⟩ (.slice pe (kp t St ne).length de)).setRow r #[Value.slice p n d, Value.slice p0 l0 d0, Value.slice p1 l1 d1, Value.slice p2 l2 d2, Value.slice pe (kp t St ne).length de, Value.int .i64 bud]) pe (kp t St ne).length (fun x => St (kpF t St ne x)) (fun x => Ln (kpF t St ne x)) (fun x => Up (kpF t St ne x)) ((w6.setCell ⟨s, 4, none⟩ (.slice pe (kp t St ne).length de)).setRow r #[Value.slice p n d, Value.slice p0 l0 d0, Value.slice p1 l1 d1, Value.slice p2 l2 d2, Value.slice pe (kp t St ne).length de, Value.int .i64 bud]).heap.size ∧ Below s w ((w6.setCell ⟨s, 4, none⟩ (.slice pe (kp t St ne).length de)).setRow r #[Value.slice p n d, Value.slice p0 l0 d0, Value.slice p1 l1 d1, Value.slice p2 l2 d2, Value.slice pe (kp t St ne).length de, Value.int .i64 bud])) :=
          ⟨nums_apart (nums_apart (nn.below hb56 le) hN6 no2 hO7) hR7 no3 hO8, nums_apart (nums_apart (na0.below hb56 le) hN6 no2 hO7) hR7 no3 hO8, nums_apart (nums_apart (na1.below hb56 le) hN6 no2 hO7) hR7 no3 hO8, nums_apart (nums_apart (na2.below hb56 le) hN6 no2 hO7) hR7 no3 hO8,
            (edg_apart (edg_apart hE6 hN6 no2 hO7) hR7 no3 hO8).mono (Nat.le_trans hO7.size hO8.size), (hb06.trans (hO7.below (B := s) (by have := hb06.size; omega) (fun k e => by (first | omega | (dsimp only at e; omega))))).trans (hO8.below (B := s) (by have := hb06.size; have := hO7.size; omega) (fun k e => by (first | omega | (dsimp only at e; omega))))⟩
        clear nn na0 na1 na2 hE6 hN hq3 hR3 hb3 hb5 hb6 hb56 hN6 hR6 hb06 hO7 hO8 no2 no3 le hsp
        go_wp2_with (first | (refine wpList_load_row rfl 27 _ rfl s rfl _ #[Value.slice p n d, Value.slice p0 l0 d0, Value.slice p1 l1 d1, Value.slice p2 l2 d2, Value.slice pe (kp t St ne).length de, Value.int .i64 bud] (0, 0) _ hN7 Tryd.underlying27 rfl (by kernel_rfl) ?_) | (refine wpList_store_row rfl 27 _ _ rfl r #[Value.slice p n d, Value.slice p0 l0 d0, Value.slice p1 l1 d1, Value.slice p2 l2 d2, Value.slice pe (kp t St ne).length de, Value.int .i64 bud] rfl rfl 27 _ hR7 (by kernel_rfl) rfl (by kernel_rfl) ?_))
        obtain ⟨y0, y1, y2, y3, y4, y5⟩ := FIN.out
        exact bodyPost_ret (results_cell_row rfl _ _ r 27 #[Value.slice p n d, Value.slice p0 l0 d0, Value.slice p1 l1 d1, Value.slice p2 l2 d2, Value.slice pe (kp t St ne).length de, Value.int .i64 bud] (0, 0) _ rfl (hR7.setRow _) Tryd.underlying27 rfl (by kernel_rfl)) rfl ⟨p, p0, p1, p2, pe, d, d0, d1, d2, de, rfl, y0, y1, y2, y3, y4, by rw [hsz]; exact y5⟩
      exact AllReadyH.nil
    refine AllReadyH.cons rfl (fun K hK => ?_) ?_
    · -- load 10
      go_simp
      refine hK.out _ _ hS0 (fun _ => ?_)
      clear hK K
      simp only [List.getElem_toArray, List.getElem_cons_zero, List.getElem_cons_succ, Act.put, List.setIfInBounds_toArray, List.set_cons_zero, List.set_cons_succ]
      refine wpAnyH_ready (rs := [3, 6]) (by kernel_rfl) (by simp) ?_
      refine AllReadyH.cons rfl (fun K hK => ?_) ?_
      · -- call 3
        go_simp
        refine (slClone_calls o0 l0 c0 F0 _ hn0 hS0.2.1).mono ?_
        rintro e v1 ⟨p0, d0, rfl, a0, hb1⟩
        (try go_simp)
        refine hK.out _ _ ⟨(hS0.1.below hb1 (Nat.le_refl _)), (hS0.2.1.below hb1 (Nat.le_refl _)), (hS0.2.2.1.below hb1 (Nat.le_refl _)), (hS0.2.2.2.1.below hb1 (Nat.le_refl _)), (hS0.2.2.2.2.1.below hb1 hS0.2.2.2.2.1.lt), (hS0.2.2.2.2.2.1.below hb1 hS0.2.2.2.2.2.1.lt), (by first | exact hS0.2.2.2.2.2.2.1.low hb1 | exact hS0.2.2.2.2.2.2.1.below hb1 (Nat.le_refl _)), (by first | exact hS0.2.2.2.2.2.2.2.trans (hb1.mono hS0.2.2.2.2.2.2.2.size) | exact hS0.2.2.2.2.2.2.2.trans (hb1.mono (by have := hS0.2.2.2.2.2.2.2.size; omega)))⟩ (fun hS1 => ?_)
        clear hK K
        have hB3_1 : Blk v1 s 27 #[Value.slice p n d, Value.slice o0 l0 c0, Value.slice o1 l1 c1, Value.slice o2 l2 c2, Value.slice oe ne ce, Value.int .i64 bud] := (hB3_0.below hb1 hB3_0.lt)
        have k1_1 : v1.cell? ⟨s, 1, none⟩ = some (.slice o0 l0 c0) := ((hb1.cell (cell_lt k1_0)).trans k1_0)
        have k2_1 : v1.cell? ⟨s, 2, none⟩ = some (.slice o1 l1 c1) := ((hb1.cell (cell_lt k2_0)).trans k2_0)
        have k3_1 : v1.cell? ⟨s, 3, none⟩ = some (.slice o2 l2 c2) := ((hb1.cell (cell_lt k3_0)).trans k3_0)
        have hT : NumsAt v1 .u8 p n F ∧ NumsAt v1 .u8 o0 l0 F0 ∧ NumsAt v1 .u8 o1 l1 F1 ∧ NumsAt v1 .u8 o2 l2 F2 ∧ Blk v1 (s + 1) 2 #[.int .i64 t] ∧ Blk v1 r 27 #[.slice none 0 0, .slice none 0 0, .slice none 0 0, .slice none 0 0, .slice none 0 0, .int .i64 0] ∧ EdgB v1 oe ne St Ln Up s ∧ Below s w v1 ∧ NumsAt v1 .u8 p0 l0 F0 := ⟨hS1.1, hS1.2.1, hS1.2.2.1, hS1.2.2.2.1, hS1.2.2.2.2.1, hS1.2.2.2.2.2.1, hS1.2.2.2.2.2.2.1, hS1.2.2.2.2.2.2.2, a0⟩
        refine wpAnyH_mono (S' := fun W => NumsAt W .u8 p n F ∧ NumsAt W .u8 o0 l0 F0 ∧ NumsAt W .u8 o1 l1 F1 ∧ NumsAt W .u8 o2 l2 F2 ∧ Blk W (s + 1) 2 #[.int .i64 t] ∧ Blk W r 27 #[.slice none 0 0, .slice none 0 0, .slice none 0 0, .slice none 0 0, .slice none 0 0, .int .i64 0] ∧ EdgB W oe ne St Ln Up s ∧ Below s w W ∧ NumsAt W .u8 p0 l0 F0) (fun _ h => ⟨h.1, h.2.1, h.2.2.1, h.2.2.2.1, h.2.2.2.2.1, h.2.2.2.2.2.1, h.2.2.2.2.2.2.1, h.2.2.2.2.2.2.2.1⟩) ?_
        clear hS1
        have hS1 := hT
        clear hT
        clear hb1 hS0
        simp only [List.getElem_toArray, List.getElem_cons_zero, List.getElem_cons_succ, Act.put, List.setIfInBounds_toArray, List.set_cons_zero, List.set_cons_succ]
        refine wpAnyH_ready (rs := [6]) (by kernel_rfl) (by simp) ?_
        refine AllReadyH.cons rfl (fun K hK => ?_) AllReadyH.nil
        go_simp
        refine hK.out _ _ hS1 (fun _ => ?_)
        clear hK K
        simp only [List.getElem_toArray, List.getElem_cons_zero, List.getElem_cons_succ, Act.put, List.setIfInBounds_toArray, List.set_cons_zero, List.set_cons_succ]
        refine wpAnyH_ready (rs := [7]) (by kernel_rfl) (by simp) ?_
        refine AllReadyH.cons rfl (fun K hK => ?_) AllReadyH.nil
        go_simp
        refine (slClone_calls o1 l1 c1 F1 _ hn1 hS1.2.2.1).mono ?_
        rintro e v2 ⟨p1, d1, rfl, a1, hb2⟩
        (try go_simp)
        refine hK.out _ _ ⟨(hS1.1.below hb2 (Nat.le_refl _)), (hS1.2.1.below hb2 (Nat.le_refl _)), (hS1.2.2.1.below hb2 (Nat.le_refl _)), (hS1.2.2.2.1.below hb2 (Nat.le_refl _)), (hS1.2.2.2.2.1.below hb2 hS1.2.2.2.2.1.lt), (hS1.2.2.2.2.2.1.below hb2 hS1.2.2.2.2.2.1.lt), (by first | exact hS1.2.2.2.2.2.2.1.low hb2 | exact hS1.2.2.2.2.2.2.1.below hb2 (Nat.le_refl _)), (by first | exact hS1.2.2.2.2.2.2.2.1.trans (hb2.mono hS1.2.2.2.2.2.2.2.1.size) | exact hS1.2.2.2.2.2.2.2.1.trans (hb2.mono (by have := hS1.2.2.2.2.2.2.2.1.size; omega))), (hS1.2.2.2.2.2.2.2.2.below hb2 (Nat.le_refl _))⟩ (fun hS2 => ?_)
        clear hK K
        have hB3_2 : Blk v2 s 27 #[Value.slice p n d, Value.slice o0 l0 c0, Value.slice o1 l1 c1, Value.slice o2 l2 c2, Value.slice oe ne ce, Value.int .i64 bud] := (hB3_1.below hb2 hB3_1.lt)
        have k1_2 : v2.cell? ⟨s, 1, none⟩ = some (.slice o0 l0 c0) := ((hb2.cell (cell_lt k1_1)).trans k1_1)
        have k2_2 : v2.cell? ⟨s, 2, none⟩ = some (.slice o1 l1 c1) := ((hb2.cell (cell_lt k2_1)).trans k2_1)
        have k3_2 : v2.cell? ⟨s, 3, none⟩ = some (.slice o2 l2 c2) := ((hb2.cell (cell_lt k3_1)).trans k3_1)
        have hT : NumsAt v2 .u8 p n F ∧ NumsAt v2 .u8 o0 l0 F0 ∧ NumsAt v2 .u8 o1 l1 F1 ∧ NumsAt v2 .u8 o2 l2 F2 ∧ Blk v2 (s + 1) 2 #[.int .i64 t] ∧ Blk v2 r 27 #[.slice none 0 0, .slice none 0 0, .slice none 0 0, .slice none 0 0, .slice none 0 0, .int .i64 0] ∧ EdgB v2 oe ne St Ln Up s ∧ Below s w v2 ∧ NumsAt v2 .u8 p0 l0 F0 ∧ NumsAt v2 .u8 p1 l1 F1 := ⟨hS2.1, hS2.2.1, hS2.2.2.1, hS2.2.2.2.1, hS2.2.2.2.2.1, hS2.2.2.2.2.2.1, hS2.2.2.2.2.2.2.1, hS2.2.2.2.2.2.2.2.1, hS2.2.2.2.2.2.2.2.2, a1⟩
        refine wpAnyH_mono (S' := fun W => NumsAt W .u8 p n F ∧ NumsAt W .u8 o0 l0 F0 ∧ NumsAt W .u8 o1 l1 F1 ∧ NumsAt W .u8 o2 l2 F2 ∧ Blk W (s + 1) 2 #[.int .i64 t] ∧ Blk W r 27 #[.slice none 0 0, .slice none 0 0, .slice none 0 0, .slice none 0 0, .slice none 0 0, .int .i64 0] ∧ EdgB W oe ne St Ln Up s ∧ Below s w W ∧ NumsAt W .u8 p0 l0 F0 ∧ NumsAt W .u8 p1 l1 F1) (fun _ h => ⟨h.1, h.2.1, h.2.2.1, h.2.2.2.1, h.2.2.2.2.1, h.2.2.2.2.2.1, h.2.2.2.2.2.2.1, h.2.2.2.2.2.2.2.1, h.2.2.2.2.2.2.2.2.1⟩) ?_
        clear hS2
        have hS2 := hT
        clear hT
        clear hb2 hS1
        simp only [List.getElem_toArray, List.getElem_cons_zero, List.getElem_cons_succ, Act.put, List.setIfInBounds_toArray, List.set_cons_zero, List.set_cons_succ]
        refine wpAnyH_ready (rs := [11]) (by kernel_rfl) (by simp) ?_
        refine AllReadyH.cons rfl (fun K hK => ?_) AllReadyH.nil
        go_simp
        refine (slClone_calls o2 l2 c2 F2 _ hn2 hS2.2.2.2.1).mono ?_
        rintro e v3 ⟨p2, d2, rfl, a2, hb3⟩
        (try go_simp)
        refine hK.out _ _ ⟨(hS2.1.below hb3 (Nat.le_refl _)), (hS2.2.1.below hb3 (Nat.le_refl _)), (hS2.2.2.1.below hb3 (Nat.le_refl _)), (hS2.2.2.2.1.below hb3 (Nat.le_refl _)), (hS2.2.2.2.2.1.below hb3 hS2.2.2.2.2.1.lt), (hS2.2.2.2.2.2.1.below hb3 hS2.2.2.2.2.2.1.lt), (by first | exact hS2.2.2.2.2.2.2.1.low hb3 | exact hS2.2.2.2.2.2.2.1.below hb3 (Nat.le_refl _)), (by first | exact hS2.2.2.2.2.2.2.2.1.trans (hb3.mono hS2.2.2.2.2.2.2.2.1.size) | exact hS2.2.2.2.2.2.2.2.1.trans (hb3.mono (by have := hS2.2.2.2.2.2.2.2.1.size; omega))), (hS2.2.2.2.2.2.2.2.2.1.below hb3 (Nat.le_refl _)), (hS2.2.2.2.2.2.2.2.2.2.below hb3 (Nat.le_refl _))⟩ (fun hS3 => ?_)
        clear hK K
        have hB3_3 : Blk v3 s 27 #[Value.slice p n d, Value.slice o0 l0 c0, Value.slice o1 l1 c1, Value.slice o2 l2 c2, Value.slice oe ne ce, Value.int .i64 bud] := (hB3_2.below hb3 hB3_2.lt)
        have k1_3 : v3.cell? ⟨s, 1, none⟩ = some (.slice o0 l0 c0) := ((hb3.cell (cell_lt k1_2)).trans k1_2)
        have k2_3 : v3.cell? ⟨s, 2, none⟩ = some (.slice o1 l1 c1) := ((hb3.cell (cell_lt k2_2)).trans k2_2)
        have k3_3 : v3.cell? ⟨s, 3, none⟩ = some (.slice o2 l2 c2) := ((hb3.cell (cell_lt k3_2)).trans k3_2)
        have hT : NumsAt v3 .u8 p n F ∧ NumsAt v3 .u8 o0 l0 F0 ∧ NumsAt v3 .u8 o1 l1 F1 ∧ NumsAt v3 .u8 o2 l2 F2 ∧ Blk v3 (s + 1) 2 #[.int .i64 t] ∧ Blk v3 r 27 #[.slice none 0 0, .slice none 0 0, .slice none 0 0, .slice none 0 0, .slice none 0 0, .int .i64 0] ∧ EdgB v3 oe ne St Ln Up s ∧ Below s w v3 ∧ NumsAt v3 .u8 p0 l0 F0 ∧ NumsAt v3 .u8 p1 l1 F1 ∧ NumsAt v3 .u8 p2 l2 F2 := ⟨hS3.1, hS3.2.1, hS3.2.2.1, hS3.2.2.2.1, hS3.2.2.2.2.1, hS3.2.2.2.2.2.1, hS3.2.2.2.2.2.2.1, hS3.2.2.2.2.2.2.2.1, hS3.2.2.2.2.2.2.2.2.1, hS3.2.2.2.2.2.2.2.2.2, a2⟩
        refine wpAnyH_mono (S' := fun W => NumsAt W .u8 p n F ∧ NumsAt W .u8 o0 l0 F0 ∧ NumsAt W .u8 o1 l1 F1 ∧ NumsAt W .u8 o2 l2 F2 ∧ Blk W (s + 1) 2 #[.int .i64 t] ∧ Blk W r 27 #[.slice none 0 0, .slice none 0 0, .slice none 0 0, .slice none 0 0, .slice none 0 0, .int .i64 0] ∧ EdgB W oe ne St Ln Up s ∧ Below s w W ∧ NumsAt W .u8 p0 l0 F0 ∧ NumsAt W .u8 p1 l1 F1 ∧ NumsAt W .u8 p2 l2 F2) (fun _ h => ⟨h.1, h.2.1, h.2.2.1, h.2.2.2.1, h.2.2.2.2.1, h.2.2.2.2.2.1, h.2.2.2.2.2.2.1, h.2.2.2.2.2.2.2.1, h.2.2.2.2.2.2.2.2.1, h.2.2.2.2.2.2.2.2.2.1⟩) ?_
        clear hS3
        have hS3 := hT
        clear hT
        clear hb3 hS2
        simp only [List.getElem_toArray, List.getElem_cons_zero, List.getElem_cons_succ, Act.put, List.setIfInBounds_toArray, List.set_cons_zero, List.set_cons_succ]
        refine wpAnyH_take (i := 12) (v := ?_) rfl (by kernel_rfl) (by kernel_rfl) (by kernel_rfl) (fun _ _ _ h => h) (Or.inl ⟨by rfl, ?_⟩) hS3 ?_
        rotate_left
        · (intro w hSw; (try dsimp only at hSw); go_simp; try with_reducible rfl)
        simp only [List.getElem_toArray, List.getElem_cons_zero, List.getElem_cons_succ, Act.put, List.setIfInBounds_toArray, List.set_cons_zero, List.set_cons_succ]
        refine wpAnyH_take (i := 13) (v := ?_) rfl (by kernel_rfl) (by kernel_rfl) (by kernel_rfl) (fun _ _ _ h => h) (Or.inl ⟨by rfl, ?_⟩) hS3 ?_
        rotate_left
        · (intro w hSw; (try dsimp only at hSw); go_simp; try with_reducible rfl)
        simp only [List.getElem_toArray, List.getElem_cons_zero, List.getElem_cons_succ, Act.put, List.setIfInBounds_toArray, List.set_cons_zero, List.set_cons_succ]
        refine wpAnyH_ready (rs := [14]) (by kernel_rfl) (by simp) ?_
        refine AllReadyH.cons rfl (fun K hK => ?_) AllReadyH.nil
        rw [if_pos (show Region.wanted _ _ = true from by rfl)]
        have hO := only_setCells (S := fun k => k = s) rfl (#[Value.slice p0 l0 d0, Value.slice p1 l1 d1, Value.slice p2 l2 d2] : Array Value).toList 1 v3 (Only.refl _ _)
        have hN : Blk (v3.setCells s 1 (#[Value.slice p0 l0 d0, Value.slice p1 l1 d1, Value.slice p2 l2 d2] : Array Value).toList) s 27 #[Value.slice p n d, Value.slice p0 l0 d0, Value.slice p1 l1 d1, Value.slice p2 l2 d2, Value.slice oe ne ce, Value.int .i64 bud] := Blk.set_ (Blk.set_ (Blk.set_ hB3_3 1 _) 2 _) 3 _
        refine wp_store_mid 24 _ _ rfl s 1 #[Value.slice p0 l0 d0, Value.slice p1 l1 d1, Value.slice p2 l2 d2] rfl rfl (blk_there hB3_3 (by show 1 + 3 ≤ 6; omega)) (by kernel_rfl) (by kernel_rfl) ?_
        refine hK.out _ _ ⟨nums_setCells hS3.1 hB3_3 no1.out _, nums_setCells hS3.2.1 hB3_3 no1.out _, nums_setCells hS3.2.2.1 hB3_3 no1.out _, nums_setCells hS3.2.2.2.1 hB3_3 no1.out _, hS3.2.2.2.2.1.only hO (by (first | omega | (dsimp only; omega))), hS3.2.2.2.2.2.1.only hO (by (first | omega | (dsimp only; omega))), hS3.2.2.2.2.2.2.1.only hO (fun k h => by (first | omega | (dsimp only; omega))), hS3.2.2.2.2.2.2.2.1.trans (hO.below (B := s) (by have := hS3.2.2.2.2.2.2.2.1.size; omega) (fun k e => by (first | omega | (dsimp only at e; omega)))), nums_setCells hS3.2.2.2.2.2.2.2.2.1 hB3_3 no1.out _, nums_setCells hS3.2.2.2.2.2.2.2.2.2.1 hB3_3 no1.out _, nums_setCells hS3.2.2.2.2.2.2.2.2.2.2 hB3_3 no1.out _⟩ (fun hS4 => ?_)
        clear hK K hS3
        generalize v3.setCells s 1 (#[Value.slice p0 l0 d0, Value.slice p1 l1 d1, Value.slice p2 l2 d2] : Array Value).toList = v4 at *
        simp only [List.getElem_toArray, List.getElem_cons_zero, List.getElem_cons_succ, Act.put, List.setIfInBounds_toArray, List.set_cons_zero, List.set_cons_succ]
        refine wpAnyH_done (by kernel_rfl) ?_ _
        have nn := hS4.1
        have mm0 := hS4.2.1
        have mm1 := hS4.2.2.1
        have mm2 := hS4.2.2.2.1
        have hq3 := hS4.2.2.2.2.1
        have hR3 := hS4.2.2.2.2.2.1
        have mE3 := hS4.2.2.2.2.2.2.1
        have hb3 := hS4.2.2.2.2.2.2.2.1
        have na0 := hS4.2.2.2.2.2.2.2.2.1
        have na1 := hS4.2.2.2.2.2.2.2.2.2.1
        have na2 := hS4.2.2.2.2.2.2.2.2.2.2
        clear hS4
        have hB3 := hB3_3
        have k1 := k1_3
        have k2 := k2_3
        have k3 := k3_3
        have HF : Hid (NumsAt v4 .u8 p n F ∧ NumsAt v4 .u8 p0 l0 F0 ∧ NumsAt v4 .u8 p1 l1 F1 ∧ NumsAt v4 .u8 p2 l2 F2) := ⟨nn, na0, na1, na2⟩
        clear nn na0 na1 na2 mm0 mm1 mm2 hB3 k1 k2 k3 no1 hO
        rename_i HV
        clear HV
        have k4 : v4.cell? ⟨s, 4, none⟩ = some (.slice oe ne ce) := hN.cell 4
        have hcl := edClone_calls oe ne ce St Ln Up v4 hne (mE3.mono (by have := hb3.size; omega))
        have HS : Hid (Blk v4 s 27 #[Value.slice p n d, Value.slice p0 l0 d0, Value.slice p1 l1 d1, Value.slice p2 l2 d2, Value.slice oe ne ce, Value.int .i64 bud] ∧ Blk v4 (s + 1) 2 #[.int .i64 t] ∧ Blk v4 r 27 #[.slice none 0 0, .slice none 0 0, .slice none 0 0, .slice none 0 0, .slice none 0 0, .int .i64 0] ∧ Below s w v4) := ⟨hN, hq3, hR3, hb3⟩
        clear hN hq3 hR3 mE3 hb3
        go_wp2_with fail
        refine hcl.mono ?_
        clear hcl k4
        rintro e w5 ⟨ve, rfl, hown, hb5⟩
        obtain ⟨hN, hq3, hR3, hb3⟩ := HS.out
        have hcut := edCut_calls ve ne (s + 1) v4.heap.size t St Ln Up w5 hne hown ((hq3.below hb5 hq3.lt).cell 0) hq3.lt hb5.size
        clear hown hN hq3 hR3 hb3
        go_wp2_with fail
        refine hcut.mono ?_
        clear hcut
        rintro e w6 ⟨pe, de, rfl, hsp, hE6, hb6⟩
        obtain ⟨hN, hq3, hR3, hb3⟩ := HS.out
        have hb56 := hb5.trans (hb6.mono (Nat.le_refl _))
        have hN6 := hN.below hb56 hN.lt
        have hR6 := hR3.below hb56 hR3.lt
        have hb06 := hb3.trans (hb56.mono (by have := hb3.size; omega))
        have k46 : w6.cell? ⟨s, 4, none⟩ = some (.slice oe ne ce) := hN6.cell 4
        have f46 := hN6.frozen 4
        have no2 : ∀ x, Value.int .u8 x ∉ (#[Value.slice p n d, Value.slice p0 l0 d0, Value.slice p1 l1 d1, Value.slice p2 l2 d2, Value.slice oe ne ce, Value.int .i64 bud] : Array Value).toList := by simp
        have no3 : ∀ x, Value.int .u8 x ∉ (#[Value.slice none 0 0, .slice none 0 0, .slice none 0 0, .slice none 0 0, .slice none 0 0, .int .i64 0] : Array Value).toList := by simp
        obtain ⟨nn, na0, na1, na2⟩ := HF.out
        have le := Nat.le_refl v4.heap.size
        have hO7 := Only.setCell (S := fun k => k = s) (Only.refl _ w6) ⟨s, 4, none⟩ rfl (.slice pe (kp t St ne).length de)
        have hN7 : Blk (w6.setCell ⟨s, 4, none⟩ (.slice pe (kp t St ne).length de)) s 27 #[Value.slice p n d, Value.slice p0 l0 d0, Value.slice p1 l1 d1, Value.slice p2 l2 d2, Value.slice pe (kp t St ne).length de, Value.int .i64 bud] := Blk.set_ hN6 4 _
        have hR7 := hR6.only hO7 (by (first | omega | (dsimp only; omega)))
        have hO8 := only_setRowB (w6.setCell ⟨s, 4, none⟩ (.slice pe (kp t St ne).length de)) r #[Value.slice p n d, Value.slice p0 l0 d0, Value.slice p1 l1 d1, Value.slice p2 l2 d2, Value.slice pe (kp t St ne).length de, Value.int .i64 bud]
        have FIN : Hid (NumsAt ((w6.setCell ⟨s, 4, none⟩ (.slice pe (kp t St ne).length de)).setRow r #[Value.slice p n d, Value.slice p0 l0 d0, Value.slice p1 l1 d1, Value.slice p2 l2 d2, Value.slice pe (kp t St ne).length de, Value.int .i64 bud]) .u8 p n F ∧ NumsAt ((w6.setCell ⟨s, 4, none⟩ (.slice pe (kp t St ne).length de)).setRow r #[Value.slice p n d, Value.slice p0 l0 d0, Value.slice p1 l1 d1, Value.slice p2 l2 d2, Value.slice pe (kp t St ne).length de, Value.int .i64 bud]) .u8 p0 l0 F0 ∧ NumsAt ((w6.setCell ⟨s, 4, none⟩ (.slice pe (kp t St ne).length de)).setRow r #[Value.slice p n d, Value.slice p0 l0 d0, Value.slice p1 l1 d1, Value.slice p2 l2 d2, Value.slice pe (kp t St ne).length de, Value.int .i64 bud]) .u8 p1 l1 F1 ∧ NumsAt ((w6.setCell ⟨s, 4, none⟩ (.slice pe (kp t St ne).length de)).setRow r #[Value.slice p n d, Value.slice p0 l0 d0, Value.slice p1 l1 d1, Value.slice p2 l2 d2, Value.slice pe (kp t St ne).length de, Value.int .i64 bud]) .u8 p2 l2 F2 ∧ EdgB ((w6.setCell ⟨s, 4, none⟩ (.slice pe (kp t St ne).length de)).setRow r #[Value.slice p n d, Value.slice p0 l0 d0, Value.slice p1 l1 d1, Value.slice p2 l2 d2, Value.slice pe (kp t St ne).length de, Value.int .i64 bud]) pe (kp t St ne).length (fun x => St (kpF t St ne x)) (fun x => Ln (kpF t St ne x)) (fun x => Up (kpF t St ne x)) ((w6.setCell ⟨s, 4, none⟩ (.slice pe (kp t St ne).length de)).setRow r #[Value.slice p n d, Value.slice p0 l0 d0, Value.slice p1 l1 d1, Value.slice p2 l2 d2, Value.slice pe (kp t St ne).length de, Value.int .i64 bud]).heap.size ∧ Below s w ((w6.setCell ⟨s, 4, none⟩ (.slice pe (kp t St ne).length de)).setRow r #[Value.slice p n d, Value.slice p0 l0 d0, Value.slice p1 l1 d1, Value.slice p2 l2 d2, Value.slice pe (kp t St ne).length de, Value.int .i64 bud])) :=
          ⟨nums_apart (nums_apart (nn.below hb56 le) hN6 no2 hO7) hR7 no3 hO8, nums_apart (nums_apart (na0.below hb56 le) hN6 no2 hO7) hR7 no3 hO8, nums_apart (nums_apart (na1.below hb56 le) hN6 no2 hO7) hR7 no3 hO8, nums_apart (nums_apart (na2.below hb56 le) hN6 no2 hO7) hR7 no3 hO8,
            (edg_apart (edg_apart hE6 hN6 no2 hO7) hR7 no3 hO8).mono (Nat.le_trans hO7.size hO8.size), (hb06.trans (hO7.below (B := s) (by have := hb06.size; omega) (fun k e => by (first | omega | (dsimp only at e; omega))))).trans (hO8.below (B := s) (by have := hb06.size; have := hO7.size; omega) (fun k e => by (first | omega | (dsimp only at e; omega))))⟩
        clear nn na0 na1 na2 hE6 hN hq3 hR3 hb3 hb5 hb6 hb56 hN6 hR6 hb06 hO7 hO8 no2 no3 le hsp
        go_wp2_with (first | (refine wpList_load_row rfl 27 _ rfl s rfl _ #[Value.slice p n d, Value.slice p0 l0 d0, Value.slice p1 l1 d1, Value.slice p2 l2 d2, Value.slice pe (kp t St ne).length de, Value.int .i64 bud] (0, 0) _ hN7 Tryd.underlying27 rfl (by kernel_rfl) ?_) | (refine wpList_store_row rfl 27 _ _ rfl r #[Value.slice p n d, Value.slice p0 l0 d0, Value.slice p1 l1 d1, Value.slice p2 l2 d2, Value.slice pe (kp t St ne).length de, Value.int .i64 bud] rfl rfl 27 _ hR7 (by kernel_rfl) rfl (by kernel_rfl) ?_))
        obtain ⟨y0, y1, y2, y3, y4, y5⟩ := FIN.out
        exact bodyPost_ret (results_cell_row rfl _ _ r 27 #[Value.slice p n d, Value.slice p0 l0 d0, Value.slice p1 l1 d1, Value.slice p2 l2 d2, Value.slice pe (kp t St ne).length de, Value.int .i64 bud] (0, 0) _ rfl (hR7.setRow _) Tryd.underlying27 rfl (by kernel_rfl)) rfl ⟨p, p0, p1, p2, pe, d, d0, d1, d2, de, rfl, y0, y1, y2, y3, y4, by rw [hsz]; exact y5⟩
      refine AllReadyH.cons rfl (fun K hK => ?_) ?_
      · -- load 6
        go_simp
        refine hK.out _ _ hS0 (fun _ => ?_)
        clear hK K
        simp only [List.getElem_toArray, List.getElem_cons_zero, List.getElem_cons_succ, Act.put, List.setIfInBounds_toArray, List.set_cons_zero, List.set_cons_succ]
        refine wpAnyH_ready (rs := [3]) (by kernel_rfl) (by simp) ?_
        refine AllReadyH.cons rfl (fun K hK => ?_) AllReadyH.nil
        go_simp
        refine (slClone_calls o0 l0 c0 F0 _ hn0 hS0.2.1).mono ?_
        rintro e v1 ⟨p0, d0, rfl, a0, hb1⟩
        (try go_simp)
        refine hK.out _ _ ⟨(hS0.1.below hb1 (Nat.le_refl _)), (hS0.2.1.below hb1 (Nat.le_refl _)), (hS0.2.2.1.below hb1 (Nat.le_refl _)), (hS0.2.2.2.1.below hb1 (Nat.le_refl _)), (hS0.2.2.2.2.1.below hb1 hS0.2.2.2.2.1.lt), (hS0.2.2.2.2.2.1.below hb1 hS0.2.2.2.2.2.1.lt), (by first | exact hS0.2.2.2.2.2.2.1.low hb1 | exact hS0.2.2.2.2.2.2.1.below hb1 (Nat.le_refl _)), (by first | exact hS0.2.2.2.2.2.2.2.trans (hb1.mono hS0.2.2.2.2.2.2.2.size) | exact hS0.2.2.2.2.2.2.2.trans (hb1.mono (by have := hS0.2.2.2.2.2.2.2.size; omega)))⟩ (fun hS1 => ?_)
        clear hK K
        have hB3_1 : Blk v1 s 27 #[Value.slice p n d, Value.slice o0 l0 c0, Value.slice o1 l1 c1, Value.slice o2 l2 c2, Value.slice oe ne ce, Value.int .i64 bud] := (hB3_0.below hb1 hB3_0.lt)
        have k1_1 : v1.cell? ⟨s, 1, none⟩ = some (.slice o0 l0 c0) := ((hb1.cell (cell_lt k1_0)).trans k1_0)
        have k2_1 : v1.cell? ⟨s, 2, none⟩ = some (.slice o1 l1 c1) := ((hb1.cell (cell_lt k2_0)).trans k2_0)
        have k3_1 : v1.cell? ⟨s, 3, none⟩ = some (.slice o2 l2 c2) := ((hb1.cell (cell_lt k3_0)).trans k3_0)
        have hT : NumsAt v1 .u8 p n F ∧ NumsAt v1 .u8 o0 l0 F0 ∧ NumsAt v1 .u8 o1 l1 F1 ∧ NumsAt v1 .u8 o2 l2 F2 ∧ Blk v1 (s + 1) 2 #[.int .i64 t] ∧ Blk v1 r 27 #[.slice none 0 0, .slice none 0 0, .slice none 0 0, .slice none 0 0, .slice none 0 0, .int .i64 0] ∧ EdgB v1 oe ne St Ln Up s ∧ Below s w v1 ∧ NumsAt v1 .u8 p0 l0 F0 := ⟨hS1.1, hS1.2.1, hS1.2.2.1, hS1.2.2.2.1, hS1.2.2.2.2.1, hS1.2.2.2.2.2.1, hS1.2.2.2.2.2.2.1, hS1.2.2.2.2.2.2.2, a0⟩
        refine wpAnyH_mono (S' := fun W => NumsAt W .u8 p n F ∧ NumsAt W .u8 o0 l0 F0 ∧ NumsAt W .u8 o1 l1 F1 ∧ NumsAt W .u8 o2 l2 F2 ∧ Blk W (s + 1) 2 #[.int .i64 t] ∧ Blk W r 27 #[.slice none 0 0, .slice none 0 0, .slice none 0 0, .slice none 0 0, .slice none 0 0, .int .i64 0] ∧ EdgB W oe ne St Ln Up s ∧ Below s w W ∧ NumsAt W .u8 p0 l0 F0) (fun _ h => ⟨h.1, h.2.1, h.2.2.1, h.2.2.2.1, h.2.2.2.2.1, h.2.2.2.2.2.1, h.2.2.2.2.2.2.1, h.2.2.2.2.2.2.2.1⟩) ?_
        clear hS1
        have hS1 := hT
        clear hT
        clear hb1 hS0
        simp only [List.getElem_toArray, List.getElem_cons_zero, List.getElem_cons_succ, Act.put, List.setIfInBounds_toArray, List.set_cons_zero, List.set_cons_succ]
        refine wpAnyH_ready (rs := [7]) (by kernel_rfl) (by simp) ?_
        refine AllReadyH.cons rfl (fun K hK => ?_) AllReadyH.nil
        go_simp
        refine (slClone_calls o1 l1 c1 F1 _ hn1 hS1.2.2.1).mono ?_
        rintro e v2 ⟨p1, d1, rfl, a1, hb2⟩
        (try go_simp)
        refine hK.out _ _ ⟨(hS1.1.below hb2 (Nat.le_refl _)), (hS1.2.1.below hb2 (Nat.le_refl _)), (hS1.2.2.1.below hb2 (Nat.le_refl _)), (hS1.2.2.2.1.below hb2 (Nat.le_refl _)), (hS1.2.2.2.2.1.below hb2 hS1.2.2.2.2.1.lt), (hS1.2.2.2.2.2.1.below hb2 hS1.2.2.2.2.2.1.lt), (by first | exact hS1.2.2.2.2.2.2.1.low hb2 | exact hS1.2.2.2.2.2.2.1.below hb2 (Nat.le_refl _)), (by first | exact hS1.2.2.2.2.2.2.2.1.trans (hb2.mono hS1.2.2.2.2.2.2.2.1.size) | exact hS1.2.2.2.2.2.2.2.1.trans (hb2.mono (by have := hS1.2.2.2.2.2.2.2.1.size; omega))), (hS1.2.2.2.2.2.2.2.2.below hb2 (Nat.le_refl _))⟩ (fun hS2 => ?_)
        clear hK K
        have hB3_2 : Blk v2 s 27 #[Value.slice p n d, Value.slice o0 l0 c0, Value.slice o1 l1 c1, Value.slice o2 l2 c2, Value.slice oe ne ce, Value.int .i64 bud] := (hB3_1.below hb2 hB3_1.lt)
        have k1_2 : v2.cell? ⟨s, 1, none⟩ = some (.slice o0 l0 c0) := ((hb2.cell (cell_lt k1_1)).trans k1_1)
        have k2_2 : v2.cell? ⟨s, 2, none⟩ = some (.slice o1 l1 c1) := ((hb2.cell (cell_lt k2_1)).trans k2_1)
        have k3_2 : v2.cell? ⟨s, 3, none⟩ = some (.slice o2 l2 c2) := ((hb2.cell (cell_lt k3_1)).trans k3_1)
        have hT : NumsAt v2 .u8 p n F ∧ NumsAt v2 .u8 o0 l0 F0 ∧ NumsAt v2 .u8 o1 l1 F1 ∧ NumsAt v2 .u8 o2 l2 F2 ∧ Blk v2 (s + 1) 2 #[.int .i64 t] ∧ Blk v2 r 27 #[.slice none 0 0, .slice none 0 0, .slice none 0 0, .slice none 0 0, .slice none 0 0, .int .i64 0] ∧ EdgB v2 oe ne St Ln Up s ∧ Below s w v2 ∧ NumsAt v2 .u8 p0 l0 F0 ∧ NumsAt v2 .u8 p1 l1 F1 := ⟨hS2.1, hS2.2.1, hS2.2.2.1, hS2.2.2.2.1, hS2.2.2.2.2.1, hS2.2.2.2.2.2.1, hS2.2.2.2.2.2.2.1, hS2.2.2.2.2.2.2.2.1, hS2.2.2.2.2.2.2.2.2, a1⟩
        refine wpAnyH_mono (S' := fun W => NumsAt W .u8 p n F ∧ NumsAt W .u8 o0 l0 F0 ∧ NumsAt W .u8 o1 l1 F1 ∧ NumsAt W .u8 o2 l2 F2 ∧ Blk W (s + 1) 2 #[.int .i64 t] ∧ Blk W r 27 #[.slice none 0 0, .slice none 0 0, .slice none 0 0, .slice none 0 0, .slice none 0 0, .int .i64 0] ∧ EdgB W oe ne St Ln Up s ∧ Below s w W ∧ NumsAt W .u8 p0 l0 F0 ∧ NumsAt W .u8 p1 l1 F1) (fun _ h => ⟨h.1, h.2.1, h.2.2.1, h.2.2.2.1, h.2.2.2.2.1, h.2.2.2.2.2.1, h.2.2.2.2.2.2.1, h.2.2.2.2.2.2.2.1, h.2.2.2.2.2.2.2.2.1⟩) ?_
        clear hS2
        have hS2 := hT
        clear hT
        clear hb2 hS1
        simp only [List.getElem_toArray, List.getElem_cons_zero, List.getElem_cons_succ, Act.put, List.setIfInBounds_toArray, List.set_cons_zero, List.set_cons_succ]
        refine wpAnyH_ready (rs := [11]) (by kernel_rfl) (by simp) ?_
        refine AllReadyH.cons rfl (fun K hK => ?_) AllReadyH.nil
        go_simp
        refine (slClone_calls o2 l2 c2 F2 _ hn2 hS2.2.2.2.1).mono ?_
        rintro e v3 ⟨p2, d2, rfl, a2, hb3⟩
        (try go_simp)
        refine hK.out _ _ ⟨(hS2.1.below hb3 (Nat.le_refl _)), (hS2.2.1.below hb3 (Nat.le_refl _)), (hS2.2.2.1.below hb3 (Nat.le_refl _)), (hS2.2.2.2.1.below hb3 (Nat.le_refl _)), (hS2.2.2.2.2.1.below hb3 hS2.2.2.2.2.1.lt), (hS2.2.2.2.2.2.1.below hb3 hS2.2.2.2.2.2.1.lt), (by first | exact hS2.2.2.2.2.2.2.1.low hb3 | exact hS2.2.2.2.2.2.2.1.below hb3 (Nat.le_refl _)), (by first | exact hS2.2.2.2.2.2.2.2.1.trans (hb3.mono hS2.2.2.2.2.2.2.2.1.size) | exact hS2.2.2.2.2.2.2.2.1.trans (hb3.mono (by have := hS2.2.2.2.2.2.2.2.1.size; omega))), (hS2.2.2.2.2.2.2.2.2.1.below hb3 (Nat.le_refl _)), (hS2.2.2.2.2.2.2.2.2.2.below hb3 (Nat.le_refl _))⟩ (fun hS3 => ?_)
        clear hK K
        have hB3_3 : Blk v3 s 27 #[Value.slice p n d, Value.slice o0 l0 c0, Value.slice o1 l1 c1, Value.slice o2 l2 c2, Value.slice oe ne ce, Value.int .i64 bud] := (hB3_2.below hb3 hB3_2.lt)
        have k1_3 : v3.cell? ⟨s, 1, none⟩ = some (.slice o0 l0 c0) := ((hb3.cell (cell_lt k1_2)).trans k1_2)
        have k2_3 : v3.cell? ⟨s, 2, none⟩ = some (.slice o1 l1 c1) := ((hb3.cell (cell_lt k2_2)).trans k2_2)
        have k3_3 : v3.cell? ⟨s, 3, none⟩ = some (.slice o2 l2 c2) := ((hb3.cell (cell_lt k3_2)).trans k3_2)
        have hT : NumsAt v3 .u8 p n F ∧ NumsAt v3 .u8 o0 l0 F0 ∧ NumsAt v3 .u8 o1 l1 F1 ∧ NumsAt v3 .u8 o2 l2 F2 ∧ Blk v3 (s + 1) 2 #[.int .i64 t] ∧ Blk v3 r 27 #[.slice none 0 0, .slice none 0 0, .slice none 0 0, .slice none 0 0, .slice none 0 0, .int .i64 0] ∧ EdgB v3 oe ne St Ln Up s ∧ Below s w v3 ∧ NumsAt v3 .u8 p0 l0 F0 ∧ NumsAt v3 .u8 p1 l1 F1 ∧ NumsAt v3 .u8 p2 l2 F2 := ⟨hS3.1, hS3.2.1, hS3.2.2.1, hS3.2.2.2.1, hS3.2.2.2.2.1, hS3.2.2.2.2.2.1, hS3.2.2.2.2.2.2.1, hS3.2.2.2.2.2.2.2.1, hS3.2.2.2.2.2.2.2.2.1, hS3.2.2.2.2.2.2.2.2.2, a2⟩
        refine wpAnyH_mono (S' := fun W => NumsAt W .u8 p n F ∧ NumsAt W .u8 o0 l0 F0 ∧ NumsAt W .u8 o1 l1 F1 ∧ NumsAt W .u8 o2 l2 F2 ∧ Blk W (s + 1) 2 #[.int .i64 t] ∧ Blk W r 27 #[.slice none 0 0, .slice none 0 0, .slice none 0 0, .slice none 0 0, .slice none 0 0, .int .i64 0] ∧ EdgB W oe ne St Ln Up s ∧ Below s w W ∧ NumsAt W .u8 p0 l0 F0 ∧ NumsAt W .u8 p1 l1 F1 ∧ NumsAt W .u8 p2 l2 F2) (fun _ h => ⟨h.1, h.2.1, h.2.2.1, h.2.2.2.1, h.2.2.2.2.1, h.2.2.2.2.2.1, h.2.2.2.2.2.2.1, h.2.2.2.2.2.2.2.1, h.2.2.2.2.2.2.2.2.1, h.2.2.2.2.2.2.2.2.2.1⟩) ?_
        clear hS3
        have hS3 := hT
        clear hT
        clear hb3 hS2
        simp only [List.getElem_toArray, List.getElem_cons_zero, List.getElem_cons_succ, Act.put, List.setIfInBounds_toArray, List.set_cons_zero, List.set_cons_succ]
        refine wpAnyH_take (i := 12) (v := ?_) rfl (by kernel_rfl) (by kernel_rfl) (by kernel_rfl) (fun _ _ _ h => h) (Or.inl ⟨by rfl, ?_⟩) hS3 ?_
        rotate_left
        · (intro w hSw; (try dsimp only at hSw); go_simp; try with_reducible rfl)
        simp only [List.getElem_toArray, List.getElem_cons_zero, List.getElem_cons_succ, Act.put, List.setIfInBounds_toArray, List.set_cons_zero, List.set_cons_succ]
        refine wpAnyH_take (i := 13) (v := ?_) rfl (by kernel_rfl) (by kernel_rfl) (by kernel_rfl) (fun _ _ _ h => h) (Or.inl ⟨by rfl, ?_⟩) hS3 ?_
        rotate_left
        · (intro w hSw; (try dsimp only at hSw); go_simp; try with_reducible rfl)
        simp only [List.getElem_toArray, List.getElem_cons_zero, List.getElem_cons_succ, Act.put, List.setIfInBounds_toArray, List.set_cons_zero, List.set_cons_succ]
        refine wpAnyH_ready (rs := [14]) (by kernel_rfl) (by simp) ?_
        refine AllReadyH.cons rfl (fun K hK => ?_) AllReadyH.nil
        rw [if_pos (show Region.wanted _ _ = true from by rfl)]
        have hO := only_setCells (S := fun k => k = s) rfl (#[Value.slice p0 l0 d0, Value.slice p1 l1 d1, Value.slice p2 l2 d2] : Array Value).toList 1 v3 (Only.refl _ _)
        have hN : Blk (v3.setCells s 1 (#[Value.slice p0 l0 d0, Value.slice p1 l1 d1, Value.slice p2 l2 d2] : Array Value).toList) s 27 #[Value.slice p n d, Value.slice p0 l0 d0, Value.slice p1 l1 d1, Value.slice p2 l2 d2, Value.slice oe ne ce, Value.int .i64 bud] := Blk.set_ (Blk.set_ (Blk.set_ hB3_3 1 _) 2 _) 3 _
        refine wp_store_mid 24 _ _ rfl s 1 #[Value.slice p0 l0 d0, Value.slice p1 l1 d1, Value.slice p2 l2 d2] rfl rfl (blk_there hB3_3 (by show 1 + 3 ≤ 6; omega)) (by kernel_rfl) (by kernel_rfl) ?_
        refine hK.out _ _ ⟨nums_setCells hS3.1 hB3_3 no1.out _, nums_setCells hS3.2.1 hB3_3 no1.out _, nums_setCells hS3.2.2.1 hB3_3 no1.out _, nums_setCells hS3.2.2.2.1 hB3_3 no1.out _, hS3.2.2.2.2.1.only hO (by (first | omega | (dsimp only; omega))), hS3.2.2.2.2.2.1.only hO (by (first | omega | (dsimp only; omega))), hS3.2.2.2.2.2.2.1.only hO (fun k h => by (first | omega | (dsimp only; omega))), hS3.2.2.2.2.2.2.2.1.trans (hO.below (B := s) (by have := hS3.2.2.2.2.2.2.2.1.size; omega) (fun k e => by (first | omega | (dsimp only at e; omega)))), nums_setCells hS3.2.2.2.2.2.2.2.2.1 hB3_3 no1.out _, nums_setCells hS3.2.2.2.2.2.2.2.2.2.1 hB3_3 no1.out _, nums_setCells hS3.2.2.2.2.2.2.2.2.2.2 hB3_3 no1.out _⟩ (fun hS4 => ?_)
        clear hK K hS3
        generalize v3.setCells s 1 (#[Value.slice p0 l0 d0, Value.slice p1 l1 d1, Value.slice p2 l2 d2] : Array Value).toList = v4 at *
        simp only [List.getElem_toArray, List.getElem_cons_zero, List.getElem_cons_succ, Act.put, List.setIfInBounds_toArray, List.set_cons_zero, List.set_cons_succ]
        refine wpAnyH_done (by kernel_rfl) ?_ _
        have nn := hS4.1
        have mm0 := hS4.2.1
        have mm1 := hS4.2.2.1
        have mm2 := hS4.2.2.2.1
        have hq3 := hS4.2.2.2.2.1
        have hR3 := hS4.2.2.2.2.2.1
        have mE3 := hS4.2.2.2.2.2.2.1
        have hb3 := hS4.2.2.2.2.2.2.2.1
        have na0 := hS4.2.2.2.2.2.2.2.2.1
        have na1 := hS4.2.2.2.2.2.2.2.2.2.1
        have na2 := hS4.2.2.2.2.2.2.2.2.2.2
        clear hS4
        have hB3 := hB3_3
        have k1 := k1_3
        have k2 := k2_3
        have k3 := k3_3
        have HF : Hid (NumsAt v4 .u8 p n F ∧ NumsAt v4 .u8 p0 l0 F0 ∧ NumsAt v4 .u8 p1 l1 F1 ∧ NumsAt v4 .u8 p2 l2 F2) := ⟨nn, na0, na1, na2⟩
        clear nn na0 na1 na2 mm0 mm1 mm2 hB3 k1 k2 k3 no1 hO
        rename_i HV
        clear HV
        have k4 : v4.cell? ⟨s, 4, none⟩ = some (.slice oe ne ce) := hN.cell 4
        have hcl := edClone_calls oe ne ce St Ln Up v4 hne (mE3.mono (by have := hb3.size; omega))
        have HS : Hid (Blk v4 s 27 #[Value.slice p n d, Value.slice p0 l0 d0, Value.slice p1 l1 d1, Value.slice p2 l2 d2, Value.slice oe ne ce, Value.int .i64 bud] ∧ Blk v4 (s + 1) 2 #[.int .i64 t] ∧ Blk v4 r 27 #[.slice none 0 0, .slice none 0 0, .slice none 0 0, .slice none 0 0, .slice none 0 0, .int .i64 0] ∧ Below s w v4) := ⟨hN, hq3, hR3, hb3⟩
        clear hN hq3 hR3 mE3 hb3
        go_wp2_with fail
        refine hcl.mono ?_
        clear hcl k4
        rintro e w5 ⟨ve, rfl, hown, hb5⟩
        obtain ⟨hN, hq3, hR3, hb3⟩ := HS.out
        have hcut := edCut_calls ve ne (s + 1) v4.heap.size t St Ln Up w5 hne hown ((hq3.below hb5 hq3.lt).cell 0) hq3.lt hb5.size
        clear hown hN hq3 hR3 hb3
        go_wp2_with fail
        refine hcut.mono ?_
        clear hcut
        rintro e w6 ⟨pe, de, rfl, hsp, hE6, hb6⟩
        obtain ⟨hN, hq3, hR3, hb3⟩ := HS.out
        have hb56 := hb5.trans (hb6.mono (Nat.le_refl _))
        have hN6 := hN.below hb56 hN.lt
        have hR6 := hR3.below hb56 hR3.lt
        have hb06 := hb3.trans (hb56.mono (by have := hb3.size; omega))
        have k46 : w6.cell? ⟨s, 4, none⟩ = some (.slice oe ne ce) := hN6.cell 4
        have f46 := hN6.frozen 4
        have no2 : ∀ x, Value.int .u8 x ∉ (#[Value.slice p n d, Value.slice p0 l0 d0, Value.slice p1 l1 d1, Value.slice p2 l2 d2, Value.slice oe ne ce, Value.int .i64 bud] : Array Value).toList := by simp
        have no3 : ∀ x, Value.int .u8 x ∉ (#[Value.slice none 0 0, .slice none 0 0, .slice none 0 0, .slice none 0 0, .slice none 0 0, .int .i64 0] : Array Value).toList := by simp
        obtain ⟨nn, na0, na1, na2⟩ := HF.out
        have le := Nat.le_refl v4.heap.size
        have hO7 := Only.setCell (S := fun k => k = s) (Only.refl _ w6) ⟨s, 4, none⟩ rfl (.slice pe (kp t St ne).length de)
        have hN7 : Blk (w6.setCell ⟨s, 4, none⟩ (.slice pe (kp t St ne).length de)) s 27 #[Value.slice p n d, Value.slice p0 l0 d0, Value.slice p1 l1 d1, Value.slice p2 l2 d2, Value.slice pe (kp t St ne).length de, Value.int .i64 bud] := Blk.set_ hN6 4 _
        have hR7 := hR6.only hO7 (by (first | omega | (dsimp only; omega)))
        have hO8 := only_setRowB (w6.setCell ⟨s, 4, none⟩ (.slice pe (kp t St ne).length de)) r #[Value.slice p n d, Value.slice p0 l0 d0, Value.slice p1 l1 d1, Value.slice p2 l2 d2, Value.slice pe (kp t St ne).length de, Value.int .i64 bud]
        have FIN : Hid (NumsAt ((w6.setCell ⟨s, 4, none⟩ (.slice pe (kp t St ne).length de)).setRow r #[Value.slice p n d, Value.slice p0 l0 d0, Value.slice p1 l1 d1, Value.slice p2 l2 d2, Value.slice pe (kp t St ne).length de, Value.int .i64 bud]) .u8 p n F ∧ NumsAt ((w6.setCell ⟨s, 4, none⟩ (.slice pe (kp t St ne).length de)).setRow r #[Value.slice p n d, Value.slice p0 l0 d0, Value.slice p1 l1 d1, Value.slice p2 l2 d2, Value.slice pe (kp t St ne).length de, Value.int .i64 bud]) .u8 p0 l0 F0 ∧ NumsAt ((w6.setCell ⟨s, 4, none⟩ (.slice pe (kp t St ne).length de)).setRow r #[Value.slice p n d, Value.slice p0 l0 d0, Value.slice p1 l1 d1, Value.slice p2 l2 d2, Value.slice pe (kp t St ne).length de, Value.int .i64 bud]) .u8 p1 l1 F1 ∧ NumsAt ((w6.setCell ⟨s, 4, none⟩ (.slice pe (kp t St ne).length de)).setRow r #[Value.slice p n d, Value.slice p0 l0 d0, Value.slice p1 l1 d1, Value.slice p2 l2 d2, Value.slice pe (kp t St ne).length de, Value.int .i64 bud]) .u8 p2 l2 F2 ∧ EdgB ((w6.setCell ⟨s, 4, none⟩ (.slice pe (kp t St ne).length de)).setRow r #[Value.slice p n d, Value.slice p0 l0 d0, Value.slice p1 l1 d1, Value.slice p2 l2 d2, Value.slice pe (kp t St ne).length de, Value.int .i64 bud]) pe (kp t St ne).length (fun x => St (kpF t St ne x)) (fun x => Ln (kpF t St ne x)) (fun x => Up (kpF t St ne x)) ((w6.setCell ⟨s, 4, none⟩ (.slice pe (kp t St ne).length de)).setRow r #[Value.slice p n d, Value.slice p0 l0 d0, Value.slice p1 l1 d1, Value.slice p2 l2 d2, Value.slice pe (kp t St ne).length de, Value.int .i64 bud]).heap.size ∧ Below s w ((w6.setCell ⟨s, 4, none⟩ (.slice pe (kp t St ne).length de)).setRow r #[Value.slice p n d, Value.slice p0 l0 d0, Value.slice p1 l1 d1, Value.slice p2 l2 d2, Value.slice pe (kp t St ne).length de, Value.int .i64 bud])) :=
          ⟨nums_apart (nums_apart (nn.below hb56 le) hN6 no2 hO7) hR7 no3 hO8, nums_apart (nums_apart (na0.below hb56 le) hN6 no2 hO7) hR7 no3 hO8, nums_apart (nums_apart (na1.below hb56 le) hN6 no2 hO7) hR7 no3 hO8, nums_apart (nums_apart (na2.below hb56 le) hN6 no2 hO7) hR7 no3 hO8,
            (edg_apart (edg_apart hE6 hN6 no2 hO7) hR7 no3 hO8).mono (Nat.le_trans hO7.size hO8.size), (hb06.trans (hO7.below (B := s) (by have := hb06.size; omega) (fun k e => by (first | omega | (dsimp only at e; omega))))).trans (hO8.below (B := s) (by have := hb06.size; have := hO7.size; omega) (fun k e => by (first | omega | (dsimp only at e; omega))))⟩
        clear nn na0 na1 na2 hE6 hN hq3 hR3 hb3 hb5 hb6 hb56 hN6 hR6 hb06 hO7 hO8 no2 no3 le hsp
        go_wp2_with (first | (refine wpList_load_row rfl 27 _ rfl s rfl _ #[Value.slice p n d, Value.slice p0 l0 d0, Value.slice p1 l1 d1, Value.slice p2 l2 d2, Value.slice pe (kp t St ne).length de, Value.int .i64 bud] (0, 0) _ hN7 Tryd.underlying27 rfl (by kernel_rfl) ?_) | (refine wpList_store_row rfl 27 _ _ rfl r #[Value.slice p n d, Value.slice p0 l0 d0, Value.slice p1 l1 d1, Value.slice p2 l2 d2, Value.slice pe (kp t St ne).length de, Value.int .i64 bud] rfl rfl 27 _ hR7 (by kernel_rfl) rfl (by kernel_rfl) ?_))
        obtain ⟨y0, y1, y2, y3, y4, y5⟩ := FIN.out
        exact bodyPost_ret (results_cell_row rfl _ _ r 27 #[Value.slice p n d, Value.slice p0 l0 d0, Value.slice p1 l1 d1, Value.slice p2 l2 d2, Value.slice pe (kp t St ne).length de, Value.int .i64 bud] (0, 0) _ rfl (hR7.setRow _) Tryd.underlying27 rfl (by kernel_rfl)) rfl ⟨p, p0, p1, p2, pe, d, d0, d1, d2, de, rfl, y0, y1, y2, y3, y4, by rw [hsz]; exact y5⟩
      exact AllReadyH.nil
    exact AllReadyH.nil
  refine AllReadyH.cons rfl (fun K hK => ?_) ?_
  · -- load 6
    go_simp
    refine hK.out _ _ hS0 (fun _ => ?_)
    clear hK K
    simp only [List.getElem_toArray, List.getElem_cons_zero, List.getElem_cons_succ, Act.put, List.setIfInBounds_toArray, List.set_cons_zero, List.set_cons_succ]
    refine wpAnyH_ready (rs := [2, 10]) (by kernel_rfl) (by simp) ?_
    refine AllReadyH.cons rfl (fun K hK => ?_) ?_
    · -- load 2
      go_simp
      refine hK.out _ _ hS0 (fun _ => ?_)
      clear hK K
      simp only [List.getElem_toArray, List.getElem_cons_zero, List.getElem_cons_succ, Act.put, List.setIfInBounds_toArray, List.set_cons_zero, List.set_cons_succ]
      refine wpAnyH_ready (rs := [3, 10]) (by kernel_rfl) (by simp) ?_
      refine AllReadyH.cons rfl (fun K hK => ?_) ?_
      · -- call 3
        go_simp
        refine (slClone_calls o0 l0 c0 F0 _ hn0 hS0.2.1).mono ?_
        rintro e v1 ⟨p0, d0, rfl, a0, hb1⟩
        (try go_simp)
        refine hK.out _ _ ⟨(hS0.1.below hb1 (Nat.le_refl _)), (hS0.2.1.below hb1 (Nat.le_refl _)), (hS0.2.2.1.below hb1 (Nat.le_refl _)), (hS0.2.2.2.1.below hb1 (Nat.le_refl _)), (hS0.2.2.2.2.1.below hb1 hS0.2.2.2.2.1.lt), (hS0.2.2.2.2.2.1.below hb1 hS0.2.2.2.2.2.1.lt), (by first | exact hS0.2.2.2.2.2.2.1.low hb1 | exact hS0.2.2.2.2.2.2.1.below hb1 (Nat.le_refl _)), (by first | exact hS0.2.2.2.2.2.2.2.trans (hb1.mono hS0.2.2.2.2.2.2.2.size) | exact hS0.2.2.2.2.2.2.2.trans (hb1.mono (by have := hS0.2.2.2.2.2.2.2.size; omega)))⟩ (fun hS1 => ?_)
        clear hK K
        have hB3_1 : Blk v1 s 27 #[Value.slice p n d, Value.slice o0 l0 c0, Value.slice o1 l1 c1, Value.slice o2 l2 c2, Value.slice oe ne ce, Value.int .i64 bud] := (hB3_0.below hb1 hB3_0.lt)
        have k1_1 : v1.cell? ⟨s, 1, none⟩ = some (.slice o0 l0 c0) := ((hb1.cell (cell_lt k1_0)).trans k1_0)
        have k2_1 : v1.cell? ⟨s, 2, none⟩ = some (.slice o1 l1 c1) := ((hb1.cell (cell_lt k2_0)).trans k2_0)
        have k3_1 : v1.cell? ⟨s, 3, none⟩ = some (.slice o2 l2 c2) := ((hb1.cell (cell_lt k3_0)).trans k3_0)
        have hT : NumsAt v1 .u8 p n F ∧ NumsAt v1 .u8 o0 l0 F0 ∧ NumsAt v1 .u8 o1 l1 F1 ∧ NumsAt v1 .u8 o2 l2 F2 ∧ Blk v1 (s + 1) 2 #[.int .i64 t] ∧ Blk v1 r 27 #[.slice none 0 0, .slice none 0 0, .slice none 0 0, .slice none 0 0, .slice none 0 0, .int .i64 0] ∧ EdgB v1 oe ne St Ln Up s ∧ Below s w v1 ∧ NumsAt v1 .u8 p0 l0 F0 := ⟨hS1.1, hS1.2.1, hS1.2.2.1, hS1.2.2.2.1, hS1.2.2.2.2.1, hS1.2.2.2.2.2.1, hS1.2.2.2.2.2.2.1, hS1.2.2.2.2.2.2.2, a0⟩
        refine wpAnyH_mono (S' := fun W => NumsAt W .u8 p n F ∧ NumsAt W .u8 o0 l0 F0 ∧ NumsAt W .u8 o1 l1 F1 ∧ NumsAt W .u8 o2 l2 F2 ∧ Blk W (s + 1) 2 #[.int .i64 t] ∧ Blk W r 27 #[.slice none 0 0, .slice none 0 0, .slice none 0 0, .slice none 0 0, .slice none 0 0, .int .i64 0] ∧ EdgB W oe ne St Ln Up s ∧ Below s w W ∧ NumsAt W .u8 p0 l0 F0) (fun _ h => ⟨h.1, h.2.1, h.2.2.1, h.2.2.2.1, h.2.2.2.2.1, h.2.2.2.2.2.1, h.2.2.2.2.2.2.1, h.2.2.2.2.2.2.2.1⟩) ?_
        clear hS1
        have hS1 := hT
        clear hT
        clear hb1 hS0
        simp only [List.getElem_toArray, List.getElem_cons_zero, List.getElem_cons_succ, Act.put, List.setIfInBounds_toArray, List.set_cons_zero, List.set_cons_succ]
        refine wpAnyH_ready (rs := [7, 10]) (by kernel_rfl) (by simp) ?_
        refine AllReadyH.cons rfl (fun K hK => ?_) ?_
        · -- call 7
          go_simp
          refine (slClone_calls o1 l1 c1 F1 _ hn1 hS1.2.2.1).mono ?_
          rintro e v2 ⟨p1, d1, rfl, a1, hb2⟩
          (try go_simp)
          refine hK.out _ _ ⟨(hS1.1.below hb2 (Nat.le_refl _)), (hS1.2.1.below hb2 (Nat.le_refl _)), (hS1.2.2.1.below hb2 (Nat.le_refl _)), (hS1.2.2.2.1.below hb2 (Nat.le_refl _)), (hS1.2.2.2.2.1.below hb2 hS1.2.2.2.2.1.lt), (hS1.2.2.2.2.2.1.below hb2 hS1.2.2.2.2.2.1.lt), (by first | exact hS1.2.2.2.2.2.2.1.low hb2 | exact hS1.2.2.2.2.2.2.1.below hb2 (Nat.le_refl _)), (by first | exact hS1.2.2.2.2.2.2.2.1.trans (hb2.mono hS1.2.2.2.2.2.2.2.1.size) | exact hS1.2.2.2.2.2.2.2.1.trans (hb2.mono (by have := hS1.2.2.2.2.2.2.2.1.size; omega))), (hS1.2.2.2.2.2.2.2.2.below hb2 (Nat.le_refl _))⟩ (fun hS2 => ?_)
          clear hK K
          have hB3_2 : Blk v2 s 27 #[Value.slice p n d, Value.slice o0 l0 c0, Value.slice o1 l1 c1, Value.slice o2 l2 c2, Value.slice oe ne ce, Value.int .i64 bud] := (hB3_1.below hb2 hB3_1.lt)
          have k1_2 : v2.cell? ⟨s, 1, none⟩ = some (.slice o0 l0 c0) := ((hb2.cell (cell_lt k1_1)).trans k1_1)
          have k2_2 : v2.cell? ⟨s, 2, none⟩ = some (.slice o1 l1 c1) := ((hb2.cell (cell_lt k2_1)).trans k2_1)
          have k3_2 : v2.cell? ⟨s, 3, none⟩ = some (.slice o2 l2 c2) := ((hb2.cell (cell_lt k3_1)).trans k3_1)
          have hT : NumsAt v2 .u8 p n F ∧ NumsAt v2 .u8 o0 l0 F0 ∧ NumsAt v2 .u8 o1 l1 F1 ∧ NumsAt v2 .u8 o2 l2 F2 ∧ Blk v2 (s + 1) 2 #[.int .i64 t] ∧ Blk v2 r 27 #[.slice none 0 0, .slice none 0 0, .slice none 0 0, .slice none 0 0, .slice none 0 0, .int .i64 0] ∧ EdgB v2 oe ne St Ln Up s ∧ Below s w v2 ∧ NumsAt v2 .u8 p0 l0 F0 ∧ NumsAt v2 .u8 p1 l1 F1 := ⟨hS2.1, hS2.2.1, hS2.2.2.1, hS2.2.2.2.1, hS2.2.2.2.2.1, hS2.2.2.2.2.2.1, hS2.2.2.2.2.2.2.1, hS2.2.2.2.2.2.2.2.1, hS2.2.2.2.2.2.2.2.2, a1⟩
          refine wpAnyH_mono (S' := fun W => NumsAt W .u8 p n F ∧ NumsAt W .u8 o0 l0 F0 ∧ NumsAt W .u8 o1 l1 F1 ∧ NumsAt W .u8 o2 l2 F2 ∧ Blk W (s + 1) 2 #[.int .i64 t] ∧ Blk W r 27 #[.slice none 0 0, .slice none 0 0, .slice none 0 0, .slice none 0 0, .slice none 0 0, .int .i64 0] ∧ EdgB W oe ne St Ln Up s ∧ Below s w W ∧ NumsAt W .u8 p0 l0 F0 ∧ NumsAt W .u8 p1 l1 F1) (fun _ h => ⟨h.1, h.2.1, h.2.2.1, h.2.2.2.1, h.2.2.2.2.1, h.2.2.2.2.2.1, h.2.2.2.2.2.2.1, h.2.2.2.2.2.2.2.1, h.2.2.2.2.2.2.2.2.1⟩) ?_
          clear hS2
          have hS2 := hT
          clear hT
          clear hb2 hS1
          simp only [List.getElem_toArray, List.getElem_cons_zero, List.getElem_cons_succ, Act.put, List.setIfInBounds_toArray, List.set_cons_zero, List.set_cons_succ]
          refine wpAnyH_ready (rs := [10]) (by kernel_rfl) (by simp) ?_
          refine AllReadyH.cons rfl (fun K hK => ?_) AllReadyH.nil
          go_simp
          refine hK.out _ _ hS2 (fun _ => ?_)
          clear hK K
          simp only [List.getElem_toArray, List.getElem_cons_zero, List.getElem_cons_succ, Act.put, List.setIfInBounds_toArray, List.set_cons_zero, List.set_cons_succ]
          refine wpAnyH_ready (rs := [11]) (by kernel_rfl) (by simp) ?_
          refine AllReadyH.cons rfl (fun K hK => ?_) AllReadyH.nil
          go_simp
          refine (slClone_calls o2 l2 c2 F2 _ hn2 hS2.2.2.2.1).mono ?_
          rintro e v3 ⟨p2, d2, rfl, a2, hb3⟩
          (try go_simp)
          refine hK.out _ _ ⟨(hS2.1.below hb3 (Nat.le_refl _)), (hS2.2.1.below hb3 (Nat.le_refl _)), (hS2.2.2.1.below hb3 (Nat.le_refl _)), (hS2.2.2.2.1.below hb3 (Nat.le_refl _)), (hS2.2.2.2.2.1.below hb3 hS2.2.2.2.2.1.lt), (hS2.2.2.2.2.2.1.below hb3 hS2.2.2.2.2.2.1.lt), (by first | exact hS2.2.2.2.2.2.2.1.low hb3 | exact hS2.2.2.2.2.2.2.1.below hb3 (Nat.le_refl _)), (by first | exact hS2.2.2.2.2.2.2.2.1.trans (hb3.mono hS2.2.2.2.2.2.2.2.1.size) | exact hS2.2.2.2.2.2.2.2.1.trans (hb3.mono (by have := hS2.2.2.2.2.2.2.2.1.size; omega))), (hS2.2.2.2.2.2.2.2.2.1.below hb3 (Nat.le_refl _)), (hS2.2.2.2.2.2.2.2.2.2.below hb3 (Nat.le_refl _))⟩ (fun hS3 => ?_)
          clear hK K
          have hB3_3 : Blk v3 s 27 #[Value.slice p n d, Value.slice o0 l0 c0, Value.slice o1 l1 c1, Value.slice o2 l2 c2, Value.slice oe ne ce, Value.int .i64 bud] := (hB3_2.below hb3 hB3_2.lt)
          have k1_3 : v3.cell? ⟨s, 1, none⟩ = some (.slice o0 l0 c0) := ((hb3.cell (cell_lt k1_2)).trans k1_2)
          have k2_3 : v3.cell? ⟨s, 2, none⟩ = some (.slice o1 l1 c1) := ((hb3.cell (cell_lt k2_2)).trans k2_2)
          have k3_3 : v3.cell? ⟨s, 3, none⟩ = some (.slice o2 l2 c2) := ((hb3.cell (cell_lt k3_2)).trans k3_2)
          have hT : NumsAt v3 .u8 p n F ∧ NumsAt v3 .u8 o0 l0 F0 ∧ NumsAt v3 .u8 o1 l1 F1 ∧ NumsAt v3 .u8 o2 l2 F2 ∧ Blk v3 (s + 1) 2 #[.int .i64 t] ∧ Blk v3 r 27 #[.slice none 0 0, .slice none 0 0, .slice none 0 0, .slice none 0 0, .slice none 0 0, .int .i64 0] ∧ EdgB v3 oe ne St Ln Up s ∧ Below s w v3 ∧ NumsAt v3 .u8 p0 l0 F0 ∧ NumsAt v3 .u8 p1 l1 F1 ∧ NumsAt v3 .u8 p2 l2 F2 := ⟨hS3.1, hS3.2.1, hS3.2.2.1, hS3.2.2.2.1, hS3.2.2.2.2.1, hS3.2.2.2.2.2.1, hS3.2.2.2.2.2.2.1, hS3.2.2.2.2.2.2.2.1, hS3.2.2.2.2.2.2.2.2.1, hS3.2.2.2.2.2.2.2.2.2, a2⟩
          refine wpAnyH_mono (S' := fun W => NumsAt W .u8 p n F ∧ NumsAt W .u8 o0 l0 F0 ∧ NumsAt W .u8 o1 l1 F1 ∧ NumsAt W .u8 o2 l2 F2 ∧ Blk W (s + 1) 2 #[.int .i64 t] ∧ Blk W r 27 #[.slice none 0 0, .slice none 0 0, .slice none 0 0, .slice none 0 0, .slice none 0 0, .int .i64 0] ∧ EdgB W oe ne St Ln Up s ∧ Below s w W ∧ NumsAt W .u8 p0 l0 F0 ∧ NumsAt W .u8 p1 l1 F1 ∧ NumsAt W .u8 p2 l2 F2) (fun _ h => ⟨h.1, h.2.1, h.2.2.1, h.2.2.2.1, h.2.2.2.2.1, h.2.2.2.2.2.1, h.2.2.2.2.2.2.1, h.2.2.2.2.2.2.2.1, h.2.2.2.2.2.2.2.2.1, h.2.2.2.2.2.2.2.2.2.1⟩) ?_
          clear hS3
          have hS3 := hT
          clear hT
          clear hb3 hS2
          simp only [List.getElem_toArray, List.getElem_cons_zero, List.getElem_cons_succ, Act.put, List.setIfInBounds_toArray, List.set_cons_zero, List.set_cons_succ]
          refine wpAnyH_take (i := 12) (v := ?_) rfl (by kernel_rfl) (by kernel_rfl) (by kernel_rfl) (fun _ _ _ h => h) (Or.inl ⟨by rfl, ?_⟩) hS3 ?_
          rotate_left
          · (intro w hSw; (try dsimp only at hSw); go_simp; try with_reducible rfl)
          simp only [List.getElem_toArray, List.getElem_cons_zero, List.getElem_cons_succ, Act.put, List.setIfInBounds_toArray, List.set_cons_zero, List.set_cons_succ]
          refine wpAnyH_take (i := 13) (v := ?_) rfl (by kernel_rfl) (by kernel_rfl) (by kernel_rfl) (fun _ _ _ h => h) (Or.inl ⟨by rfl, ?_⟩) hS3 ?_
          rotate_left
          · (intro w hSw; (try dsimp only at hSw); go_simp; try with_reducible rfl)
          simp only [List.getElem_toArray, List.getElem_cons_zero, List.getElem_cons_succ, Act.put, List.setIfInBounds_toArray, List.set_cons_zero, List.set_cons_succ]
          refine wpAnyH_ready (rs := [14]) (by kernel_rfl) (by simp) ?_
          refine AllReadyH.cons rfl (fun K hK => ?_) AllReadyH.nil
          rw [if_pos (show Region.wanted _ _ = true from by rfl)]
          have hO := only_setCells (S := fun k => k = s) rfl (#[Value.slice p0 l0 d0, Value.slice p1 l1 d1, Value.slice p2 l2 d2] : Array Value).toList 1 v3 (Only.refl _ _)
          have hN : Blk (v3.setCells s 1 (#[Value.slice p0 l0 d0, Value.slice p1 l1 d1, Value.slice p2 l2 d2] : Array Value).toList) s 27 #[Value.slice p n d, Value.slice p0 l0 d0, Value.slice p1 l1 d1, Value.slice p2 l2 d2, Value.slice oe ne ce, Value.int .i64 bud] := Blk.set_ (Blk.set_ (Blk.set_ hB3_3 1 _) 2 _) 3 _
          refine wp_store_mid 24 _ _ rfl s 1 #[Value.slice p0 l0 d0, Value.slice p1 l1 d1, Value.slice p2 l2 d2] rfl rfl (blk_there hB3_3 (by show 1 + 3 ≤ 6; omega)) (by kernel_rfl) (by kernel_rfl) ?_
          refine hK.out _ _ ⟨nums_setCells hS3.1 hB3_3 no1.out _, nums_setCells hS3.2.1 hB3_3 no1.out _, nums_setCells hS3.2.2.1 hB3_3 no1.out _, nums_setCells hS3.2.2.2.1 hB3_3 no1.out _, hS3.2.2.2.2.1.only hO (by (first | omega | (dsimp only; omega))), hS3.2.2.2.2.2.1.only hO (by (first | omega | (dsimp only; omega))), hS3.2.2.2.2.2.2.1.only hO (fun k h => by (first | omega | (dsimp only; omega))), hS3.2.2.2.2.2.2.2.1.trans (hO.below (B := s) (by have := hS3.2.2.2.2.2.2.2.1.size; omega) (fun k e => by (first | omega | (dsimp only at e; omega)))), nums_setCells hS3.2.2.2.2.2.2.2.2.1 hB3_3 no1.out _, nums_setCells hS3.2.2.2.2.2.2.2.2.2.1 hB3_3 no1.out _, nums_setCells hS3.2.2.2.2.2.2.2.2.2.2 hB3_3 no1.out _⟩ (fun hS4 => ?_)
          clear hK K hS3
          generalize v3.setCells s 1 (#[Value.slice p0 l0 d0, Value.slice p1 l1 d1, Value.slice p2 l2 d2] : Array Value).toList = v4 at *
          simp only [List.getElem_toArray, List.getElem_cons_zero, List.getElem_cons_succ, Act.put, List.setIfInBounds_toArray, List.set_cons_zero, List.set_cons_succ]
          refine wpAnyH_done (by kernel_rfl) ?_ _
          have nn := hS4.1
          have mm0 := hS4.2.1
          have mm1 := hS4.2.2.1
          have mm2 := hS4.2.2.2.1
          have hq3 := hS4.2.2.2.2.1
          have hR3 := hS4.2.2.2.2.2.1
          have mE3 := hS4.2.2.2.2.2.2.1
          have hb3 := hS4.2.2.2.2.2.2.2.1
          have na0 := hS4.2.2.2.2.2.2.2.2.1
          have na1 := hS4.2.2.2.2.2.2.2.2.2.1
          have na2 := hS4.2.2.2.2.2.2.2.2.2.2
          clear hS4
          have hB3 := hB3_3
          have k1 := k1_3
          have k2 := k2_3
          have k3 := k3_3
          have HF : Hid (NumsAt v4 .u8 p n F ∧ NumsAt v4 .u8 p0 l0 F0 ∧ NumsAt v4 .u8 p1 l1 F1 ∧ NumsAt v4 .u8 p2 l2 F2) := ⟨nn, na0, na1, na2⟩
          clear nn na0 na1 na2 mm0 mm1 mm2 hB3 k1 k2 k3 no1 hO
          rename_i HV
          clear HV
          have k4 : v4.cell? ⟨s, 4, none⟩ = some (.slice oe ne ce) := hN.cell 4
          have hcl := edClone_calls oe ne ce St Ln Up v4 hne (mE3.mono (by have := hb3.size; omega))
          have HS : Hid (Blk v4 s 27 #[Value.slice p n d, Value.slice p0 l0 d0, Value.slice p1 l1 d1, Value.slice p2 l2 d2, Value.slice oe ne ce, Value.int .i64 bud] ∧ Blk v4 (s + 1) 2 #[.int .i64 t] ∧ Blk v4 r 27 #[.slice none 0 0, .slice none 0 0, .slice none 0 0, .slice none 0 0, .slice none 0 0, .int .i64 0] ∧ Below s w v4) := ⟨hN, hq3, hR3, hb3⟩
          clear hN hq3 hR3 mE3 hb3
          go_wp2_with fail
          refine hcl.mono ?_
          clear hcl k4
          rintro e w5 ⟨ve, rfl, hown, hb5⟩
          obtain ⟨hN, hq3, hR3, hb3⟩ := HS.out
          have hcut := edCut_calls ve ne (s + 1) v4.heap.size t St Ln Up w5 hne hown ((hq3.below hb5 hq3.lt).cell 0) hq3.lt hb5.size
          clear hown hN hq3 hR3 hb3
          go_wp2_with fail
          refine hcut.mono ?_
          clear hcut
          rintro e w6 ⟨pe, de, rfl, hsp, hE6, hb6⟩
          obtain ⟨hN, hq3, hR3, hb3⟩ := HS.out
          have hb56 := hb5.trans (hb6.mono (Nat.le_refl _))
          have hN6 := hN.below hb56 hN.lt
          have hR6 := hR3.below hb56 hR3.lt
          have hb06 := hb3.trans (hb56.mono (by have := hb3.size; omega))
          have k46 : w6.cell? ⟨s, 4, none⟩ = some (.slice oe ne ce) := hN6.cell 4
          have f46 := hN6.frozen 4
          have no2 : ∀ x, Value.int .u8 x ∉ (#[Value.slice p n d, Value.slice p0 l0 d0, Value.slice p1 l1 d1, Value.slice p2 l2 d2, Value.slice oe ne ce, Value.int .i64 bud] : Array Value).toList := by simp
          have no3 : ∀ x, Value.int .u8 x ∉ (#[Value.slice none 0 0, .slice none 0 0, .slice none 0 0, .slice none 0 0, .slice none 0 0, .int .i64 0] : Array Value).toList := by simp
          obtain ⟨nn, na0, na1, na2⟩ := HF.out
          have le := Nat.le_refl v4.heap.size
          have hO7 := Only.setCell (S := fun k => k = s) (Only.refl _ w6) ⟨s, 4, none⟩ rfl (.slice pe (kp t St ne).length de)
          have hN7 : Blk (w6.setCell ⟨s, 4, none⟩ (.slice pe (kp t St ne).length de)) s 27 #[Value.slice p n d, Value.slice p0 l0 d0, Value.slice p1 l1 d1, Value.slice p2 l2 d2, Value.slice pe (kp t St ne).length de, Value.int .i64 bud] := Blk.set_ hN6 4 _
          have hR7 := hR6.only hO7 (by (first | omega | (dsimp only; omega)))
          have hO8 := only_setRowB (w6.setCell ⟨s, 4, none⟩ (.slice pe (kp t St ne).length de)) r #[Value.slice p n d, Value.slice p0 l0 d0, Value.slice p1 l1 d1, Value.slice p2 l2 d2, Value.slice pe (kp t St ne).length de, Value.int .i64 bud]
          have FIN : Hid (NumsAt ((w6.setCell ⟨s, 4, none⟩ (.slice pe (kp t St ne).length de)).setRow r #[Value.slice p n d, Value.slice p0 l0 d0, Value.slice p1 l1 d1, Value.slice p2 l2 d2, Value.slice pe (kp t St ne).length de, Value.int .i64 bud]) .u8 p n F ∧ NumsAt ((w6.setCell ⟨s, 4, none⟩ (.slice pe (kp t St ne).length de)).setRow r #[Value.slice p n d, Value.slice p0 l0 d0, Value.slice p1 l1 d1, Value.slice p2 l2 d2, Value.slice pe (kp t St ne).length de, Value.int .i64 bud]) .u8 p0 l0 F0 ∧ NumsAt ((w6.setCell ⟨s, 4, none⟩ (.slice pe (kp t St ne).length de)).setRow r #[Value.slice p n d, Value.slice p0 l0 d0, Value.slice p1 l1 d1, Value.slice p2 l2 d2, Value.slice pe (kp t St ne).length de, Value.int .i64 bud]) .u8 p1 l1 F1 ∧ NumsAt ((w6.setCell ⟨s, 4, none⟩ (.slice pe (kp t St ne).length de)).setRow r #[Value.slice p n d, Value.slice p0 l0 d0, Value.slice p1 l1 d1, Value.slice p2 l2 d2, Value.slice pe (kp t St ne).length de, Value.int .i64 bud]) .u8 p2 l2 F2 ∧ EdgB ((w6.setCell ⟨s, 4, none⟩ (.slice pe (kp t St ne).length de)).setRow r #[Value.slice p n d, Value.slice p0 l0 d0, Value.slice p1 l1 d1, Value.slice p2 l2 d2, Value.slice pe (kp t St ne).length de, Value.int .i64 bud]) pe (kp t St ne).length (fun x => St (kpF t St ne x)) (fun x => Ln (kpF t St ne x)) (fun x => Up (kpF t St ne x)) ((w6.setCell ⟨s, 4, none⟩ (.slice pe (kp t St ne).length de)).setRow r #[Value.slice p n d, Value.slice p0 l0 d0, Value.slice p1 l1 d1, Value.slice p2 l2 d2, Value.slice pe (kp t St ne).length de, Value.int .i64 bud]).heap.size ∧ Below s w ((w6.setCell ⟨s, 4, none⟩ (.slice pe (kp t St ne).length de)).setRow r #[Value.slice p n d, Value.slice p0 l0 d0, Value.slice p1 l1 d1, Value.slice p2 l2 d2, Value.slice pe (kp t St ne).length de, Value.int .i64 bud])) :=
            ⟨nums_apart (nums_apart (nn.below hb56 le) hN6 no2 hO7) hR7 no3 hO8, nums_apart (nums_apart (na0.below hb56 le) hN6 no2 hO7) hR7 no3 hO8, nums_apart (nums_apart (na1.below hb56 le) hN6 no2 hO7) hR7 no3 hO8, nums_apart (nums_apart (na2.below hb56 le) hN6 no2 hO7) hR7 no3 hO8,
              (edg_apart (edg_apart hE6 hN6 no2 hO7) hR7 no3 hO8).mono (Nat.le_trans hO7.size hO8.size), (hb06.trans (hO7.below (B := s) (by have := hb06.size; omega) (fun k e => by (first | omega | (dsimp only at e; omega))))).trans (hO8.below (B := s) (by have := hb06.size; have := hO7.size; omega) (fun k e => by (first | omega | (dsimp only at e; omega))))⟩
          clear nn na0 na1 na2 hE6 hN hq3 hR3 hb3 hb5 hb6 hb56 hN6 hR6 hb06 hO7 hO8 no2 no3 le hsp
          go_wp2_with (first | (refine wpList_load_row rfl 27 _ rfl s rfl _ #[Value.slice p n d, Value.slice p0 l0 d0, Value.slice p1 l1 d1, Value.slice p2 l2 d2, Value.slice pe (kp t St ne).length de, Value.int .i64 bud] (0, 0) _ hN7 Tryd.underlying27 rfl (by kernel_rfl) ?_) | (refine wpList_store_row rfl 27 _ _ rfl r #[Value.slice p n d, Value.slice p0 l0 d0, Value.slice p1 l1 d1, Value.slice p2 l2 d2, Value.slice pe (kp t St ne).length de, Value.int .i64 bud] rfl rfl 27 _ hR7 (by kernel_rfl) rfl (by kernel_rfl) ?_))
          obtain ⟨y0, y1, y2, y3, y4, y5⟩ := FIN.out
          exact bodyPost_ret (results_cell_row rfl _ _ r 27 #[Value.slice p n d, Value.slice p0 l0 d0, Value.slice p1 l1 d1, Value.slice p2 l2 d2, Value.slice pe (kp t St ne).length de, Value.int .i64 bud] (0, 0) _ rfl (hR7.setRow _) Tryd.underlying27 rfl (by kernel_rfl)) rfl ⟨p, p0, p1, p2, pe, d, d0, d1, d2, de, rfl, y0, y1, y2, y3, y4, by rw [hsz]; exact y5⟩
        refine AllReadyH.cons rfl (fun K hK => ?_) ?_
        · -- load 10
          go_simp
          refine hK.out _ _ hS1 (fun _ => ?_)
          clear hK K
          simp only [List.getElem_toArray, List.getElem_cons_zero, List.getElem_cons_succ, Act.put, List.setIfInBounds_toArray, List.set_cons_zero, List.set_cons_succ]
          refine wpAnyH_ready (rs := [7]) (by kernel_rfl) (by simp) ?_
          refine AllReadyH.cons rfl (fun K hK => ?_) AllReadyH.nil
          go_simp
          refine (slClone_calls o1 l1 c1 F1 _ hn1 hS1.2.2.1).mono ?_
          rintro e v2 ⟨p1, d1, rfl, a1, hb2⟩
          (try go_simp)
          refine hK.out _ _ ⟨(hS1.1.below hb2 (Nat.le_refl _)), (hS1.2.1.below hb2 (Nat.le_refl _)), (hS1.2.2.1.below hb2 (Nat.le_refl _)), (hS1.2.2.2.1.below hb2 (Nat.le_refl _)), (hS1.2.2.2.2.1.below hb2 hS1.2.2.2.2.1.lt), (hS1.2.2.2.2.2.1.below hb2 hS1.2.2.2.2.2.1.lt), (by first | exact hS1.2.2.2.2.2.2.1.low hb2 | exact hS1.2.2.2.2.2.2.1.below hb2 (Nat.le_refl _)), (by first | exact hS1.2.2.2.2.2.2.2.1.trans (hb2.mono hS1.2.2.2.2.2.2.2.1.size) | exact hS1.2.2.2.2.2.2.2.1.trans (hb2.mono (by have := hS1.2.2.2.2.2.2.2.1.size; omega))), (hS1.2.2.2.2.2.2.2.2.below hb2 (Nat.le_refl _))⟩ (fun hS2 => ?_)
          clear hK K
          have hB3_2 : Blk v2 s 27 #[Value.slice p n d, Value.slice o0 l0 c0, Value.slice o1 l1 c1, Value.slice o2 l2 c2, Value.slice oe ne ce, Value.int .i64 bud] := (hB3_1.below hb2 hB3_1.lt)
          have k1_2 : v2.cell? ⟨s, 1, none⟩ = some (.slice o0 l0 c0) := ((hb2.cell (cell_lt k1_1)).trans k1_1)
          have k2_2 : v2.cell? ⟨s, 2, none⟩ = some (.slice o1 l1 c1) := ((hb2.cell (cell_lt k2_1)).trans k2_1)
          have k3_2 : v2.cell? ⟨s, 3, none⟩ = some (.slice o2 l2 c2) := ((hb2.cell (cell_lt k3_1)).trans k3_1)
          have hT : NumsAt v2 .u8 p n F ∧ NumsAt v2 .u8 o0 l0 F0 ∧ NumsAt v2 .u8 o1 l1 F1 ∧ NumsAt v2 .u8 o2 l2 F2 ∧ Blk v2 (s + 1) 2 #[.int .i64 t] ∧ Blk v2 r 27 #[.slice none 0 0, .slice none 0 0, .slice none 0 0, .slice none 0 0, .slice none 0 0, .int .i64 0] ∧ EdgB v2 oe ne St Ln Up s ∧ Below s w v2 ∧ NumsAt v2 .u8 p0 l0 F0 ∧ NumsAt v2 .u8 p1 l1 F1 := ⟨hS2.1, hS2.2.1, hS2.2.2.1, hS2.2.2.2.1, hS2.2.2.2.2.1, hS2.2.2.2.2.2.1, hS2.2.2.2.2.2.2.1, hS2.2.2.2.2.2.2.2.1, hS2.2.2.2.2.2.2.2.2, a1⟩
          refine wpAnyH_mono (S' := fun W => NumsAt W .u8 p n F ∧ NumsAt W .u8 o0 l0 F0 ∧ NumsAt W .u8 o1 l1 F1 ∧ NumsAt W .u8 o2 l2 F2 ∧ Blk W (s + 1) 2 #[.int .i64 t] ∧ Blk W r 27 #[.slice none 0 0, .slice none 0 0, .slice none 0 0, .slice none 0 0, .slice none 0 0, .int .i64 0] ∧ EdgB W oe ne St Ln Up s ∧ Below s w W ∧ NumsAt W .u8 p0 l0 F0 ∧ NumsAt W .u8 p1 l1 F1) (fun _ h => ⟨h.1, h.2.1, h.2.2.1, h.2.2.2.1, h.2.2.2.2.1, h.2.2.2.2.2.1, h.2.2.2.2.2.2.1, h.2.2.2.2.2.2.2.1, h.2.2.2.2.2.2.2.2.1⟩) ?_
          clear hS2
          have hS2 := hT
          clear hT
          clear hb2 hS1
          simp only [List.getElem_toArray, List.getElem_cons_zero, List.getElem_cons_succ, Act.put, List.setIfInBounds_toArray, List.set_cons_zero, List.set_cons_succ]
          refine wpAnyH_ready (rs := [11]) (by kernel_rfl) (by simp) ?_
          refine AllReadyH.cons rfl (fun K hK => ?_) AllReadyH.nil
          go_simp
          refine (slClone_calls o2 l2 c2 F2 _ hn2 hS2.2.2.2.1).mono ?_
          rintro e v3 ⟨p2, d2, rfl, a2, hb3⟩
          (try go_simp)
          refine hK.out _ _ ⟨(hS2.1.below hb3 (Nat.le_refl _)), (hS2.2.1.below hb3 (Nat.le_refl _)), (hS2.2.2.1.below hb3 (Nat.le_refl _)), (hS2.2.2.2.1.below hb3 (Nat.le_refl _)), (hS2.2.2.2.2.1.below hb3 hS2.2.2.2.2.1.lt), (hS2.2.2.2.2.2.1.below hb3 hS2.2.2.2.2.2.1.lt), (by first | exact hS2.2.2.2.2.2.2.1.low hb3 | exact hS2.2.2.2.2.2.2.1.below hb3 (Nat.le_refl _)), (by first | exact hS2.2.2.2.2.2.2.2.1.trans (hb3.mono hS2.2.2.2.2.2.2.2.1.size) | exact hS2.2.2.2.2.2.2.2.1.trans (hb3.mono (by have := hS2.2.2.2.2.2.2.2.1.size; omega))), (hS2.2.2.2.2.2.2.2.2.1.below hb3 (Nat.le_refl _)), (hS2.2.2.2.2.2.2.2.2.2.below hb3 (Nat.le_refl _))⟩ (fun hS3 => ?_)
          clear hK K
          have hB3_3 : Blk v3 s 27 #[Value.slice p n d, Value.slice o0 l0 c0, Value.slice o1 l1 c1, Value.slice o2 l2 c2, Value.slice oe ne ce, Value.int .i64 bud] := (hB3_2.below hb3 hB3_2.lt)
          have k1_3 : v3.cell? ⟨s, 1, none⟩ = some (.slice o0 l0 c0) := ((hb3.cell (cell_lt k1_2)).trans k1_2)
          have k2_3 : v3.cell? ⟨s, 2, none⟩ = some (.slice o1 l1 c1) := ((hb3.cell (cell_lt k2_2)).trans k2_2)
          have k3_3 : v3.cell? ⟨s, 3, none⟩ = some (.slice o2 l2 c2) := ((hb3.cell (cell_lt k3_2)).trans k3_2)
          have hT : NumsAt v3 .u8 p n F ∧ NumsAt v3 .u8 o0 l0 F0 ∧ NumsAt v3 .u8 o1 l1 F1 ∧ NumsAt v3 .u8 o2 l2 F2 ∧ Blk v3 (s + 1) 2 #[.int .i64 t] ∧ Blk v3 r 27 #[.slice none 0 0, .slice none 0 0, .slice none 0 0, .slice none 0 0, .slice none 0 0, .int .i64 0] ∧ EdgB v3 oe ne St Ln Up s ∧ Below s w v3 ∧ NumsAt v3 .u8 p0 l0 F0 ∧ NumsAt v3 .u8 p1 l1 F1 ∧ NumsAt v3 .u8 p2 l2 F2 := ⟨hS3.1, hS3.2.1, hS3.2.2.1, hS3.2.2.2.1, hS3.2.2.2.2.1, hS3.2.2.2.2.2.1, hS3.2.2.2.2.2.2.1, hS3.2.2.2.2.2.2.2.1, hS3.2.2.2.2.2.2.2.2.1, hS3.2.2.2.2.2.2.2.2.2, a2⟩
          refine wpAnyH_mono (S' := fun W => NumsAt W .u8 p n F ∧ NumsAt W .u8 o0 l0 F0 ∧ NumsAt W .u8 o1 l1 F1 ∧ NumsAt W .u8 o2 l2 F2 ∧ Blk W (s + 1) 2 #[.int .i64 t] ∧ Blk W r 27 #[.slice none 0 0, .slice none 0 0, .slice none 0 0, .slice none 0 0, .slice none 0 0, .int .i64 0] ∧ EdgB W oe ne St Ln Up s ∧ Below s w W ∧ NumsAt W .u8 p0 l0 F0 ∧ NumsAt W .u8 p1 l1 F1 ∧ NumsAt W .u8 p2 l2 F2) (fun _ h => ⟨h.1, h.2.1, h.2.2.1, h.2.2.2.1, h.2.2.2.2.1, h.2.2.2.2.2.1, h.2.2.2.2.2.2.1, h.2.2.2.2.2.2.2.1, h.2.2.2.2.2.2.2.2.1, h.2.2.2.2.2.2.2.2.2.1⟩) ?_
          clear hS3
          have hS3 := hT
          clear hT
          clear hb3 hS2
          simp only [List.getElem_toArray, List.getElem_cons_zero, List.getElem_cons_succ, Act.put, List.setIfInBounds_toArray, List.set_cons_zero, List.set_cons_succ]
          refine wpAnyH_take (i := 12) (v := ?_) rfl (by kernel_rfl) (by kernel_rfl) (by kernel_rfl) (fun _ _ _ h => h) (Or.inl ⟨by rfl, ?_⟩) hS3 ?_
          rotate_left
          · (intro w hSw; (try dsimp only at hSw); go_simp; try with_reducible rfl)
          simp only [List.getElem_toArray, List.getElem_cons_zero, List.getElem_cons_succ, Act.put, List.setIfInBounds_toArray, List.set_cons_zero, List.set_cons_succ]
          refine wpAnyH_take (i := 13) (v := ?_) rfl (by kernel_rfl) (by kernel_rfl) (by kernel_rfl) (fun _ _ _ h => h) (Or.inl ⟨by rfl, ?_⟩) hS3 ?_
          rotate_left
          · (intro w hSw; (try dsimp only at hSw); go_simp; try with_reducible rfl)
          simp only [List.getElem_toArray, List.getElem_cons_zero, List.getElem_cons_succ, Act.put, List.setIfInBounds_toArray, List.set_cons_zero, List.set_cons_succ]
          refine wpAnyH_ready (rs := [14]) (by kernel_rfl) (by simp) ?_
          refine AllReadyH.cons rfl (fun K hK => ?_) AllReadyH.nil
          rw [if_pos (show Region.wanted _ _ = true from by rfl)]
          have hO := only_setCells (S := fun k => k = s) rfl (#[Value.slice p0 l0 d0, Value.slice p1 l1 d1, Value.slice p2 l2 d2] : Array Value).toList 1 v3 (Only.refl _ _)
          have hN : Blk (v3.setCells s 1 (#[Value.slice p0 l0 d0, Value.slice p1 l1 d1, Value.slice p2 l2 d2] : Array Value).toList) s 27 #[Value.slice p n d, Value.slice p0 l0 d0, Value.slice p1 l1 d1, Value.slice p2 l2 d2, Value.slice oe ne ce, Value.int .i64 bud] := Blk.set_ (Blk.set_ (Blk.set_ hB3_3 1 _) 2 _) 3 _
          refine wp_store_mid 24 _ _ rfl s 1 #[Value.slice p0 l0 d0, Value.slice p1 l1 d1, Value.slice p2 l2 d2] rfl rfl (blk_there hB3_3 (by show 1 + 3 ≤ 6; omega)) (by kernel_rfl) (by kernel_rfl) ?_
          refine hK.out _ _ ⟨nums_setCells hS3.1 hB3_3 no1.out _, nums_setCells hS3.2.1 hB3_3 no1.out _, nums_setCells hS3.2.2.1 hB3_3 no1.out _, nums_setCells hS3.2.2.2.1 hB3_3 no1.out _, hS3.2.2.2.2.1.only hO (by (first | omega | (dsimp only; omega))), hS3.2.2.2.2.2.1.only hO (by (first | omega | (dsimp only; omega))), hS3.2.2.2.2.2.2.1.only hO (fun k h => by (first | omega | (dsimp only; omega))), hS3.2.2.2.2.2.2.2.1.trans (hO.below (B := s) (by have := hS3.2.2.2.2.2.2.2.1.size; omega) (fun k e => by (first | omega | (dsimp only at e; omega)))), nums_setCells hS3.2.2.2.2.2.2.2.2.1 hB3_3 no1.out _, nums_setCells hS3.2.2.2.2.2.2.2.2.2.1 hB3_3 no1.out _, nums_setCells hS3.2.2.2.2.2.2.2.2.2.2 hB3_3 no1.out _⟩ (fun hS4 => ?_)
          clear hK K hS3
          generalize v3.setCells s 1 (#[Value.slice p0 l0 d0, Value.slice p1 l1 d1, Value.slice p2 l2 d2] : Array Value).toList = v4 at *
          simp only [List.getElem_toArray, List.getElem_cons_zero, List.getElem_cons_succ, Act.put, List.setIfInBounds_toArray, List.set_cons_zero, List.set_cons_succ]
          refine wpAnyH_done (by kernel_rfl) ?_ _
          have nn := hS4.1
          have mm0 := hS4.2.1
          have mm1 := hS4.2.2.1
          have mm2 := hS4.2.2.2.1
          have hq3 := hS4.2.2.2.2.1
          have hR3 := hS4.2.2.2.2.2.1
          have mE3 := hS4.2.2.2.2.2.2.1
          have hb3 := hS4.2.2.2.2.2.2.2.1
          have na0 := hS4.2.2.2.2.2.2.2.2.1
          have na1 := hS4.2.2.2.2.2.2.2.2.2.1
          have na2 := hS4.2.2.2.2.2.2.2.2.2.2
          clear hS4
          have hB3 := hB3_3
          have k1 := k1_3
          have k2 := k2_3
          have k3 := k3_3
          have HF : Hid (NumsAt v4 .u8 p n F ∧ NumsAt v4 .u8 p0 l0 F0 ∧ NumsAt v4 .u8 p1 l1 F1 ∧ NumsAt v4 .u8 p2 l2 F2) := ⟨nn, na0, na1, na2⟩
          clear nn na0 na1 na2 mm0 mm1 mm2 hB3 k1 k2 k3 no1 hO
          rename_i HV
          clear HV
          have k4 : v4.cell? ⟨s, 4, none⟩ = some (.slice oe ne ce) := hN.cell 4
          have hcl := edClone_calls oe ne ce St Ln Up v4 hne (mE3.mono (by have := hb3.size; omega))
          have HS : Hid (Blk v4 s 27 #[Value.slice p n d, Value.slice p0 l0 d0, Value.slice p1 l1 d1, Value.slice p2 l2 d2, Value.slice oe ne ce, Value.int .i64 bud] ∧ Blk v4 (s + 1) 2 #[.int .i64 t] ∧ Blk v4 r 27 #[.slice none 0 0, .slice none 0 0, .slice none 0 0, .slice none 0 0, .slice none 0 0, .int .i64 0] ∧ Below s w v4) := ⟨hN, hq3, hR3, hb3⟩
          clear hN hq3 hR3 mE3 hb3
          go_wp2_with fail
          refine hcl.mono ?_
          clear hcl k4
          rintro e w5 ⟨ve, rfl, hown, hb5⟩
          obtain ⟨hN, hq3, hR3, hb3⟩ := HS.out
          have hcut := edCut_calls ve ne (s + 1) v4.heap.size t St Ln Up w5 hne hown ((hq3.below hb5 hq3.lt).cell 0) hq3.lt hb5.size
          clear hown hN hq3 hR3 hb3
          go_wp2_with fail
          refine hcut.mono ?_
          clear hcut
          rintro e w6 ⟨pe, de, rfl, hsp, hE6, hb6⟩
          obtain ⟨hN, hq3, hR3, hb3⟩ := HS.out
          have hb56 := hb5.trans (hb6.mono (Nat.le_refl _))
          have hN6 := hN.below hb56 hN.lt
          have hR6 := hR3.below hb56 hR3.lt
          have hb06 := hb3.trans (hb56.mono (by have := hb3.size; omega))
          have k46 : w6.cell? ⟨s, 4, none⟩ = some (.slice oe ne ce) := hN6.cell 4
          have f46 := hN6.frozen 4
          have no2 : ∀ x, Value.int .u8 x ∉ (#[Value.slice p n d, Value.slice p0 l0 d0, Value.slice p1 l1 d1, Value.slice p2 l2 d2, Value.slice oe ne ce, Value.int .i64 bud] : Array Value).toList := by simp
          have no3 : ∀ x, Value.int .u8 x ∉ (#[Value.slice none 0 0, .slice none 0 0, .slice none 0 0, .slice none 0 0, .slice none 0 0, .int .i64 0] : Array Value).toList := by simp
          obtain ⟨nn, na0, na1, na2⟩ := HF.out
          have le := Nat.le_refl v4.heap.size
          have hO7 := Only.setCell (S := fun k => k = s) (Only.refl _ w6) ⟨s, 4, none⟩ rfl (.slice pe (kp t St ne).length de)
          have hN7 : Blk (w6.setCell ⟨s, 4, none⟩ (.slice pe (kp t St ne).length de)) s 27 #[Value.slice p n d, Value.slice p0 l0 d0, Value.slice p1 l1 d1, Value.slice p2 l2 d2, Value.slice pe (kp t St ne).length de, Value.int .i64 bud] := Blk.set_ hN6 4 _
          have hR7 := hR6.only hO7 (by (first | omega | (dsimp only; omega)))
          have hO8 := only_setRowB (w6.setCell ⟨s, 4, none⟩ (.slice pe (kp t St ne).length de)) r #[Value.slice p n d, Value.slice p0 l0 d0, Value.slice p1 l1 d1, Value.slice p2 l2 d2, Value.slice pe (kp t St ne).length de, Value.int .i64 bud]
          have FIN : Hid (NumsAt ((w6.setCell ⟨s, 4, none⟩ (.slice pe (kp t St ne).length de)).setRow r #[Value.slice p n d, Value.slice p0 l0 d0, Value.slice p1 l1 d1, Value.slice p2 l2 d2, Value.slice pe (kp t St ne).length de, Value.int .i64 bud]) .u8 p n F ∧ NumsAt ((w6.setCell ⟨s, 4, none⟩ (.slice pe (kp t St ne).length de)).setRow r #[Value.slice p n d, Value.slice p0 l0 d0, Value.slice p1 l1 d1, Value.slice p2 l2 d2, Value.slice pe (kp t St ne).length de, Value.int .i64 bud]) .u8 p0 l0 F0 ∧ NumsAt ((w6.setCell ⟨s, 4, none⟩ (.slice pe (kp t St ne).length de)).setRow r #[Value.slice p n d, Value.slice p0 l0 d0, Value.slice p1 l1 d1, Value.slice p2 l2 d2, Value.slice pe (kp t St ne).length de, Value.int .i64 bud]) .u8 p1 l1 F1 ∧ NumsAt ((w6.setCell ⟨s, 4, none⟩ (.slice pe (kp t St ne).length de)).setRow r #[Value.slice p n d, Value.slice p0 l0 d0, Value.slice p1 l1 d1, Value.slice p2 l2 d2, Value.slice pe (kp t St ne).length de, Value.int .i64 bud]) .u8 p2 l2 F2 ∧ EdgB ((w6.setCell ⟨s, 4, none⟩ (.slice pe (kp t St ne).length de)).setRow r #[Value.slice p n d, Value.slice p0 l0 d0, Value.slice p1 l1 d1, Value.slice p2 l2 d2, Value.slice pe (kp t St ne).length de, Value.int .i64 bud]) pe (kp t St ne).length (fun x => St (kpF t St ne x)) (fun x => Ln (kpF t St ne x)) (fun x => Up (kpF t St ne x)) ((w6.setCell ⟨s, 4, none⟩ (.slice pe (kp t St ne).length de)).setRow r #[Value.slice p n d, Value.slice p0 l0 d0, Value.slice p1 l1 d1, Value.slice p2 l2 d2, Value.slice pe (kp t St ne).length de, Value.int .i64 bud]).heap.size ∧ Below s w ((w6.setCell ⟨s, 4, none⟩ (.slice pe (kp t St ne).length de)).setRow r #[Value.slice p n d, Value.slice p0 l0 d0, Value.slice p1 l1 d1, Value.slice p2 l2 d2, Value.slice pe (kp t St ne).length de, Value.int .i64 bud])) :=
            ⟨nums_apart (nums_apart (nn.below hb56 le) hN6 no2 hO7) hR7 no3 hO8, nums_apart (nums_apart (na0.below hb56 le) hN6 no2 hO7) hR7 no3 hO8, nums_apart (nums_apart (na1.below hb56 le) hN6 no2 hO7) hR7 no3 hO8, nums_apart (nums_apart (na2.below hb56 le) hN6 no2 hO7) hR7 no3 hO8,
              (edg_apart (edg_apart hE6 hN6 no2 hO7) hR7 no3 hO8).mono (Nat.le_trans hO7.size hO8.size), (hb06.trans (hO7.below (B := s) (by have := hb06.size; omega) (fun k e => by (first | omega | (dsimp only at e; omega))))).trans (hO8.below (B := s) (by have := hb06.size; have := hO7.size; omega) (fun k e => by (first | omega | (dsimp only at e; omega))))⟩
          clear nn na0 na1 na2 hE6 hN hq3 hR3 hb3 hb5 hb6 hb56 hN6 hR6 hb06 hO7 hO8 no2 no3 le hsp
          go_wp2_with (first | (refine wpList_load_row rfl 27 _ rfl s rfl _ #[Value.slice p n d, Value.slice p0 l0 d0, Value.slice p1 l1 d1, Value.slice p2 l2 d2, Value.slice pe (kp t St ne).length de, Value.int .i64 bud] (0, 0) _ hN7 Tryd.underlying27 rfl (by kernel_rfl) ?_) | (refine wpList_store_row rfl 27 _ _ rfl r #[Value.slice p n d, Value.slice p0 l0 d0, Value.slice p1 l1 d1, Value.slice p2 l2 d2, Value.slice pe (kp t St ne).length de, Value.int .i64 bud] rfl rfl 27 _ hR7 (by kernel_rfl) rfl (by kernel_rfl) ?_))
          obtain ⟨y0, y1, y2, y3, y4, y5⟩ := FIN.out
          exact bodyPost_ret (results_cell_row rfl _ _ r 27 #[Value.slice p n d, Value.slice p0 l0 d0, Value.slice p1 l1 d1, Value.slice p2 l2 d2, Value.slice pe (kp t St ne).length de, Value.int .i64 bud] (0, 0) _ rfl (hR7.setRow _) Tryd.underlying27 rfl (by kernel_rfl)) rfl ⟨p, p0, p1, p2, pe, d, d0, d1, d2, de, rfl, y0, y1, y2, y3, y4, by rw [hsz]; exact y5⟩
        exact AllReadyH.nil
      refine AllReadyH.cons rfl (fun K hK => ?_) ?_
      · -- load 10
        go_simp
        refine hK.out _ _ hS0 (fun _ => ?_)
        clear hK K
        simp only [List.getElem_toArray, List.getElem_cons_zero, List.getElem_cons_succ, Act.put, List.setIfInBounds_toArray, List.set_cons_zero, List.set_cons_succ]
        refine wpAnyH_ready (rs := [3]) (by kernel_rfl) (by simp) ?_
        refine AllReadyH.cons rfl (fun K hK => ?_) AllReadyH.nil
        go_simp
        refine (slClone_calls o0 l0 c0 F0 _ hn0 hS0.2.1).mono ?_
        rintro e v1 ⟨p0, d0, rfl, a0, hb1⟩
        (try go_simp)
        refine hK.out _ _ ⟨(hS0.1.below hb1 (Nat.le_refl _)), (hS0.2.1.below hb1 (Nat.le_refl _)), (hS0.2.2.1.below hb1 (Nat.le_refl _)), (hS0.2.2.2.1.below hb1 (Nat.le_refl _)), (hS0.2.2.2.2.1.below hb1 hS0.2.2.2.2.1.lt), (hS0.2.2.2.2.2.1.below hb1 hS0.2.2.2.2.2.1.lt), (by first | exact hS0.2.2.2.2.2.2.1.low hb1 | exact hS0.2.2.2.2.2.2.1.below hb1 (Nat.le_refl _)), (by first | exact hS0.2.2.2.2.2.2.2.trans (hb1.mono hS0.2.2.2.2.2.2.2.size) | exact hS0.2.2.2.2.2.2.2.trans (hb1.mono (by have := hS0.2.2.2.2.2.2.2.size; omega)))⟩ (fun hS1 => ?_)
        clear hK K
        have hB3_1 : Blk v1 s 27 #[Value.slice p n d, Value.slice o0 l0 c0, Value.slice o1 l1 c1, Value.slice o2 l2 c2, Value.slice oe ne ce, Value.int .i64 bud] := (hB3_0.below hb1 hB3_0.lt)
        have k1_1 : v1.cell? ⟨s, 1, none⟩ = some (.slice o0 l0 c0) := ((hb1.cell (cell_lt k1_0)).trans k1_0)
        have k2_1 : v1.cell? ⟨s, 2, none⟩ = some (.slice o1 l1 c1) := ((hb1.cell (cell_lt k2_0)).trans k2_0)
        have k3_1 : v1.cell? ⟨s, 3, none⟩ = some (.slice o2 l2 c2) := ((hb1.cell (cell_lt k3_0)).trans k3_0)
        have hT : NumsAt v1 .u8 p n F ∧ NumsAt v1 .u8 o0 l0 F0 ∧ NumsAt v1 .u8 o1 l1 F1 ∧ NumsAt v1 .u8 o2 l2 F2 ∧ Blk v1 (s + 1) 2 #[.int .i64 t] ∧ Blk v1 r 27 #[.slice none 0 0, .slice none 0 0, .slice none 0 0, .slice none 0 0, .slice none 0 0, .int .i64 0] ∧ EdgB v1 oe ne St Ln Up s ∧ Below s w v1 ∧ NumsAt v1 .u8 p0 l0 F0 := ⟨hS1.1, hS1.2.1, hS1.2.2.1, hS1.2.2.2.1, hS1.2.2.2.2.1, hS1.2.2.2.2.2.1, hS1.2.2.2.2.2.2.1, hS1.2.2.2.2.2.2.2, a0⟩
        refine wpAnyH_mono (S' := fun W => NumsAt W .u8 p n F ∧ NumsAt W .u8 o0 l0 F0 ∧ NumsAt W .u8 o1 l1 F1 ∧ NumsAt W .u8 o2 l2 F2 ∧ Blk W (s + 1) 2 #[.int .i64 t] ∧ Blk W r 27 #[.slice none 0 0, .slice none 0 0, .slice none 0 0, .slice none 0 0, .slice none 0 0, .int .i64 0] ∧ EdgB W oe ne St Ln Up s ∧ Below s w W ∧ NumsAt W .u8 p0 l0 F0) (fun _ h => ⟨h.1, h.2.1, h.2.2.1, h.2.2.2.1, h.2.2.2.2.1, h.2.2.2.2.2.1, h.2.2.2.2.2.2.1, h.2.2.2.2.2.2.2.1⟩) ?_
        clear hS1
        have hS1 := hT
        clear hT
        clear hb1 hS0
        simp only [List.getElem_toArray, List.getElem_cons_zero, List.getElem_cons_succ, Act.put, List.setIfInBounds_toArray, List.set_cons_zero, List.set_cons_succ]
        refine wpAnyH_ready (rs := [7]) (by kernel_rfl) (by simp) ?_
        refine AllReadyH.cons rfl (fun K hK => ?_) AllReadyH.nil
        go_simp
        refine (slClone_calls o1 l1 c1 F1 _ hn1 hS1.2.2.1).mono ?_
        rintro e v2 ⟨p1, d1, rfl, a1, hb2⟩
        (try go_simp)
        refine hK.out _ _ ⟨(hS1.1.below hb2 (Nat.le_refl _)), (hS1.2.1.below hb2 (Nat.le_refl _)), (hS1.2.2.1.below hb2 (Nat.le_refl _)), (hS1.2.2.2.1.below hb2 (Nat.le_refl _)), (hS1.2.2.2.2.1.below hb2 hS1.2.2.2.2.1.lt), (hS1.2.2.2.2.2.1.below hb2 hS1.2.2.2.2.2.1.lt), (by first | exact hS1.2.2.2.2.2.2.1.low hb2 | exact hS1.2.2.2.2.2.2.1.below hb2 (Nat.le_refl _)), (by first | exact hS1.2.2.2.2.2.2.2.1.trans (hb2.mono hS1.2.2.2.2.2.2.2.1.size) | exact hS1.2.2.2.2.2.2.2.1.trans (hb2.mono (by have := hS1.2.2.2.2.2.2.2.1.size; omega))), (hS1.2.2.2.2.2.2.2.2.below hb2 (Nat.le_refl _))⟩ (fun hS2 => ?_)
        clear hK K
        have hB3_2 : Blk v2 s 27 #[Value.slice p n d, Value.slice o0 l0 c0, Value.slice o1 l1 c1, Value.slice o2 l2 c2, Value.slice oe ne ce, Value.int .i64 bud] := (hB3_1.below hb2 hB3_1.lt)
        have k1_2 : v2.cell? ⟨s, 1, none⟩ = some (.slice o0 l0 c0) := ((hb2.cell (cell_lt k1_1)).trans k1_1)
        have k2_2 : v2.cell? ⟨s, 2, none⟩ = some (.slice o1 l1 c1) := ((hb2.cell (cell_lt k2_1)).trans k2_1)
        have k3_2 : v2.cell? ⟨s, 3, none⟩ = some (.slice o2 l2 c2) := ((hb2.cell (cell_lt k3_1)).trans k3_1)
        have hT : NumsAt v2 .u8 p n F ∧ NumsAt v2 .u8 o0 l0 F0 ∧ NumsAt v2 .u8 o1 l1 F1 ∧ NumsAt v2 .u8 o2 l2 F2 ∧ Blk v2 (s + 1) 2 #[.int .i64 t] ∧ Blk v2 r 27 #[.slice none 0 0, .slice none 0 0, .slice none 0 0, .slice none 0 0, .slice none 0 0, .int .i64 0] ∧ EdgB v2 oe ne St Ln Up s ∧ Below s w v2 ∧ NumsAt v2 .u8 p0 l0 F0 ∧ NumsAt v2 .u8 p1 l1 F1 := ⟨hS2.1, hS2.2.1, hS2.2.2.1, hS2.2.2.2.1, hS2.2.2.2.2.1, hS2.2.2.2.2.2.1, hS2.2.2.2.2.2.2.1, hS2.2.2.2.2.2.2.2.1, hS2.2.2.2.2.2.2.2.2, a1⟩
        refine wpAnyH_mono (S' := fun W => NumsAt W .u8 p n F ∧ NumsAt W .u8 o0 l0 F0 ∧ NumsAt W .u8 o1 l1 F1 ∧ NumsAt W .u8 o2 l2 F2 ∧ Blk W (s + 1) 2 #[.int .i64 t] ∧ Blk W r 27 #[.slice none 0 0, .slice none 0 0, .slice none 0 0, .slice none 0 0, .slice none 0 0, .int .i64 0] ∧ EdgB W oe ne St Ln Up s ∧ Below s w W ∧ NumsAt W .u8 p0 l0 F0 ∧ NumsAt W .u8 p1 l1 F1) (fun _ h => ⟨h.1, h.2.1, h.2.2.1, h.2.2.2.1, h.2.2.2.2.1, h.2.2.2.2.2.1, h.2.2.2.2.2.2.1, h.2.2.2.2.2.2.2.1, h.2.2.2.2.2.2.2.2.1⟩) ?_
        clear hS2
        have hS2 := hT
        clear hT
        clear hb2 hS1
        simp only [List.getElem_toArray, List.getElem_cons_zero, List.getElem_cons_succ, Act.put, List.setIfInBounds_toArray, List.set_cons_zero, List.set_cons_succ]
        refine wpAnyH_ready (rs := [11]) (by kernel_rfl) (by simp) ?_
        refine AllReadyH.cons rfl (fun K hK => ?_) AllReadyH.nil
        go_simp
        refine (slClone_calls o2 l2 c2 F2 _ hn2 hS2.2.2.2.1).mono ?_
        rintro e v3 ⟨p2, d2, rfl, a2, hb3⟩
        (try go_simp)
        refine hK.out _ _ ⟨(hS2.1.below hb3 (Nat.le_refl _)), (hS2.2.1.below hb3 (Nat.le_refl _)), (hS2.2.2.1.below hb3 (Nat.le_refl _)), (hS2.2.2.2.1.below hb3 (Nat.le_refl _)), (hS2.2.2.2.2.1.below hb3 hS2.2.2.2.2.1.lt), (hS2.2.2.2.2.2.1.below hb3 hS2.2.2.2.2.2.1.lt), (by first | exact hS2.2.2.2.2.2.2.1.low hb3 | exact hS2.2.2.2.2.2.2.1.below hb3 (Nat.le_refl _)), (by first | exact hS2.2.2.2.2.2.2.2.1.trans (hb3.mono hS2.2.2.2.2.2.2.2.1.size) | exact hS2.2.2.2.2.2.2.2.1.trans (hb3.mono (by have := hS2.2.2.2.2.2.2.2.1.size; omega))), (hS2.2.2.2.2.2.2.2.2.1.below hb3 (Nat.le_refl _)), (hS2.2.2.2.2.2.2.2.2.2.below hb3 (Nat.le_refl _))⟩ (fun hS3 => ?_)
        clear hK K
        have hB3_3 : Blk v3 s 27 #[Value.slice p n d, Value.slice o0 l0 c0, Value.slice o1 l1 c1, Value.slice o2 l2 c2, Value.slice oe ne ce, Value.int .i64 bud] := (hB3_2.below hb3 hB3_2.lt)
        have k1_3 : v3.cell? ⟨s, 1, none⟩ = some (.slice o0 l0 c0) := ((hb3.cell (cell_lt k1_2)).trans k1_2)
        have k2_3 : v3.cell? ⟨s, 2, none⟩ = some (.slice o1 l1 c1) := ((hb3.cell (cell_lt k2_2)).trans k2_2)
        have k3_3 : v3.cell? ⟨s, 3, none⟩ = some (.slice o2 l2 c2) := ((hb3.cell (cell_lt k3_2)).trans k3_2)
        have hT : NumsAt v3 .u8 p n F ∧ NumsAt v3 .u8 o0 l0 F0 ∧ NumsAt v3 .u8 o1 l1 F1 ∧ NumsAt v3 .u8 o2 l2 F2 ∧ Blk v3 (s + 1) 2 #[.int .i64 t] ∧ Blk v3 r 27 #[.slice none 0 0, .slice none 0 0, .slice none 0 0, .slice none 0 0, .slice none 0 0, .int .i64 0] ∧ EdgB v3 oe ne St Ln Up s ∧ Below s w v3 ∧ NumsAt v3 .u8 p0 l0 F0 ∧ NumsAt v3 .u8 p1 l1 F1 ∧ NumsAt v3 .u8 p2 l2 F2 := ⟨hS3.1, hS3.2.1, hS3.2.2.1, hS3.2.2.2.1, hS3.2.2.2.2.1, hS3.2.2.2.2.2.1, hS3.2.2.2.2.2.2.1, hS3.2.2.2.2.2.2.2.1, hS3.2.2.2.2.2.2.2.2.1, hS3.2.2.2.2.2.2.2.2.2, a2⟩
        refine wpAnyH_mono (S' := fun W => NumsAt W .u8 p n F ∧ NumsAt W .u8 o0 l0 F0 ∧ NumsAt W .u8 o1 l1 F1 ∧ NumsAt W .u8 o2 l2 F2 ∧ Blk W (s + 1) 2 #[.int .i64 t] ∧ Blk W r 27 #[.slice none 0 0, .slice none 0 0, .slice none 0 0, .slice none 0 0, .slice none 0 0, .int .i64 0] ∧ EdgB W oe ne St Ln Up s ∧ Below s w W ∧ NumsAt W .u8 p0 l0 F0 ∧ NumsAt W .u8 p1 l1 F1 ∧ NumsAt W .u8 p2 l2 F2) (fun _ h => ⟨h.1, h.2.1, h.2.2.1, h.2.2.2.1, h.2.2.2.2.1, h.2.2.2.2.2.1, h.2.2.2.2.2.2.1, h.2.2.2.2.2.2.2.1, h.2.2.2.2.2.2.2.2.1, h.2.2.2.2.2.2.2.2.2.1⟩) ?_
        clear hS3
        have hS3 := hT
        clear hT
        clear hb3 hS2
        simp only [List.getElem_toArray, List.getElem_cons_zero, List.getElem_cons_succ, Act.put, List.setIfInBounds_toArray, List.set_cons_zero, List.set_cons_succ]
        refine wpAnyH_take (i := 12) (v := ?_) rfl (by kernel_rfl) (by kernel_rfl) (by kernel_rfl) (fun _ _ _ h => h) (Or.inl ⟨by rfl, ?_⟩) hS3 ?_
        rotate_left
        · (intro w hSw; (try dsimp only at hSw); go_simp; try with_reducible rfl)
        simp only [List.getElem_toArray, List.getElem_cons_zero, List.getElem_cons_succ, Act.put, List.setIfInBounds_toArray, List.set_cons_zero, List.set_cons_succ]
        refine wpAnyH_take (i := 13) (v := ?_) rfl (by kernel_rfl) (by kernel_rfl) (by kernel_rfl) (fun _ _ _ h => h) (Or.inl ⟨by rfl, ?_⟩) hS3 ?_
        rotate_left
        · (intro w hSw; (try dsimp only at hSw); go_simp; try with_reducible rfl)
        simp only [List.getElem_toArray, List.getElem_cons_zero, List.getElem_cons_succ, Act.put, List.setIfInBounds_toArray, List.set_cons_zero, List.set_cons_succ]
        refine wpAnyH_ready (rs := [14]) (by kernel_rfl) (by simp) ?_
        refine AllReadyH.cons rfl (fun K hK => ?_) AllReadyH.nil
        rw [if_pos (show Region.wanted _ _ = true from by rfl)]
        have hO := only_setCells (S := fun k => k = s) rfl (#[Value.slice p0 l0 d0, Value.slice p1 l1 d1, Value.slice p2 l2 d2] : Array Value).toList 1 v3 (Only.refl _ _)
        have hN : Blk (v3.setCells s 1 (#[Value.slice p0 l0 d0, Value.slice p1 l1 d1, Value.slice p2 l2 d2] : Array Value).toList) s 27 #[Value.slice p n d, Value.slice p0 l0 d0, Value.slice p1 l1 d1, Value.slice p2 l2 d2, Value.slice oe ne ce, Value.int .i64 bud] := Blk.set_ (Blk.set_ (Blk.set_ hB3_3 1 _) 2 _) 3 _
        refine wp_store_mid 24 _ _ rfl s 1 #[Value.slice p0 l0 d0, Value.slice p1 l1 d1, Value.slice p2 l2 d2] rfl rfl (blk_there hB3_3 (by show 1 + 3 ≤ 6; omega)) (by kernel_rfl) (by kernel_rfl) ?_
        refine hK.out _ _ ⟨nums_setCells hS3.1 hB3_3 no1.out _, nums_setCells hS3.2.1 hB3_3 no1.out _, nums_setCells hS3.2.2.1 hB3_3 no1.out _, nums_setCells hS3.2.2.2.1 hB3_3 no1.out _, hS3.2.2.2.2.1.only hO (by (first | omega | (dsimp only; omega))), hS3.2.2.2.2.2.1.only hO (by (first | omega | (dsimp only; omega))), hS3.2.2.2.2.2.2.1.only hO (fun k h => by (first | omega | (dsimp only; omega))), hS3.2.2.2.2.2.2.2.1.trans (hO.below (B := s) (by have := hS3.2.2.2.2.2.2.2.1.size; omega) (fun k e => by (first | omega | (dsimp only at e; omega)))), nums_setCells hS3.2.2.2.2.2.2.2.2.1 hB3_3 no1.out _, nums_setCells hS3.2.2.2.2.2.2.2.2.2.1 hB3_3 no1.out _, nums_setCells hS3.2.2.2.2.2.2.2.2.2.2 hB3_3 no1.out _⟩ (fun hS4 => ?_)
        clear hK K hS3
        generalize v3.setCells s 1 (#[Value.slice p0 l0 d0, Value.slice p1 l1 d1, Value.slice p2 l2 d2] : Array Value).toList = v4 at *
        simp only [List.getElem_toArray, List.getElem_cons_zero, List.getElem_cons_succ, Act.put, List.setIfInBounds_toArray, List.set_cons_zero, List.set_cons_succ]
        refine wpAnyH_done (by kernel_rfl) ?_ _
        have nn := hS4.1
        have mm0 := hS4.2.1
        have mm1 := hS4.2.2.1
        have mm2 := hS4.2.2.2.1
        have hq3 := hS4.2.2.2.2.1
        have hR3 := hS4.2.2.2.2.2.1
        have mE3 := hS4.2.2.2.2.2.2.1
        have hb3 := hS4.2.2.2.2.2.2.2.1
        have na0 := hS4.2.2.2.2.2.2.2.2.1
        have na1 := hS4.2.2.2.2.2.2.2.2.2.1
        have na2 := hS4.2.2.2.2.2.2.2.2.2.2
        clear hS4
        have hB3 := hB3_3
        have k1 := k1_3
        have k2 := k2_3
        have k3 := k3_3
        have HF : Hid (NumsAt v4 .u8 p n F ∧ NumsAt v4 .u8 p0 l0 F0 ∧ NumsAt v4 .u8 p1 l1 F1 ∧ NumsAt v4 .u8 p2 l2 F2) := ⟨nn, na0, na1, na2⟩
        clear nn na0 na1 na2 mm0 mm1 mm2 hB3 k1 k2 k3 no1 hO
        rename_i HV
        clear HV
        have k4 : v4.cell? ⟨s, 4, none⟩ = some (.slice oe ne ce) := hN.cell 4
        have hcl := edClone_calls oe ne ce St Ln Up v4 hne (mE3.mono (by have := hb3.size; omega))
        have HS : Hid (Blk v4 s 27 #[Value.slice p n d, Value.slice p0 l0 d0, Value.slice p1 l1 d1, Value.slice p2 l2 d2, Value.slice oe ne ce, Value.int .i64 bud] ∧ Blk v4 (s + 1) 2 #[.int .i64 t] ∧ Blk v4 r 27 #[.slice none 0 0, .slice none 0 0, .slice none 0 0, .slice none 0 0, .slice none 0 0, .int .i64 0] ∧ Below s w v4) := ⟨hN, hq3, hR3, hb3⟩
        clear hN hq3 hR3 mE3 hb3
        go_wp2_with fail
        refine hcl.mono ?_
        clear hcl k4
        rintro e w5 ⟨ve, rfl, hown, hb5⟩
        obtain ⟨hN, hq3, hR3, hb3⟩ := HS.out
        have hcut := edCut_calls ve ne (s + 1) v4.heap.size t St Ln Up w5 hne hown ((hq3.below hb5 hq3.lt).cell 0) hq3.lt hb5.size
        clear hown hN hq3 hR3 hb3
        go_wp2_with fail
        refine hcut.mono ?_
        clear hcut
        rintro e w6 ⟨pe, de, rfl, hsp, hE6, hb6⟩
        obtain ⟨hN, hq3, hR3, hb3⟩ := HS.out
        have hb56 := hb5.trans (hb6.mono (Nat.le_refl _))
        have hN6 := hN.below hb56 hN.lt
        have hR6 := hR3.below hb56 hR3.lt
        have hb06 := hb3.trans (hb56.mono (by have := hb3.size; omega))
        have k46 : w6.cell? ⟨s, 4, none⟩ = some (.slice oe ne ce) := hN6.cell 4
        have f46 := hN6.frozen 4
        have no2 : ∀ x, Value.int .u8 x ∉ (#[Value.slice p n d, Value.slice p0 l0 d0, Value.slice p1 l1 d1, Value.slice p2 l2 d2, Value.slice oe ne ce, Value.int .i64 bud] : Array Value).toList := by simp
        have no3 : ∀ x, Value.int .u8 x ∉ (#[Value.slice none 0 0, .slice none 0 0, .slice none 0 0, .slice none 0 0, .slice none 0 0, .int .i64 0] : Array Value).toList := by simp
        obtain ⟨nn, na0, na1, na2⟩ := HF.out
        have le := Nat.le_refl v4.heap.size
        have hO7 := Only.setCell (S := fun k => k = s) (Only.refl _ w6) ⟨s, 4, none⟩ rfl (.slice pe (kp t St ne).length de)
        have hN7 : Blk (w6.setCell ⟨s, 4, none⟩ (.slice pe (kp t St ne).length de)) s 27 #[Value.slice p n d, Value.slice p0 l0 d0, Value.slice p1 l1 d1, Value.slice p2 l2 d2, Value.slice pe (kp t St ne).length de, Value.int .i64 bud] := Blk.set_ hN6 4 _
        have hR7 := hR6.only hO7 (by (first | omega | (dsimp only; omega)))
        have hO8 := only_setRowB (w6.setCell ⟨s, 4, none⟩ (.slice pe (kp t St ne).length de)) r #[Value.slice p n d, Value.slice p0 l0 d0, Value.slice p1 l1 d1, Value.slice p2 l2 d2, Value.slice pe (kp t St ne).length de, Value.int .i64 bud]
        have FIN : Hid (NumsAt ((w6.setCell ⟨s, 4, none⟩ (.slice pe (kp t St ne).length de)).setRow r #[Value.slice p n d, Value.slice p0 l0 d0, Value.slice p1 l1 d1, Value.slice p2 l2 d2, Value.slice pe (kp t St ne).length de, Value.int .i64 bud]) .u8 p n F ∧ NumsAt ((w6.setCell ⟨s, 4, none⟩ (.slice pe (kp t St ne).length de)).setRow r #[Value.slice p n d, Value.slice p0 l0 d0, Value.slice p1 l1 d1, Value.slice p2 l2 d2, Value.slice pe (kp t St ne).length de, Value.int .i64 bud]) .u8 p0 l0 F0 ∧ NumsAt ((w6.setCell ⟨s, 4, none⟩ (.slice pe (kp t St ne).length de)).setRow r #[Value.slice p n d, Value.slice p0 l0 d0, Value.slice p1 l1 d1, Value.slice p2 l2 d2, Value.slice pe (kp t St ne).length de, Value.int .i64 bud]) .u8 p1 l1 F1 ∧ NumsAt ((w6.setCell ⟨s, 4, none⟩ (.slice pe (kp t St ne).length de)).setRow r #[Value.slice p n d, Value.slice p0 l0 d0, Value.slice p1 l1 d1, Value.slice p2 l2 d2, Value.slice pe (kp t St ne).length de, Value.int .i64 bud]) .u8 p2 l2 F2 ∧ EdgB ((w6.setCell ⟨s, 4, none⟩ (.slice pe (kp t St ne).length de)).setRow r #[Value.slice p n d, Value.slice p0 l0 d0, Value.slice p1 l1 d1, Value.slice p2 l2 d2, Value.slice pe (kp t St ne).length de, Value.int .i64 bud]) pe (kp t St ne).length (fun x => St (kpF t St ne x)) (fun x => Ln (kpF t St ne x)) (fun x => Up (kpF t St ne x)) ((w6.setCell ⟨s, 4, none⟩ (.slice pe (kp t St ne).length de)).setRow r #[Value.slice p n d, Value.slice p0 l0 d0, Value.slice p1 l1 d1, Value.slice p2 l2 d2, Value.slice pe (kp t St ne).length de, Value.int .i64 bud]).heap.size ∧ Below s w ((w6.setCell ⟨s, 4, none⟩ (.slice pe (kp t St ne).length de)).setRow r #[Value.slice p n d, Value.slice p0 l0 d0, Value.slice p1 l1 d1, Value.slice p2 l2 d2, Value.slice pe (kp t St ne).length de, Value.int .i64 bud])) :=
          ⟨nums_apart (nums_apart (nn.below hb56 le) hN6 no2 hO7) hR7 no3 hO8, nums_apart (nums_apart (na0.below hb56 le) hN6 no2 hO7) hR7 no3 hO8, nums_apart (nums_apart (na1.below hb56 le) hN6 no2 hO7) hR7 no3 hO8, nums_apart (nums_apart (na2.below hb56 le) hN6 no2 hO7) hR7 no3 hO8,
            (edg_apart (edg_apart hE6 hN6 no2 hO7) hR7 no3 hO8).mono (Nat.le_trans hO7.size hO8.size), (hb06.trans (hO7.below (B := s) (by have := hb06.size; omega) (fun k e => by (first | omega | (dsimp only at e; omega))))).trans (hO8.below (B := s) (by have := hb06.size; have := hO7.size; omega) (fun k e => by (first | omega | (dsimp only at e; omega))))⟩
        clear nn na0 na1 na2 hE6 hN hq3 hR3 hb3 hb5 hb6 hb56 hN6 hR6 hb06 hO7 hO8 no2 no3 le hsp
        go_wp2_with (first | (refine wpList_load_row rfl 27 _ rfl s rfl _ #[Value.slice p n d, Value.slice p0 l0 d0, Value.slice p1 l1 d1, Value.slice p2 l2 d2, Value.slice pe (kp t St ne).length de, Value.int .i64 bud] (0, 0) _ hN7 Tryd.underlying27 rfl (by kernel_rfl) ?_) | (refine wpList_store_row rfl 27 _ _ rfl r #[Value.slice p n d, Value.slice p0 l0 d0, Value.slice p1 l1 d1, Value.slice p2 l2 d2, Value.slice pe (kp t St ne).length de, Value.int .i64 bud] rfl rfl 27 _ hR7 (by kernel_rfl) rfl (by kernel_rfl) ?_))
        obtain ⟨y0, y1, y2, y3, y4, y5⟩ := FIN.out
        exact bodyPost_ret (results_cell_row rfl _ _ r 27 #[Value.slice p n d, Value.slice p0 l0 d0, Value.slice p1 l1 d1, Value.slice p2 l2 d2, Value.slice pe (kp t St ne).length de, Value.int .i64 bud] (0, 0) _ rfl (hR7.setRow _) Tryd.underlying27 rfl (by kernel_rfl)) rfl ⟨p, p0, p1, p2, pe, d, d0, d1, d2, de, rfl, y0, y1, y2, y3, y4, by rw [hsz]; exact y5⟩
      exact AllReadyH.nil
    refine AllReadyH.cons rfl (fun K hK => ?_) ?_
    · -- load 10
      go_simp
      refine hK.out _ _ hS0 (fun _ => ?_)
      clear hK K
      simp only [List.getElem_toArray, List.getElem_cons_zero, List.getElem_cons_succ, Act.put, List.setIfInBounds_toArray, List.set_cons_zero, List.set_cons_succ]
      refine wpAnyH_ready (rs := [2]) (by kernel_rfl) (by simp) ?_
      refine AllReadyH.cons rfl (fun K hK => ?_) AllReadyH.nil
      go_simp
      refine hK.out _ _ hS0 (fun _ => ?_)
      clear hK K
      simp only [List.getElem_toArray, List.getElem_cons_zero, List.getElem_cons_succ, Act.put, List.setIfInBounds_toArray, List.set_cons_zero, List.set_cons_succ]
      refine wpAnyH_ready (rs := [3]) (by kernel_rfl) (by simp) ?_
      refine AllReadyH.cons rfl (fun K hK => ?_) AllReadyH.nil
      go_simp
      refine (slClone_calls o0 l0 c0 F0 _ hn0 hS0.2.1).mono ?_
      rintro e v1 ⟨p0, d0, rfl, a0, hb1⟩
      (try go_simp)
      refine hK.out _ _ ⟨(hS0.1.below hb1 (Nat.le_refl _)), (hS0.2.1.below hb1 (Nat.le_refl _)), (hS0.2.2.1.below hb1 (Nat.le_refl _)), (hS0.2.2.2.1.below hb1 (Nat.le_refl _)), (hS0.2.2.2.2.1.below hb1 hS0.2.2.2.2.1.lt), (hS0.2.2.2.2.2.1.below hb1 hS0.2.2.2.2.2.1.lt), (by first | exact hS0.2.2.2.2.2.2.1.low hb1 | exact hS0.2.2.2.2.2.2.1.below hb1 (Nat.le_refl _)), (by first | exact hS0.2.2.2.2.2.2.2.trans (hb1.mono hS0.2.2.2.2.2.2.2.size) | exact hS0.2.2.2.2.2.2.2.trans (hb1.mono (by have := hS0.2.2.2.2.2.2.2.size; omega)))⟩ (fun hS1 => ?_)
      clear hK K
      have hB3_1 : Blk v1 s 27 #[Value.slice p n d, Value.slice o0 l0 c0, Value.slice o1 l1 c1, Value.slice o2 l2 c2, Value.slice oe ne ce, Value.int .i64 bud] := (hB3_0.below hb1 hB3_0.lt)
      have k1_1 : v1.cell? ⟨s, 1, none⟩ = some (.slice o0 l0 c0) := ((hb1.cell (cell_lt k1_0)).trans k1_0)
      have k2_1 : v1.cell? ⟨s, 2, none⟩ = some (.slice o1 l1 c1) := ((hb1.cell (cell_lt k2_0)).trans k2_0)
      have k3_1 : v1.cell? ⟨s, 3, none⟩ = some (.slice o2 l2 c2) := ((hb1.cell (cell_lt k3_0)).trans k3_0)
      have hT : NumsAt v1 .u8 p n F ∧ NumsAt v1 .u8 o0 l0 F0 ∧ NumsAt v1 .u8 o1 l1 F1 ∧ NumsAt v1 .u8 o2 l2 F2 ∧ Blk v1 (s + 1) 2 #[.int .i64 t] ∧ Blk v1 r 27 #[.slice none 0 0, .slice none 0 0, .slice none 0 0, .slice none 0 0, .slice none 0 0, .int .i64 0] ∧ EdgB v1 oe ne St Ln Up s ∧ Below s w v1 ∧ NumsAt v1 .u8 p0 l0 F0 := ⟨hS1.1, hS1.2.1, hS1.2.2.1, hS1.2.2.2.1, hS1.2.2.2.2.1, hS1.2.2.2.2.2.1, hS1.2.2.2.2.2.2.1, hS1.2.2.2.2.2.2.2, a0⟩
      refine wpAnyH_mono (S' := fun W => NumsAt W .u8 p n F ∧ NumsAt W .u8 o0 l0 F0 ∧ NumsAt W .u8 o1 l1 F1 ∧ NumsAt W .u8 o2 l2 F2 ∧ Blk W (s + 1) 2 #[.int .i64 t] ∧ Blk W r 27 #[.slice none 0 0, .slice none 0 0, .slice none 0 0, .slice none 0 0, .slice none 0 0, .int .i64 0] ∧ EdgB W oe ne St Ln Up s ∧ Below s w W ∧ NumsAt W .u8 p0 l0 F0) (fun _ h => ⟨h.1, h.2.1, h.2.2.1, h.2.2.2.1, h.2.2.2.2.1, h.2.2.2.2.2.1, h.2.2.2.2.2.2.1, h.2.2.2.2.2.2.2.1⟩) ?_
      clear hS1
      have hS1 := hT
      clear hT
      clear hb1 hS0
      simp only [List.getElem_toArray, List.getElem_cons_zero, List.getElem_cons_succ, Act.put, List.setIfInBounds_toArray, List.set_cons_zero, List.set_cons_succ]
      refine wpAnyH_ready (rs := [7]) (by kernel_rfl) (by simp) ?_
      refine AllReadyH.cons rfl (fun K hK => ?_) AllReadyH.nil
      go_simp
      refine (slClone_calls o1 l1 c1 F1 _ hn1 hS1.2.2.1).mono ?_
      rintro e v2 ⟨p1, d1, rfl, a1, hb2⟩
      (try go_simp)
      refine hK.out _ _ ⟨(hS1.1.below hb2 (Nat.le_refl _)), (hS1.2.1.below hb2 (Nat.le_refl _)), (hS1.2.2.1.below hb2 (Nat.le_refl _)), (hS1.2.2.2.1.below hb2 (Nat.le_refl _)), (hS1.2.2.2.2.1.below hb2 hS1.2.2.2.2.1.lt), (hS1.2.2.2.2.2.1.below hb2 hS1.2.2.2.2.2.1.lt), (by first | exact hS1.2.2.2.2.2.2.1.low hb2 | exact hS1.2.2.2.2.2.2.1.below hb2 (Nat.le_refl _)), (by first | exact hS1.2.2.2.2.2.2.2.1.trans (hb2.mono hS1.2.2.2.2.2.2.2.1.size) | exact hS1.2.2.2.2.2.2.2.1.trans (hb2.mono (by have := hS1.2.2.2.2.2.2.2.1.size; omega))), (hS1.2.2.2.2.2.2.2.2.below hb2 (Nat.le_refl _))⟩ (fun hS2 => ?_)
      clear hK K
      have hB3_2 : Blk v2 s 27 #[Value.slice p n d, Value.slice o0 l0 c0, Value.slice o1 l1 c1, Value.slice o2 l2 c2, Value.slice oe ne ce, Value.int .i64 bud] := (hB3_1.below hb2 hB3_1.lt)
      have k1_2 : v2.cell? ⟨s, 1, none⟩ = some (.slice o0 l0 c0) := ((hb2.cell (cell_lt k1_1)).trans k1_1)
      have k2_2 : v2.cell? ⟨s, 2, none⟩ = some (.slice o1 l1 c1) := ((hb2.cell (cell_lt k2_1)).trans k2_1)
      have k3_2 : v2.cell? ⟨s, 3, none⟩ = some (.slice o2 l2 c2) := ((hb2.cell (cell_lt k3_1)).trans k3_1)
      have hT : NumsAt v2 .u8 p n F ∧ NumsAt v2 .u8 o0 l0 F0 ∧ NumsAt v2 .u8 o1 l1 F1 ∧ NumsAt v2 .u8 o2 l2 F2 ∧ Blk v2 (s + 1) 2 #[.int .i64 t] ∧ Blk v2 r 27 #[.slice none 0 0, .slice none 0 0, .slice none 0 0, .slice none 0 0, .slice none 0 0, .int .i64 0] ∧ EdgB v2 oe ne St Ln Up s ∧ Below s w v2 ∧ NumsAt v2 .u8 p0 l0 F0 ∧ NumsAt v2 .u8 p1 l1 F1 := ⟨hS2.1, hS2.2.1, hS2.2.2.1, hS2.2.2.2.1, hS2.2.2.2.2.1, hS2.2.2.2.2.2.1, hS2.2.2.2.2.2.2.1, hS2.2.2.2.2.2.2.2.1, hS2.2.2.2.2.2.2.2.2, a1⟩
      refine wpAnyH_mono (S' := fun W => NumsAt W .u8 p n F ∧ NumsAt W .u8 o0 l0 F0 ∧ NumsAt W .u8 o1 l1 F1 ∧ NumsAt W .u8 o2 l2 F2 ∧ Blk W (s + 1) 2 #[.int .i64 t] ∧ Blk W r 27 #[.slice none 0 0, .slice none 0 0, .slice none 0 0, .slice none 0 0, .slice none 0 0, .int .i64 0] ∧ EdgB W oe ne St Ln Up s ∧ Below s w W ∧ NumsAt W .u8 p0 l0 F0 ∧ NumsAt W .u8 p1 l1 F1) (fun _ h => ⟨h.1, h.2.1, h.2.2.1, h.2.2.2.1, h.2.2.2.2.1, h.2.2.2.2.2.1, h.2.2.2.2.2.2.1, h.2.2.2.2.2.2.2.1, h.2.2.2.2.2.2.2.2.1⟩) ?_
      clear hS2
      have hS2 := hT
      clear hT
      clear hb2 hS1
      simp only [List.getElem_toArray, List.getElem_cons_zero, List.getElem_cons_succ, Act.put, List.setIfInBounds_toArray, List.set_cons_zero, List.set_cons_succ]
      refine wpAnyH_ready (rs := [11]) (by kernel_rfl) (by simp) ?_
      refine AllReadyH.cons rfl (fun K hK => ?_) AllReadyH.nil
      go_simp
      refine (slClone_calls o2 l2 c2 F2 _ hn2 hS2.2.2.2.1).mono ?_
      rintro e v3 ⟨p2, d2, rfl, a2, hb3⟩
      (try go_simp)
      refine hK.out _ _ ⟨(hS2.1.below hb3 (Nat.le_refl _)), (hS2.2.1.below hb3 (Nat.le_refl _)), (hS2.2.2.1.below hb3 (Nat.le_refl _)), (hS2.2.2.2.1.below hb3 (Nat.le_refl _)), (hS2.2.2.2.2.1.below hb3 hS2.2.2.2.2.1.lt), (hS2.2.2.2.2.2.1.below hb3 hS2.2.2.2.2.2.1.lt), (by first | exact hS2.2.2.2.2.2.2.1.low hb3 | exact hS2.2.2.2.2.2.2.1.below hb3 (Nat.le_refl _)), (by first | exact hS2.2.2.2.2.2.2.2.1.trans (hb3.mono hS2.2.2.2.2.2.2.2.1.size) | exact hS2.2.2.2.2.2.2.2.1.trans (hb3.mono (by have := hS2.2.2.2.2.2.2.2.1.size; omega))), (hS2.2.2.2.2.2.2.2.2.1.below hb3 (Nat.le_refl _)), (hS2.2.2.2.2.2.2.2.2.2.below hb3 (Nat.le_refl _))⟩ (fun hS3 => ?_)
      clear hK K
      have hB3_3 : Blk v3 s 27 #[Value.slice p n d, Value.slice o0 l0 c0, Value.slice o1 l1 c1, Value.slice o2 l2 c2, Value.slice oe ne ce, Value.int .i64 bud] := (hB3_2.below hb3 hB3_2.lt)
      have k1_3 : v3.cell? ⟨s, 1, none⟩ = some (.slice o0 l0 c0) := ((hb3.cell (cell_lt k1_2)).trans k1_2)
      have k2_3 : v3.cell? ⟨s, 2, none⟩ = some (.slice o1 l1 c1) := ((hb3.cell (cell_lt k2_2)).trans k2_2)
      have k3_3 : v3.cell? ⟨s, 3, none⟩ = some (.slice o2 l2 c2) := ((hb3.cell (cell_lt k3_2)).trans k3_2)
      have hT : NumsAt v3 .u8 p n F ∧ NumsAt v3 .u8 o0 l0 F0 ∧ NumsAt v3 .u8 o1 l1 F1 ∧ NumsAt v3 .u8 o2 l2 F2 ∧ Blk v3 (s + 1) 2 #[.int .i64 t] ∧ Blk v3 r 27 #[.slice none 0 0, .slice none 0 0, .slice none 0 0, .slice none 0 0, .slice none 0 0, .int .i64 0] ∧ EdgB v3 oe ne St Ln Up s ∧ Below s w v3 ∧ NumsAt v3 .u8 p0 l0 F0 ∧ NumsAt v3 .u8 p1 l1 F1 ∧ NumsAt v3 .u8 p2 l2 F2 := ⟨hS3.1, hS3.2.1, hS3.2.2.1, hS3.2.2.2.1, hS3.2.2.2.2.1, hS3.2.2.2.2.2.1, hS3.2.2.2.2.2.2.1, hS3.2.2.2.2.2.2.2.1, hS3.2.2.2.2.2.2.2.2.1, hS3.2.2.2.2.2.2.2.2.2, a2⟩
      refine wpAnyH_mono (S' := fun W => NumsAt W .u8 p n F ∧ NumsAt W .u8 o0 l0 F0 ∧ NumsAt W .u8 o1 l1 F1 ∧ NumsAt W .u8 o2 l2 F2 ∧ Blk W (s + 1) 2 #[.int .i64 t] ∧ Blk W r 27 #[.slice none 0 0, .slice none 0 0, .slice none 0 0, .slice none 0 0, .slice none 0 0, .int .i64 0] ∧ EdgB W oe ne St Ln Up s ∧ Below s w W ∧ NumsAt W .u8 p0 l0 F0 ∧ NumsAt W .u8 p1 l1 F1 ∧ NumsAt W .u8 p2 l2 F2) (fun _ h => ⟨h.1, h.2.1, h.2.2.1, h.2.2.2.1, h.2.2.2.2.1, h.2.2.2.2.2.1, h.2.2.2.2.2.2.1, h.2.2.2.2.2.2.2.1, h.2.2.2.2.2.2.2.2.1, h.2.2.2.2.2.2.2.2.2.1⟩) ?_
      clear hS3
      have hS3 := hT
      clear hT
      clear hb3 hS2
      simp only [List.getElem_toArray, List.getElem_cons_zero, List.getElem_cons_succ, Act.put, List.setIfInBounds_toArray, List.set_cons_zero, List.set_cons_succ]
      refine wpAnyH_take (i := 12) (v := ?_) rfl (by kernel_rfl) (by kernel_rfl) (by kernel_rfl) (fun _ _ _ h => h) (Or.inl ⟨by rfl, ?_⟩) hS3 ?_
      rotate_left
      · (intro w hSw; (try dsimp only at hSw); go_simp; try with_reducible rfl)
      simp only [List.getElem_toArray, List.getElem_cons_zero, List.getElem_cons_succ, Act.put, List.setIfInBounds_toArray, List.set_cons_zero, List.set_cons_succ]
      refine wpAnyH_take (i := 13) (v := ?_) rfl (by kernel_rfl) (by kernel_rfl) (by kernel_rfl) (fun _ _ _ h => h) (Or.inl ⟨by rfl, ?_⟩) hS3 ?_
      rotate_left
      · (intro w hSw; (try dsimp only at hSw); go_simp; try with_reducible rfl)
      simp only [List.getElem_toArray, List.getElem_cons_zero, List.getElem_cons_succ, Act.put, List.setIfInBounds_toArray, List.set_cons_zero, List.set_cons_succ]
      refine wpAnyH_ready (rs := [14]) (by kernel_rfl) (by simp) ?_
      refine AllReadyH.cons rfl (fun K hK => ?_) AllReadyH.nil
      rw [if_pos (show Region.wanted _ _ = true from by rfl)]
      have hO := only_setCells (S := fun k => k = s) rfl (#[Value.slice p0 l0 d0, Value.slice p1 l1 d1, Value.slice p2 l2 d2] : Array Value).toList 1 v3 (Only.refl _ _)
      have hN : Blk (v3.setCells s 1 (#[Value.slice p0 l0 d0, Value.slice p1 l1 d1, Value.slice p2 l2 d2] : Array Value).toList) s 27 #[Value.slice p n d, Value.slice p0 l0 d0, Value.slice p1 l1 d1, Value.slice p2 l2 d2, Value.slice oe ne ce, Value.int .i64 bud] := Blk.set_ (Blk.set_ (Blk.set_ hB3_3 1 _) 2 _) 3 _
      refine wp_store_mid 24 _ _ rfl s 1 #[Value.slice p0 l0 d0, Value.slice p1 l1 d1, Value.slice p2 l2 d2] rfl rfl (blk_there hB3_3 (by show 1 + 3 ≤ 6; omega)) (by kernel_rfl) (by kernel_rfl) ?_
      refine hK.out _ _ ⟨nums_setCells hS3.1 hB3_3 no1.out _, nums_setCells hS3.2.1 hB3_3 no1.out _, nums_setCells hS3.2.2.1 hB3_3 no1.out _, nums_setCells hS3.2.2.2.1 hB3_3 no1.out _, hS3.2.2.2.2.1.only hO (by (first | omega | (dsimp only; omega))), hS3.2.2.2.2.2.1.only hO (by (first | omega | (dsimp only; omega))), hS3.2.2.2.2.2.2.1.only hO (fun k h => by (first | omega | (dsimp only; omega))), hS3.2.2.2.2.2.2.2.1.trans (hO.below (B := s) (by have := hS3.2.2.2.2.2.2.2.1.size; omega) (fun k e => by (first | omega | (dsimp only at e; omega)))), nums_setCells hS3.2.2.2.2.2.2.2.2.1 hB3_3 no1.out _, nums_setCells hS3.2.2.2.2.2.2.2.2.2.1 hB3_3 no1.out _, nums_setCells hS3.2.2.2.2.2.2.2.2.2.2 hB3_3 no1.out _⟩ (fun hS4 => ?_)
      clear hK K hS3
      generalize v3.setCells s 1 (#[Value.slice p0 l0 d0, Value.slice p1 l1 d1, Value.slice p2 l2 d2] : Array Value).toList = v4 at *
      simp only [List.getElem_toArray, List.getElem_cons_zero, List.getElem_cons_succ, Act.put, List.setIfInBounds_toArray, List.set_cons_zero, List.set_cons_succ]
      refine wpAnyH_done (by kernel_rfl) ?_ _
      have nn := hS4.1
      have mm0 := hS4.2.1
      have mm1 := hS4.2.2.1
      have mm2 := hS4.2.2.2.1
      have hq3 := hS4.2.2.2.2.1
      have hR3 := hS4.2.2.2.2.2.1
      have mE3 := hS4.2.2.2.2.2.2.1
      have hb3 := hS4.2.2.2.2.2.2.2.1
      have na0 := hS4.2.2.2.2.2.2.2.2.1
      have na1 := hS4.2.2.2.2.2.2.2.2.2.1
      have na2 := hS4.2.2.2.2.2.2.2.2.2.2
      clear hS4
      have hB3 := hB3_3
      have k1 := k1_3
      have k2 := k2_3
      have k3 := k3_3
      have HF : Hid (NumsAt v4 .u8 p n F ∧ NumsAt v4 .u8 p0 l0 F0 ∧ NumsAt v4 .u8 p1 l1 F1 ∧ NumsAt v4 .u8 p2 l2 F2) := ⟨nn, na0, na1, na2⟩
      clear nn na0 na1 na2 mm0 mm1 mm2 hB3 k1 k2 k3 no1 hO
      rename_i HV
      clear HV
      have k4 : v4.cell? ⟨s, 4, none⟩ = some (.slice oe ne ce) := hN.cell 4
      have hcl := edClone_calls oe ne ce St Ln Up v4 hne (mE3.mono (by have := hb3.size; omega))
      have HS : Hid (Blk v4 s 27 #[Value.slice p n d, Value.slice p0 l0 d0, Value.slice p1 l1 d1, Value.slice p2 l2 d2, Value.slice oe ne ce, Value.int .i64 bud] ∧ Blk v4 (s + 1) 2 #[.int .i64 t] ∧ Blk v4 r 27 #[.slice none 0 0, .slice none 0 0, .slice none 0 0, .slice none 0 0, .slice none 0 0, .int .i64 0] ∧ Below s w v4) := ⟨hN, hq3, hR3, hb3⟩
      clear hN hq3 hR3 mE3 hb3
      go_wp2_with fail
      refine hcl.mono ?_
      clear hcl k4
      rintro e w5 ⟨ve, rfl, hown, hb5⟩
      obtain ⟨hN, hq3, hR3, hb3⟩ := HS.out
      have hcut := edCut_calls ve ne (s + 1) v4.heap.size t St Ln Up w5 hne hown ((hq3.below hb5 hq3.lt).cell 0) hq3.lt hb5.size
      clear hown hN hq3 hR3 hb3
      go_wp2_with fail
      refine hcut.mono ?_
      clear hcut
      rintro e w6 ⟨pe, de, rfl, hsp, hE6, hb6⟩
      obtain ⟨hN, hq3, hR3, hb3⟩ := HS.out
      have hb56 := hb5.trans (hb6.mono (Nat.le_refl _))
      have hN6 := hN.below hb56 hN.lt
      have hR6 := hR3.below hb56 hR3.lt
      have hb06 := hb3.trans (hb56.mono (by have := hb3.size; omega))
      have k46 : w6.cell? ⟨s, 4, none⟩ = some (.slice oe ne ce) := hN6.cell 4
      have f46 := hN6.frozen 4
      have no2 : ∀ x, Value.int .u8 x ∉ (#[Value.slice p n d, Value.slice p0 l0 d0, Value.slice p1 l1 d1, Value.slice p2 l2 d2, Value.slice oe ne ce, Value.int .i64 bud] : Array Value).toList := by simp
      have no3 : ∀ x, Value.int .u8 x ∉ (#[Value.slice none 0 0, .slice none 0 0, .slice none 0 0, .slice none 0 0, .slice none 0 0, .int .i64 0] : Array Value).toList := by simp
      obtain ⟨nn, na0, na1, na2⟩ := HF.out
      have le := Nat.le_refl v4.heap.size
      have hO7 := Only.setCell (S := fun k => k = s) (Only.refl _ w6) ⟨s, 4, none⟩ rfl (.slice pe (kp t St ne).length de)
      have hN7 : Blk (w6.setCell ⟨s, 4, none⟩ (.slice pe (kp t St ne).length de)) s 27 #[Value.slice p n d, Value.slice p0 l0 d0, Value.slice p1 l1 d1, Value.slice p2 l2 d2, Value.slice pe (kp t St ne).length de, Value.int .i64 bud] := Blk.set_ hN6 4 _
      have hR7 := hR6.only hO7 (by (first | omega | (dsimp only; omega)))
      have hO8 := only_setRowB (w6.setCell ⟨s, 4, none⟩ (.slice pe (kp t St ne).length de)) r #[Value.slice p n d, Value.slice p0 l0 d0, Value.slice p1 l1 d1, Value.slice p2 l2 d2, Value.slice pe (kp t St ne).length de, Value.int .i64 bud]
      have FIN : Hid (NumsAt ((w6.setCell ⟨s, 4, none⟩ (.slice pe (kp t St ne).length de)).setRow r #[Value.slice p n d, Value.slice p0 l0 d0, Value.slice p1 l1 d1, Value.slice p2 l2 d2, Value.slice pe (kp t St ne).length de, Value.int .i64 bud]) .u8 p n F ∧ NumsAt ((w6.setCell ⟨s, 4, none⟩ (.slice pe (kp t St ne).length de)).setRow r #[Value.slice p n d, Value.slice p0 l0 d0, Value.slice p1 l1 d1, Value.slice p2 l2 d2, Value.slice pe (kp t St ne).length de, Value.int .i64 bud]) .u8 p0 l0 F0 ∧ NumsAt ((w6.setCell ⟨s, 4, none⟩ (.slice pe (kp t St ne).length de)).setRow r #[Value.slice p n d, Value.slice p0 l0 d0, Value.slice p1 l1 d1, Value.slice p2 l2 d2, Value.slice pe (kp t St ne).length de, Value.int .i64 bud]) .u8 p1 l1 F1 ∧ NumsAt ((w6.setCell ⟨s, 4, none⟩ (.slice pe (kp t St ne).length de)).setRow r #[Value.slice p n d, Value.slice p0 l0 d0, Value.slice p1 l1 d1, Value.slice p2 l2 d2, Value.slice pe (kp t St ne).length de, Value.int .i64 bud]) .u8 p2 l2 F2 ∧ EdgB ((w6.setCell ⟨s, 4, none⟩ (.slice pe (kp t St ne).length de)).setRow r #[Value.slice p n d, Value.slice p0 l0 d0, Value.slice p1 l1 d1, Value.slice p2 l2 d2, Value.slice pe (kp t St ne).length de, Value.int .i64 bud]) pe (kp t St ne).length (fun x => St (kpF t St ne x)) (fun x => Ln (kpF t St ne x)) (fun x => Up (kpF t St ne x)) ((w6.setCell ⟨s, 4, none⟩ (.slice pe (kp t St ne).length de)).setRow r #[Value.slice p n d, Value.slice p0 l0 d0, Value.slice p1 l1 d1, Value.slice p2 l2 d2, Value.slice pe (kp t St ne).length de, Value.int .i64 bud]).heap.size ∧ Below s w ((w6.setCell ⟨s, 4, none⟩ (.slice pe (kp t St ne).length de)).setRow r #[Value.slice p n d, Value.slice p0 l0 d0, Value.slice p1 l1 d1, Value.slice p2 l2 d2, Value.slice pe (kp t St ne).length de, Value.int .i64 bud])) :=
        ⟨nums_apart (nums_apart (nn.below hb56 le) hN6 no2 hO7) hR7 no3 hO8, nums_apart (nums_apart (na0.below hb56 le) hN6 no2 hO7) hR7 no3 hO8, nums_apart (nums_apart (na1.below hb56 le) hN6 no2 hO7) hR7 no3 hO8, nums_apart (nums_apart (na2.below hb56 le) hN6 no2 hO7) hR7 no3 hO8,
          (edg_apart (edg_apart hE6 hN6 no2 hO7) hR7 no3 hO8).mono (Nat.le_trans hO7.size hO8.size), (hb06.trans (hO7.below (B := s) (by have := hb06.size; omega) (fun k e => by (first | omega | (dsimp only at e; omega))))).trans (hO8.below (B := s) (by have := hb06.size; have := hO7.size; omega) (fun k e => by (first | omega | (dsimp only at e; omega))))⟩
      clear nn na0 na1 na2 hE6 hN hq3 hR3 hb3 hb5 hb6 hb56 hN6 hR6 hb06 hO7 hO8 no2 no3 le hsp
      go_wp2_with (first | (refine wpList_load_row rfl 27 _ rfl s rfl _ #[Value.slice p n d, Value.slice p0 l0 d0, Value.slice p1 l1 d1, Value.slice p2 l2 d2, Value.slice pe (kp t St ne).length de, Value.int .i64 bud] (0, 0) _ hN7 Tryd.underlying27 rfl (by kernel_rfl) ?_) | (refine wpList_store_row rfl 27 _ _ rfl r #[Value.slice p n d, Value.slice p0 l0 d0, Value.slice p1 l1 d1, Value.slice p2 l2 d2, Value.slice pe (kp t St ne).length de, Value.int .i64 bud] rfl rfl 27 _ hR7 (by kernel_rfl) rfl (by kernel_rfl) ?_))
      obtain ⟨y0, y1, y2, y3, y4, y5⟩ := FIN.out
      exact bodyPost_ret (results_cell_row rfl _ _ r 27 #[Value.slice p n d, Value.slice p0 l0 d0, Value.slice p1 l1 d1, Value.slice p2 l2 d2, Value.slice pe (kp t St ne).length de, Value.int .i64 bud] (0, 0) _ rfl (hR7.setRow _) Tryd.underlying27 rfl (by kernel_rfl)) rfl ⟨p, p0, p1, p2, pe, d, d0, d1, d2, de, rfl, y0, y1, y2, y3, y4, by rw [hsz]; exact y5⟩
    exact AllReadyH.nil
  refine AllReadyH.cons rfl (fun K hK => ?_) ?_
  · -- load 10
    go_simp
    refine hK.out _ _ hS0 (fun _ => ?_)
    clear hK K
    simp only [List.getElem_toArray, List.getElem_cons_zero, List.getElem_cons_succ, Act.put, List.setIfInBounds_toArray, List.set_cons_zero, List.set_cons_succ]
    refine wpAnyH_ready (rs := [2, 6]) (by kernel_rfl) (by simp) ?_
    refine AllReadyH.cons rfl (fun K hK => ?_) ?_
    · -- load 2
      go_simp
      refine hK.out _ _ hS0 (fun _ => ?_)
      clear hK K
      simp only [List.getElem_toArray, List.getElem_cons_zero, List.getElem_cons_succ, Act.put, List.setIfInBounds_toArray, List.set_cons_zero, List.set_cons_succ]
      refine wpAnyH_ready (rs := [3, 6]) (by kernel_rfl) (by simp) ?_
      refine AllReadyH.cons rfl (fun K hK => ?_) ?_
      · -- call 3
        go_simp
        refine (slClone_calls o0 l0 c0 F0 _ hn0 hS0.2.1).mono ?_
        rintro e v1 ⟨p0, d0, rfl, a0, hb1⟩
        (try go_simp)
        refine hK.out _ _ ⟨(hS0.1.below hb1 (Nat.le_refl _)), (hS0.2.1.below hb1 (Nat.le_refl _)), (hS0.2.2.1.below hb1 (Nat.le_refl _)), (hS0.2.2.2.1.below hb1 (Nat.le_refl _)), (hS0.2.2.2.2.1.below hb1 hS0.2.2.2.2.1.lt), (hS0.2.2.2.2.2.1.below hb1 hS0.2.2.2.2.2.1.lt), (by first | exact hS0.2.2.2.2.2.2.1.low hb1 | exact hS0.2.2.2.2.2.2.1.below hb1 (Nat.le_refl _)), (by first | exact hS0.2.2.2.2.2.2.2.trans (hb1.mono hS0.2.2.2.2.2.2.2.size) | exact hS0.2.2.2.2.2.2.2.trans (hb1.mono (by have := hS0.2.2.2.2.2.2.2.size; omega)))⟩ (fun hS1 => ?_)
        clear hK K
        have hB3_1 : Blk v1 s 27 #[Value.slice p n d, Value.slice o0 l0 c0, Value.slice o1 l1 c1, Value.slice o2 l2 c2, Value.slice oe ne ce, Value.int .i64 bud] := (hB3_0.below hb1 hB3_0.lt)
        have k1_1 : v1.cell? ⟨s, 1, none⟩ = some (.slice o0 l0 c0) := ((hb1.cell (cell_lt k1_0)).trans k1_0)
        have k2_1 : v1.cell? ⟨s, 2, none⟩ = some (.slice o1 l1 c1) := ((hb1.cell (cell_lt k2_0)).trans k2_0)
        have k3_1 : v1.cell? ⟨s, 3, none⟩ = some (.slice o2 l2 c2) := ((hb1.cell (cell_lt k3_0)).trans k3_0)
        have hT : NumsAt v1 .u8 p n F ∧ NumsAt v1 .u8 o0 l0 F0 ∧ NumsAt v1 .u8 o1 l1 F1 ∧ NumsAt v1 .u8 o2 l2 F2 ∧ Blk v1 (s + 1) 2 #[.int .i64 t] ∧ Blk v1 r 27 #[.slice none 0 0, .slice none 0 0, .slice none 0 0, .slice none 0 0, .slice none 0 0, .int .i64 0] ∧ EdgB v1 oe ne St Ln Up s ∧ Below s w v1 ∧ NumsAt v1 .u8 p0 l0 F0 := ⟨hS1.1, hS1.2.1, hS1.2.2.1, hS1.2.2.2.1, hS1.2.2.2.2.1, hS1.2.2.2.2.2.1, hS1.2.2.2.2.2.2.1, hS1.2.2.2.2.2.2.2, a0⟩
        refine wpAnyH_mono (S' := fun W => NumsAt W .u8 p n F ∧ NumsAt W .u8 o0 l0 F0 ∧ NumsAt W .u8 o1 l1 F1 ∧ NumsAt W .u8 o2 l2 F2 ∧ Blk W (s + 1) 2 #[.int .i64 t] ∧ Blk W r 27 #[.slice none 0 0, .slice none 0 0, .slice none 0 0, .slice none 0 0, .slice none 0 0, .int .i64 0] ∧ EdgB W oe ne St Ln Up s ∧ Below s w W ∧ NumsAt W .u8 p0 l0 F0) (fun _ h => ⟨h.1, h.2.1, h.2.2.1, h.2.2.2.1, h.2.2.2.2.1, h.2.2.2.2.2.1, h.2.2.2.2.2.2.1, h.2.2.2.2.2.2.2.1⟩) ?_
        clear hS1
        have hS1 := hT
        clear hT
        clear hb1 hS0
        simp only [List.getElem_toArray, List.getElem_cons_zero, List.getElem_cons_succ, Act.put, List.setIfInBounds_toArray, List.set_cons_zero, List.set_cons_succ]
        refine wpAnyH_ready (rs := [6]) (by kernel_rfl) (by simp) ?_
        refine AllReadyH.cons rfl (fun K hK => ?_) AllReadyH.nil
        go_simp
        refine hK.out _ _ hS1 (fun _ => ?_)
        clear hK K
        simp only [List.getElem_toArray, List.getElem_cons_zero, List.getElem_cons_succ, Act.put, List.setIfInBounds_toArray, List.set_cons_zero, List.set_cons_succ]
        refine wpAnyH_ready (rs := [7]) (by kernel_rfl) (by simp) ?_
        refine AllReadyH.cons rfl (fun K hK => ?_) AllReadyH.nil
        go_simp
        refine (slClone_calls o1 l1 c1 F1 _ hn1 hS1.2.2.1).mono ?_
        rintro e v2 ⟨p1, d1, rfl, a1, hb2⟩
        (try go_simp)
        refine hK.out _ _ ⟨(hS1.1.below hb2 (Nat.le_refl _)), (hS1.2.1.below hb2 (Nat.le_refl _)), (hS1.2.2.1.below hb2 (Nat.le_refl _)), (hS1.2.2.2.1.below hb2 (Nat.le_refl _)), (hS1.2.2.2.2.1.below hb2 hS1.2.2.2.2.1.lt), (hS1.2.2.2.2.2.1.below hb2 hS1.2.2.2.2.2.1.lt), (by first | exact hS1.2.2.2.2.2.2.1.low hb2 | exact hS1.2.2.2.2.2.2.1.below hb2 (Nat.le_refl _)), (by first | exact hS1.2.2.2.2.2.2.2.1.trans (hb2.mono hS1.2.2.2.2.2.2.2.1.size) | exact hS1.2.2.2.2.2.2.2.1.trans (hb2.mono (by have := hS1.2.2.2.2.2.2.2.1.size; omega))), (hS1.2.2.2.2.2.2.2.2.below hb2 (Nat.le_refl _))⟩ (fun hS2 => ?_)
        clear hK K
        have hB3_2 : Blk v2 s 27 #[Value.slice p n d, Value.slice o0 l0 c0, Value.slice o1 l1 c1, Value.slice o2 l2 c2, Value.slice oe ne ce, Value.int .i64 bud] := (hB3_1.below hb2 hB3_1.lt)
        have k1_2 : v2.cell? ⟨s, 1, none⟩ = some (.slice o0 l0 c0) := ((hb2.cell (cell_lt k1_1)).trans k1_1)
        have k2_2 : v2.cell? ⟨s, 2, none⟩ = some (.slice o1 l1 c1) := ((hb2.cell (cell_lt k2_1)).trans k2_1)
        have k3_2 : v2.cell? ⟨s, 3, none⟩ = some (.slice o2 l2 c2) := ((hb2.cell (cell_lt k3_1)).trans k3_1)
        have hT : NumsAt v2 .u8 p n F ∧ NumsAt v2 .u8 o0 l0 F0 ∧ NumsAt v2 .u8 o1 l1 F1 ∧ NumsAt v2 .u8 o2 l2 F2 ∧ Blk v2 (s + 1) 2 #[.int .i64 t] ∧ Blk v2 r 27 #[.slice none 0 0, .slice none 0 0, .slice none 0 0, .slice none 0 0, .slice none 0 0, .int .i64 0] ∧ EdgB v2 oe ne St Ln Up s ∧ Below s w v2 ∧ NumsAt v2 .u8 p0 l0 F0 ∧ NumsAt v2 .u8 p1 l1 F1 := ⟨hS2.1, hS2.2.1, hS2.2.2.1, hS2.2.2.2.1, hS2.2.2.2.2.1, hS2.2.2.2.2.2.1, hS2.2.2.2.2.2.2.1, hS2.2.2.2.2.2.2.2.1, hS2.2.2.2.2.2.2.2.2, a1⟩
        refine wpAnyH_mono (S' := fun W => NumsAt W .u8 p n F ∧ NumsAt W .u8 o0 l0 F0 ∧ NumsAt W .u8 o1 l1 F1 ∧ NumsAt W .u8 o2 l2 F2 ∧ Blk W (s + 1) 2 #[.int .i64 t] ∧ Blk W r 27 #[.slice none 0 0, .slice none 0 0, .slice none 0 0, .slice none 0 0, .slice none 0 0, .int .i64 0] ∧ EdgB W oe ne St Ln Up s ∧ Below s w W ∧ NumsAt W .u8 p0 l0 F0 ∧ NumsAt W .u8 p1 l1 F1) (fun _ h => ⟨h.1, h.2.1, h.2.2.1, h.2.2.2.1, h.2.2.2.2.1, h.2.2.2.2.2.1, h.2.2.2.2.2.2.1, h.2.2.2.2.2.2.2.1, h.2.2.2.2.2.2.2.2.1⟩) ?_
        clear hS2
        have hS2 := hT
        clear hT
        clear hb2 hS1
        simp only [List.getElem_toArray, List.getElem_cons_zero, List.getElem_cons_succ, Act.put, List.setIfInBounds_toArray, List.set_cons_zero, List.set_cons_succ]
        refine wpAnyH_ready (rs := [11]) (by kernel_rfl) (by simp) ?_
        refine AllReadyH.cons rfl (fun K hK => ?_) AllReadyH.nil
        go_simp
        refine (slClone_calls o2 l2 c2 F2 _ hn2 hS2.2.2.2.1).mono ?_
        rintro e v3 ⟨p2, d2, rfl, a2, hb3⟩
        (try go_simp)
        refine hK.out _ _ ⟨(hS2.1.below hb3 (Nat.le_refl _)), (hS2.2.1.below hb3 (Nat.le_refl _)), (hS2.2.2.1.below hb3 (Nat.le_refl _)), (hS2.2.2.2.1.below hb3 (Nat.le_refl _)), (hS2.2.2.2.2.1.below hb3 hS2.2.2.2.2.1.lt), (hS2.2.2.2.2.2.1.below hb3 hS2.2.2.2.2.2.1.lt), (by first | exact hS2.2.2.2.2.2.2.1.low hb3 | exact hS2.2.2.2.2.2.2.1.below hb3 (Nat.le_refl _)), (by first | exact hS2.2.2.2.2.2.2.2.1.trans (hb3.mono hS2.2.2.2.2.2.2.2.1.size) | exact hS2.2.2.2.2.2.2.2.1.trans (hb3.mono (by have := hS2.2.2.2.2.2.2.2.1.size; omega))), (hS2.2.2.2.2.2.2.2.2.1.below hb3 (Nat.le_refl _)), (hS2.2.2.2.2.2.2.2.2.2.below hb3 (Nat.le_refl _))⟩ (fun hS3 => ?_)
        clear hK K
        have hB3_3 : Blk v3 s 27 #[Value.slice p n d, Value.slice o0 l0 c0, Value.slice o1 l1 c1, Value.slice o2 l2 c2, Value.slice oe ne ce, Value.int .i64 bud] := (hB3_2.below hb3 hB3_2.lt)
        have k1_3 : v3.cell? ⟨s, 1, none⟩ = some (.slice o0 l0 c0) := ((hb3.cell (cell_lt k1_2)).trans k1_2)
        have k2_3 : v3.cell? ⟨s, 2, none⟩ = some (.slice o1 l1 c1) := ((hb3.cell (cell_lt k2_2)).trans k2_2)
        have k3_3 : v3.cell? ⟨s, 3, none⟩ = some (.slice o2 l2 c2) := ((hb3.cell (cell_lt k3_2)).trans k3_2)
        have hT : NumsAt v3 .u8 p n F ∧ NumsAt v3 .u8 o0 l0 F0 ∧ NumsAt v3 .u8 o1 l1 F1 ∧ NumsAt v3 .u8 o2 l2 F2 ∧ Blk v3 (s + 1) 2 #[.int .i64 t] ∧ Blk v3 r 27 #[.slice none 0 0, .slice none 0 0, .slice none 0 0, .slice none 0 0, .slice none 0 0, .int .i64 0] ∧ EdgB v3 oe ne St Ln Up s ∧ Below s w v3 ∧ NumsAt v3 .u8 p0 l0 F0 ∧ NumsAt v3 .u8 p1 l1 F1 ∧ NumsAt v3 .u8 p2 l2 F2 := ⟨hS3.1, hS3.2.1, hS3.2.2.1, hS3.2.2.2.1, hS3.2.2.2.2.1, hS3.2.2.2.2.2.1, hS3.2.2.2.2.2.2.1, hS3.2.2.2.2.2.2.2.1, hS3.2.2.2.2.2.2.2.2.1, hS3.2.2.2.2.2.2.2.2.2, a2⟩
        refine wpAnyH_mono (S' := fun W => NumsAt W .u8 p n F ∧ NumsAt W .u8 o0 l0 F0 ∧ NumsAt W .u8 o1 l1 F1 ∧ NumsAt W .u8 o2 l2 F2 ∧ Blk W (s + 1) 2 #[.int .i64 t] ∧ Blk W r 27 #[.slice none 0 0, .slice none 0 0, .slice none 0 0, .slice none 0 0, .slice none 0 0, .int .i64 0] ∧ EdgB W oe ne St Ln Up s ∧ Below s w W ∧ NumsAt W .u8 p0 l0 F0 ∧ NumsAt W .u8 p1 l1 F1 ∧ NumsAt W .u8 p2 l2 F2) (fun _ h => ⟨h.1, h.2.1, h.2.2.1, h.2.2.2.1, h.2.2.2.2.1, h.2.2.2.2.2.1, h.2.2.2.2.2.2.1, h.2.2.2.2.2.2.2.1, h.2.2.2.2.2.2.2.2.1, h.2.2.2.2.2.2.2.2.2.1⟩) ?_
        clear hS3
        have hS3 := hT
        clear hT
        clear hb3 hS2
        simp only [List.getElem_toArray, List.getElem_cons_zero, List.getElem_cons_succ, Act.put, List.setIfInBounds_toArray, List.set_cons_zero, List.set_cons_succ]
        refine wpAnyH_take (i := 12) (v := ?_) rfl (by kernel_rfl) (by kernel_rfl) (by kernel_rfl) (fun _ _ _ h => h) (Or.inl ⟨by rfl, ?_⟩) hS3 ?_
        rotate_left
        · (intro w hSw; (try dsimp only at hSw); go_simp; try with_reducible rfl)
        simp only [List.getElem_toArray, List.getElem_cons_zero, List.getElem_cons_succ, Act.put, List.setIfInBounds_toArray, List.set_cons_zero, List.set_cons_succ]
        refine wpAnyH_take (i := 13) (v := ?_) rfl (by kernel_rfl) (by kernel_rfl) (by kernel_rfl) (fun _ _ _ h => h) (Or.inl ⟨by rfl, ?_⟩) hS3 ?_
        rotate_left
        · (intro w hSw; (try dsimp only at hSw); go_simp; try with_reducible rfl)
        simp only [List.getElem_toArray, List.getElem_cons_zero, List.getElem_cons_succ, Act.put, List.setIfInBounds_toArray, List.set_cons_zero, List.set_cons_succ]
        refine wpAnyH_ready (rs := [14]) (by kernel_rfl) (by simp) ?_
        refine AllReadyH.cons rfl (fun K hK => ?_) AllReadyH.nil
        rw [if_pos (show Region.wanted _ _ = true from by rfl)]
        have hO := only_setCells (S := fun k => k = s) rfl (#[Value.slice p0 l0 d0, Value.slice p1 l1 d1, Value.slice p2 l2 d2] : Array Value).toList 1 v3 (Only.refl _ _)
        have hN : Blk (v3.setCells s 1 (#[Value.slice p0 l0 d0, Value.slice p1 l1 d1, Value.slice p2 l2 d2] : Array Value).toList) s 27 #[Value.slice p n d, Value.slice p0 l0 d0, Value.slice p1 l1 d1, Value.slice p2 l2 d2, Value.slice oe ne ce, Value.int .i64 bud] := Blk.set_ (Blk.set_ (Blk.set_ hB3_3 1 _) 2 _) 3 _
        refine wp_store_mid 24 _ _ rfl s 1 #[Value.slice p0 l0 d0, Value.slice p1 l1 d1, Value.slice p2 l2 d2] rfl rfl (blk_there hB3_3 (by show 1 + 3 ≤ 6; omega)) (by kernel_rfl) (by kernel_rfl) ?_
        refine hK.out _ _ ⟨nums_setCells hS3.1 hB3_3 no1.out _, nums_setCells hS3.2.1 hB3_3 no1.out _, nums_setCells hS3.2.2.1 hB3_3 no1.out _, nums_setCells hS3.2.2.2.1 hB3_3 no1.out _, hS3.2.2.2.2.1.only hO (by (first | omega | (dsimp only; omega))), hS3.2.2.2.2.2.1.only hO (by (first | omega | (dsimp only; omega))), hS3.2.2.2.2.2.2.1.only hO (fun k h => by (first | omega | (dsimp only; omega))), hS3.2.2.2.2.2.2.2.1.trans (hO.below (B := s) (by have := hS3.2.2.2.2.2.2.2.1.size; omega) (fun k e => by (first | omega | (dsimp only at e; omega)))), nums_setCells hS3.2.2.2.2.2.2.2.2.1 hB3_3 no1.out _, nums_setCells hS3.2.2.2.2.2.2.2.2.2.1 hB3_3 no1.out _, nums_setCells hS3.2.2.2.2.2.2.2.2.2.2 hB3_3 no1.out _⟩ (fun hS4 => ?_)
        clear hK K hS3
        generalize v3.setCells s 1 (#[Value.slice p0 l0 d0, Value.slice p1 l1 d1, Value.slice p2 l2 d2] : Array Value).toList = v4 at *
        simp only [List.getElem_toArray, List.getElem_cons_zero, List.getElem_cons_succ, Act.put, List.setIfInBounds_toArray, List.set_cons_zero, List.set_cons_succ]
        refine wpAnyH_done (by kernel_rfl) ?_ _
        have nn := hS4.1
        have mm0 := hS4.2.1
        have mm1 := hS4.2.2.1
        have mm2 := hS4.2.2.2.1
        have hq3 := hS4.2.2.2.2.1
        have hR3 := hS4.2.2.2.2.2.1
        have mE3 := hS4.2.2.2.2.2.2.1
        have hb3 := hS4.2.2.2.2.2.2.2.1
        have na0 := hS4.2.2.2.2.2.2.2.2.1
        have na1 := hS4.2.2.2.2.2.2.2.2.2.1
        have na2 := hS4.2.2.2.2.2.2.2.2.2.2
        clear hS4
        have hB3 := hB3_3
        have k1 := k1_3
        have k2 := k2_3
        have k3 := k3_3
        have HF : Hid (NumsAt v4 .u8 p n F ∧ NumsAt v4 .u8 p0 l0 F0 ∧ NumsAt v4 .u8 p1 l1 F1 ∧ NumsAt v4 .u8 p2 l2 F2) := ⟨nn, na0, na1, na2⟩
        clear nn na0 na1 na2 mm0 mm1 mm2 hB3 k1 k2 k3 no1 hO
        rename_i HV
        clear HV
        have k4 : v4.cell? ⟨s, 4, none⟩ = some (.slice oe ne ce) := hN.cell 4
        have hcl := edClone_calls oe ne ce St Ln Up v4 hne (mE3.mono (by have := hb3.size; omega))
        have HS : Hid (Blk v4 s 27 #[Value.slice p n d, Value.slice p0 l0 d0, Value.slice p1 l1 d1, Value.slice p2 l2 d2, Value.slice oe ne ce, Value.int .i64 bud] ∧ Blk v4 (s + 1) 2 #[.int .i64 t] ∧ Blk v4 r 27 #[.slice none 0 0, .slice none 0 0, .slice none 0 0, .slice none 0 0, .slice none 0 0, .int .i64 0] ∧ Below s w v4) := ⟨hN, hq3, hR3, hb3⟩
        clear hN hq3 hR3 mE3 hb3
        go_wp2_with fail
        refine hcl.mono ?_
        clear hcl k4
        rintro e w5 ⟨ve, rfl, hown, hb5⟩
        obtain ⟨hN, hq3, hR3, hb3⟩ := HS.out
        have hcut := edCut_calls ve ne (s + 1) v4.heap.size t St Ln Up w5 hne hown ((hq3.below hb5 hq3.lt).cell 0) hq3.lt hb5.size
        clear hown hN hq3 hR3 hb3
        go_wp2_with fail
        refine hcut.mono ?_
        clear hcut
        rintro e w6 ⟨pe, de, rfl, hsp, hE6, hb6⟩
        obtain ⟨hN, hq3, hR3, hb3⟩ := HS.out
        have hb56 := hb5.trans (hb6.mono (Nat.le_refl _))
        have hN6 := hN.below hb56 hN.lt
        have hR6 := hR3.below hb56 hR3.lt
        have hb06 := hb3.trans (hb56.mono (by have := hb3.size; omega))
        have k46 : w6.cell? ⟨s, 4, none⟩ = some (.slice oe ne ce) := hN6.cell 4
        have f46 := hN6.frozen 4
        have no2 : ∀ x, Value.int .u8 x ∉ (#[Value.slice p n d, Value.slice p0 l0 d0, Value.slice p1 l1 d1, Value.slice p2 l2 d2, Value.slice oe ne ce, Value.int .i64 bud] : Array Value).toList := by simp
        have no3 : ∀ x, Value.int .u8 x ∉ (#[Value.slice none 0 0, .slice none 0 0, .slice none 0 0, .slice none 0 0, .slice none 0 0, .int .i64 0] : Array Value).toList := by simp
        obtain ⟨nn, na0, na1, na2⟩ := HF.out
        have le := Nat.le_refl v4.heap.size
        have hO7 := Only.setCell (S := fun k => k = s) (Only.refl _ w6) ⟨s, 4, none⟩ rfl (.slice pe (kp t St ne).length de)
        have hN7 : Blk (w6.setCell ⟨s, 4, none⟩ (.slice pe (kp t St ne).length de)) s 27 #[Value.slice p n d, Value.slice p0 l0 d0, Value.slice p1 l1 d1, Value.slice p2 l2 d2, Value.slice pe (kp t St ne).length de, Value.int .i64 bud] := Blk.set_ hN6 4 _
        have hR7 := hR6.only hO7 (by (first | omega | (dsimp only; omega)))
        have hO8 := only_setRowB (w6.setCell ⟨s, 4, none⟩ (.slice pe (kp t St ne).length de)) r #[Value.slice p n d, Value.slice p0 l0 d0, Value.slice p1 l1 d1, Value.slice p2 l2 d2, Value.slice pe (kp t St ne).length de, Value.int .i64 bud]
        have FIN : Hid (NumsAt ((w6.setCell ⟨s, 4, none⟩ (.slice pe (kp t St ne).length de)).setRow r #[Value.slice p n d, Value.slice p0 l0 d0, Value.slice p1 l1 d1, Value.slice p2 l2 d2, Value.slice pe (kp t St ne).length de, Value.int .i64 bud]) .u8 p n F ∧ NumsAt ((w6.setCell ⟨s, 4, none⟩ (.slice pe (kp t St ne).length de)).setRow r #[Value.slice p n d, Value.slice p0 l0 d0, Value.slice p1 l1 d1, Value.slice p2 l2 d2, Value.slice pe (kp t St ne).length de, Value.int .i64 bud]) .u8 p0 l0 F0 ∧ NumsAt ((w6.setCell ⟨s, 4, none⟩ (.slice pe (kp t St ne).length de)).setRow r #[Value.slice p n d, Value.slice p0 l0 d0, Value.slice p1 l1 d1, Value.slice p2 l2 d2, Value.slice pe (kp t St ne).length de, Value.int .i64 bud]) .u8 p1 l1 F1 ∧ NumsAt ((w6.setCell ⟨s, 4, none⟩ (.slice pe (kp t St ne).length de)).setRow r #[Value.slice p n d, Value.slice p0 l0 d0, Value.slice p1 l1 d1, Value.slice p2 l2 d2, Value.slice pe (kp t St ne).length de, Value.int .i64 bud]) .u8 p2 l2 F2 ∧ EdgB ((w6.setCell ⟨s, 4, none⟩ (.slice pe (kp t St ne).length de)).setRow r #[Value.slice p n d, Value.slice p0 l0 d0, Value.slice p1 l1 d1, Value.slice p2 l2 d2, Value.slice pe (kp t St ne).length de, Value.int .i64 bud]) pe (kp t St ne).length (fun x => St (kpF t St ne x)) (fun x => Ln (kpF t St ne x)) (fun x => Up (kpF t St ne x)) ((w6.setCell ⟨s, 4, none⟩ (.slice pe (kp t St ne).length de)).setRow r #[Value.slice p n d, Value.slice p0 l0 d0, Value.slice p1 l1 d1, Value.slice p2 l2 d2, Value.slice pe (kp t St ne).length de, Value.int .i64 bud]).heap.size ∧ Below s w ((w6.setCell ⟨s, 4, none⟩ (.slice pe (kp t St ne).length de)).setRow r #[Value.slice p n d, Value.slice p0 l0 d0, Value.slice p1 l1 d1, Value.slice p2 l2 d2, Value.slice pe (kp t St ne).length de, Value.int .i64 bud])) :=
          ⟨nums_apart (nums_apart (nn.below hb56 le) hN6 no2 hO7) hR7 no3 hO8, nums_apart (nums_apart (na0.below hb56 le) hN6 no2 hO7) hR7 no3 hO8, nums_apart (nums_apart (na1.below hb56 le) hN6 no2 hO7) hR7 no3 hO8, nums_apart (nums_apart (na2.below hb56 le) hN6 no2 hO7) hR7 no3 hO8,
            (edg_apart (edg_apart hE6 hN6 no2 hO7) hR7 no3 hO8).mono (Nat.le_trans hO7.size hO8.size), (hb06.trans (hO7.below (B := s) (by have := hb06.size; omega) (fun k e => by (first | omega | (dsimp only at e; omega))))).trans (hO8.below (B := s) (by have := hb06.size; have := hO7.size; omega) (fun k e => by (first | omega | (dsimp only at e; omega))))⟩
        clear nn na0 na1 na2 hE6 hN hq3 hR3 hb3 hb5 hb6 hb56 hN6 hR6 hb06 hO7 hO8 no2 no3 le hsp
        go_wp2_with (first | (refine wpList_load_row rfl 27 _ rfl s rfl _ #[Value.slice p n d, Value.slice p0 l0 d0, Value.slice p1 l1 d1, Value.slice p2 l2 d2, Value.slice pe (kp t St ne).length de, Value.int .i64 bud] (0, 0) _ hN7 Tryd.underlying27 rfl (by kernel_rfl) ?_) | (refine wpList_store_row rfl 27 _ _ rfl r #[Value.slice p n d, Value.slice p0 l0 d0, Value.slice p1 l1 d1, Value.slice p2 l2 d2, Value.slice pe (kp t St ne).length de, Value.int .i64 bud] rfl rfl 27 _ hR7 (by kernel_rfl) rfl (by kernel_rfl) ?_))
        obtain ⟨y0, y1, y2, y3, y4, y5⟩ := FIN.out
        exact bodyPost_ret (results_cell_row rfl _ _ r 27 #[Value.slice p n d, Value.slice p0 l0 d0, Value.slice p1 l1 d1, Value.slice p2 l2 d2, Value.slice pe (kp t St ne).length de, Value.int .i64 bud] (0, 0) _ rfl (hR7.setRow _) Tryd.underlying27 rfl (by kernel_rfl)) rfl ⟨p, p0, p1, p2, pe, d, d0, d1, d2, de, rfl, y0, y1, y2, y3, y4, by rw [hsz]; exact y5⟩
      refine AllReadyH.cons rfl (fun K hK => ?_) ?_
      · -- load 6
        go_simp
        refine hK.out _ _ hS0 (fun _ => ?_)
        clear hK K
        simp only [List.getElem_toArray, List.getElem_cons_zero, List.getElem_cons_succ, Act.put, List.setIfInBounds_toArray, List.set_cons_zero, List.set_cons_succ]
        refine wpAnyH_ready (rs := [3]) (by kernel_rfl) (by simp) ?_
        refine AllReadyH.cons rfl (fun K hK => ?_) AllReadyH.nil
        go_simp
        refine (slClone_calls o0 l0 c0 F0 _ hn0 hS0.2.1).mono ?_
        rintro e v1 ⟨p0, d0, rfl, a0, hb1⟩
        (try go_simp)
        refine hK.out _ _ ⟨(hS0.1.below hb1 (Nat.le_refl _)), (hS0.2.1.below hb1 (Nat.le_refl _)), (hS0.2.2.1.below hb1 (Nat.le_refl _)), (hS0.2.2.2.1.below hb1 (Nat.le_refl _)), (hS0.2.2.2.2.1.below hb1 hS0.2.2.2.2.1.lt), (hS0.2.2.2.2.2.1.below hb1 hS0.2.2.2.2.2.1.lt), (by first | exact hS0.2.2.2.2.2.2.1.low hb1 | exact hS0.2.2.2.2.2.2.1.below hb1 (Nat.le_refl _)), (by first | exact hS0.2.2.2.2.2.2.2.trans (hb1.mono hS0.2.2.2.2.2.2.2.size) | exact hS0.2.2.2.2.2.2.2.trans (hb1.mono (by have := hS0.2.2.2.2.2.2.2.size; omega)))⟩ (fun hS1 => ?_)
        clear hK K
        have hB3_1 : Blk v1 s 27 #[Value.slice p n d, Value.slice o0 l0 c0, Value.slice o1 l1 c1, Value.slice o2 l2 c2, Value.slice oe ne ce, Value.int .i64 bud] := (hB3_0.below hb1 hB3_0.lt)
        have k1_1 : v1.cell? ⟨s, 1, none⟩ = some (.slice o0 l0 c0) := ((hb1.cell (cell_lt k1_0)).trans k1_0)
        have k2_1 : v1.cell? ⟨s, 2, none⟩ = some (.slice o1 l1 c1) := ((hb1.cell (cell_lt k2_0)).trans k2_0)
        have k3_1 : v1.cell? ⟨s, 3, none⟩ = some (.slice o2 l2 c2) := ((hb1.cell (cell_lt k3_0)).trans k3_0)
        have hT : NumsAt v1 .u8 p n F ∧ NumsAt v1 .u8 o0 l0 F0 ∧ NumsAt v1 .u8 o1 l1 F1 ∧ NumsAt v1 .u8 o2 l2 F2 ∧ Blk v1 (s + 1) 2 #[.int .i64 t] ∧ Blk v1 r 27 #[.slice none 0 0, .slice none 0 0, .slice none 0 0, .slice none 0 0, .slice none 0 0, .int .i64 0] ∧ EdgB v1 oe ne St Ln Up s ∧ Below s w v1 ∧ NumsAt v1 .u8 p0 l0 F0 := ⟨hS1.1, hS1.2.1, hS1.2.2.1, hS1.2.2.2.1, hS1.2.2.2.2.1, hS1.2.2.2.2.2.1, hS1.2.2.2.2.2.2.1, hS1.2.2.2.2.2.2.2, a0⟩
        refine wpAnyH_mono (S' := fun W => NumsAt W .u8 p n F ∧ NumsAt W .u8 o0 l0 F0 ∧ NumsAt W .u8 o1 l1 F1 ∧ NumsAt W .u8 o2 l2 F2 ∧ Blk W (s + 1) 2 #[.int .i64 t] ∧ Blk W r 27 #[.slice none 0 0, .slice none 0 0, .slice none 0 0, .slice none 0 0, .slice none 0 0, .int .i64 0] ∧ EdgB W oe ne St Ln Up s ∧ Below s w W ∧ NumsAt W .u8 p0 l0 F0) (fun _ h => ⟨h.1, h.2.1, h.2.2.1, h.2.2.2.1, h.2.2.2.2.1, h.2.2.2.2.2.1, h.2.2.2.2.2.2.1, h.2.2.2.2.2.2.2.1⟩) ?_
        clear hS1
        have hS1 := hT
        clear hT
        clear hb1 hS0
        simp only [List.getElem_toArray, List.getElem_cons_zero, List.getElem_cons_succ, Act.put, List.setIfInBounds_toArray, List.set_cons_zero, List.set_cons_succ]
        refine wpAnyH_ready (rs := [7]) (by kernel_rfl) (by simp) ?_
        refine AllReadyH.cons rfl (fun K hK => ?_) AllReadyH.nil
        go_simp
        refine (slClone_calls o1 l1 c1 F1 _ hn1 hS1.2.2.1).mono ?_
        rintro e v2 ⟨p1, d1, rfl, a1, hb2⟩
        (try go_simp)
        refine hK.out _ _ ⟨(hS1.1.below hb2 (Nat.le_refl _)), (hS1.2.1.below hb2 (Nat.le_refl _)), (hS1.2.2.1.below hb2 (Nat.le_refl _)), (hS1.2.2.2.1.below hb2 (Nat.le_refl _)), (hS1.2.2.2.2.1.below hb2 hS1.2.2.2.2.1.lt), (hS1.2.2.2.2.2.1.below hb2 hS1.2.2.2.2.2.1.lt), (by first | exact hS1.2.2.2.2.2.2.1.low hb2 | exact hS1.2.2.2.2.2.2.1.below hb2 (Nat.le_refl _)), (by first | exact hS1.2.2.2.2.2.2.2.1.trans (hb2.mono hS1.2.2.2.2.2.2.2.1.size) | exact hS1.2.2.2.2.2.2.2.1.trans (hb2.mono (by have := hS1.2.2.2.2.2.2.2.1.size; omega))), (hS1.2.2.2.2.2.2.2.2.below hb2 (Nat.le_refl _))⟩ (fun hS2 => ?_)
        clear hK K
        have hB3_2 : Blk v2 s 27 #[Value.slice p n d, Value.slice o0 l0 c0, Value.slice o1 l1 c1, Value.slice o2 l2 c2, Value.slice oe ne ce, Value.int .i64 bud] := (hB3_1.below hb2 hB3_1.lt)
        have k1_2 : v2.cell? ⟨s, 1, none⟩ = some (.slice o0 l0 c0) := ((hb2.cell (cell_lt k1_1)).trans k1_1)
        have k2_2 : v2.cell? ⟨s, 2, none⟩ = some (.slice o1 l1 c1) := ((hb2.cell (cell_lt k2_1)).trans k2_1)
        have k3_2 : v2.cell? ⟨s, 3, none⟩ = some (.slice o2 l2 c2) := ((hb2.cell (cell_lt k3_1)).trans k3_1)
        have hT : NumsAt v2 .u8 p n F ∧ NumsAt v2 .u8 o0 l0 F0 ∧ NumsAt v2 .u8 o1 l1 F1 ∧ NumsAt v2 .u8 o2 l2 F2 ∧ Blk v2 (s + 1) 2 #[.int .i64 t] ∧ Blk v2 r 27 #[.slice none 0 0, .slice none 0 0, .slice none 0 0, .slice none 0 0, .slice none 0 0, .int .i64 0] ∧ EdgB v2 oe ne St Ln Up s ∧ Below s w v2 ∧ NumsAt v2 .u8 p0 l0 F0 ∧ NumsAt v2 .u8 p1 l1 F1 := ⟨hS2.1, hS2.2.1, hS2.2.2.1, hS2.2.2.2.1, hS2.2.2.2.2.1, hS2.2.2.2.2.2.1, hS2.2.2.2.2.2.2.1, hS2.2.2.2.2.2.2.2.1, hS2.2.2.2.2.2.2.2.2, a1⟩
        refine wpAnyH_mono (S' := fun W => NumsAt W .u8 p n F ∧ NumsAt W .u8 o0 l0 F0 ∧ NumsAt W .u8 o1 l1 F1 ∧ NumsAt W .u8 o2 l2 F2 ∧ Blk W (s + 1) 2 #[.int .i64 t] ∧ Blk W r 27 #[.slice none 0 0, .slice none 0 0, .slice none 0 0, .slice none 0 0, .slice none 0 0, .int .i64 0] ∧ EdgB W oe ne St Ln Up s ∧ Below s w W ∧ NumsAt W .u8 p0 l0 F0 ∧ NumsAt W .u8 p1 l1 F1) (fun _ h => ⟨h.1, h.2.1, h.2.2.1, h.2.2.2.1, h.2.2.2.2.1, h.2.2.2.2.2.1, h.2.2.2.2.2.2.1, h.2.2.2.2.2.2.2.1, h.2.2.2.2.2.2.2.2.1⟩) ?_
        clear hS2
        have hS2 := hT
        clear hT
        clear hb2 hS1
        simp only [List.getElem_toArray, List.getElem_cons_zero, List.getElem_cons_succ, Act.put, List.setIfInBounds_toArray, List.set_cons_zero, List.set_cons_succ]
        refine wpAnyH_ready (rs := [11]) (by kernel_rfl) (by simp) ?_
        refine AllReadyH.cons rfl (fun K hK => ?_) AllReadyH.nil
        go_simp
        refine (slClone_calls o2 l2 c2 F2 _ hn2 hS2.2.2.2.1).mono ?_
        rintro e v3 ⟨p2, d2, rfl, a2, hb3⟩
        (try go_simp)
        refine hK.out _ _ ⟨(hS2.1.below hb3 (Nat.le_refl _)), (hS2.2.1.below hb3 (Nat.le_refl _)), (hS2.2.2.1.below hb3 (Nat.le_refl _)), (hS2.2.2.2.1.below hb3 (Nat.le_refl _)), (hS2.2.2.2.2.1.below hb3 hS2.2.2.2.2.1.lt), (hS2.2.2.2.2.2.1.below hb3 hS2.2.2.2.2.2.1.lt), (by first | exact hS2.2.2.2.2.2.2.1.low hb3 | exact hS2.2.2.2.2.2.2.1.below hb3 (Nat.le_refl _)), (by first | exact hS2.2.2.2.2.2.2.2.1.trans (hb3.mono hS2.2.2.2.2.2.2.2.1.size) | exact hS2.2.2.2.2.2.2.2.1.trans (hb3.mono (by have := hS2.2.2.2.2.2.2.2.1.size; omega))), (hS2.2.2.2.2.2.2.2.2.1.below hb3 (Nat.le_refl _)), (hS2.2.2.2.2.2.2.2.2.2.below hb3 (Nat.le_refl _))⟩ (fun hS3 => ?_)
        clear hK K
        have hB3_3 : Blk v3 s 27 #[Value.slice p n d, Value.slice o0 l0 c0, Value.slice o1 l1 c1, Value.slice o2 l2 c2, Value.slice oe ne ce, Value.int .i64 bud] := (hB3_2.below hb3 hB3_2.lt)
        have k1_3 : v3.cell? ⟨s, 1, none⟩ = some (.slice o0 l0 c0) := ((hb3.cell (cell_lt k1_2)).trans k1_2)
        have k2_3 : v3.cell? ⟨s, 2, none⟩ = some (.slice o1 l1 c1) := ((hb3.cell (cell_lt k2_2)).trans k2_2)
        have k3_3 : v3.cell? ⟨s, 3, none⟩ = some (.slice o2 l2 c2) := ((hb3.cell (cell_lt k3_2)).trans k3_2)
        have hT : NumsAt v3 .u8 p n F ∧ NumsAt v3 .u8 o0 l0 F0 ∧ NumsAt v3 .u8 o1 l1 F1 ∧ NumsAt v3 .u8 o2 l2 F2 ∧ Blk v3 (s + 1) 2 #[.int .i64 t] ∧ Blk v3 r 27 #[.slice none 0 0, .slice none 0 0, .slice none 0 0, .slice none 0 0, .slice none 0 0, .int .i64 0] ∧ EdgB v3 oe ne St Ln Up s ∧ Below s w v3 ∧ NumsAt v3 .u8 p0 l0 F0 ∧ NumsAt v3 .u8 p1 l1 F1 ∧ NumsAt v3 .u8 p2 l2 F2 := ⟨hS3.1, hS3.2.1, hS3.2.2.1, hS3.2.2.2.1, hS3.2.2.2.2.1, hS3.2.2.2.2.2.1, hS3.2.2.2.2.2.2.1, hS3.2.2.2.2.2.2.2.1, hS3.2.2.2.2.2.2.2.2.1, hS3.2.2.2.2.2.2.2.2.2, a2⟩
        refine wpAnyH_mono (S' := fun W => NumsAt W .u8 p n F ∧ NumsAt W .u8 o0 l0 F0 ∧ NumsAt W .u8 o1 l1 F1 ∧ NumsAt W .u8 o2 l2 F2 ∧ Blk W (s + 1) 2 #[.int .i64 t] ∧ Blk W r 27 #[.slice none 0 0, .slice none 0 0, .slice none 0 0, .slice none 0 0, .slice none 0 0, .int .i64 0] ∧ EdgB W oe ne St Ln Up s ∧ Below s w W ∧ NumsAt W .u8 p0 l0 F0 ∧ NumsAt W .u8 p1 l1 F1 ∧ NumsAt W .u8 p2 l2 F2) (fun _ h => ⟨h.1, h.2.1, h.2.2.1, h.2.2.2.1, h.2.2.2.2.1, h.2.2.2.2.2.1, h.2.2.2.2.2.2.1, h.2.2.2.2.2.2.2.1, h.2.2.2.2.2.2.2.2.1, h.2.2.2.2.2.2.2.2.2.1⟩) ?_
        clear hS3
        have hS3 := hT
        clear hT
        clear hb3 hS2
        simp only [List.getElem_toArray, List.getElem_cons_zero, List.getElem_cons_succ, Act.put, List.setIfInBounds_toArray, List.set_cons_zero, List.set_cons_succ]
        refine wpAnyH_take (i := 12) (v := ?_) rfl (by kernel_rfl) (by kernel_rfl) (by kernel_rfl) (fun _ _ _ h => h) (Or.inl ⟨by rfl, ?_⟩) hS3 ?_
        rotate_left
        · (intro w hSw; (try dsimp only at hSw); go_simp; try with_reducible rfl)
        simp only [List.getElem_toArray, List.getElem_cons_zero, List.getElem_cons_succ, Act.put, List.setIfInBounds_toArray, List.set_cons_zero, List.set_cons_succ]
        refine wpAnyH_take (i := 13) (v := ?_) rfl (by kernel_rfl) (by kernel_rfl) (by kernel_rfl) (fun _ _ _ h => h) (Or.inl ⟨by rfl, ?_⟩) hS3 ?_
        rotate_left
        · (intro w hSw; (try dsimp only at hSw); go_simp; try with_reducible rfl)
        simp only [List.getElem_toArray, List.getElem_cons_zero, List.getElem_cons_succ, Act.put, List.setIfInBounds_toArray, List.set_cons_zero, List.set_cons_succ]
        refine wpAnyH_ready (rs := [14]) (by kernel_rfl) (by simp) ?_
        refine AllReadyH.cons rfl (fun K hK => ?_) AllReadyH.nil
        rw [if_pos (show Region.wanted _ _ = true from by rfl)]
        have hO := only_setCells (S := fun k => k = s) rfl (#[Value.slice p0 l0 d0, Value.slice p1 l1 d1, Value.slice p2 l2 d2] : Array Value).toList 1 v3 (Only.refl _ _)
        have hN : Blk (v3.setCells s 1 (#[Value.slice p0 l0 d0, Value.slice p1 l1 d1, Value.slice p2 l2 d2] : Array Value).toList) s 27 #[Value.slice p n d, Value.slice p0 l0 d0, Value.slice p1 l1 d1, Value.slice p2 l2 d2, Value.slice oe ne ce, Value.int .i64 bud] := Blk.set_ (Blk.set_ (Blk.set_ hB3_3 1 _) 2 _) 3 _
        refine wp_store_mid 24 _ _ rfl s 1 #[Value.slice p0 l0 d0, Value.slice p1 l1 d1, Value.slice p2 l2 d2] rfl rfl (blk_there hB3_3 (by show 1 + 3 ≤ 6; omega)) (by kernel_rfl) (by kernel_rfl) ?_
        refine hK.out _ _ ⟨nums_setCells hS3.1 hB3_3 no1.out _, nums_setCells hS3.2.1 hB3_3 no1.out _, nums_setCells hS3.2.2.1 hB3_3 no1.out _, nums_setCells hS3.2.2.2.1 hB3_3 no1.out _, hS3.2.2.2.2.1.only hO (by (first | omega | (dsimp only; omega))), hS3.2.2.2.2.2.1.only hO (by (first | omega | (dsimp only; omega))), hS3.2.2.2.2.2.2.1.only hO (fun k h => by (first | omega | (dsimp only; omega))), hS3.2.2.2.2.2.2.2.1.trans (hO.below (B := s) (by have := hS3.2.2.2.2.2.2.2.1.size; omega) (fun k e => by (first | omega | (dsimp only at e; omega)))), nums_setCells hS3.2.2.2.2.2.2.2.2.1 hB3_3 no1.out _, nums_setCells hS3.2.2.2.2.2.2.2.2.2.1 hB3_3 no1.out _, nums_setCells hS3.2.2.2.2.2.2.2.2.2.2 hB3_3 no1.out _⟩ (fun hS4 => ?_)
        clear hK K hS3
        generalize v3.setCells s 1 (#[Value.slice p0 l0 d0, Value.slice p1 l1 d1, Value.slice p2 l2 d2] : Array Value).toList = v4 at *
        simp only [List.getElem_toArray, List.getElem_cons_zero, List.getElem_cons_succ, Act.put, List.setIfInBounds_toArray, List.set_cons_zero, List.set_cons_succ]
        refine wpAnyH_done (by kernel_rfl) ?_ _
        have nn := hS4.1
        have mm0 := hS4.2.1
        have mm1 := hS4.2.2.1
        have mm2 := hS4.2.2.2.1
        have hq3 := hS4.2.2.2.2.1
        have hR3 := hS4.2.2.2.2.2.1
        have mE3 := hS4.2.2.2.2.2.2.1
        have hb3 := hS4.2.2.2.2.2.2.2.1
        have na0 := hS4.2.2.2.2.2.2.2.2.1
        have na1 := hS4.2.2.2.2.2.2.2.2.2.1
        have na2 := hS4.2.2.2.2.2.2.2.2.2.2
        clear hS4
        have hB3 := hB3_3
        have k1 := k1_3
        have k2 := k2_3
        have k3 := k3_3
        have HF : Hid (NumsAt v4 .u8 p n F ∧ NumsAt v4 .u8 p0 l0 F0 ∧ NumsAt v4 .u8 p1 l1 F1 ∧ NumsAt v4 .u8 p2 l2 F2) := ⟨nn, na0, na1, na2⟩
        clear nn na0 na1 na2 mm0 mm1 mm2 hB3 k1 k2 k3 no1 hO
        rename_i HV
        clear HV
        have k4 : v4.cell? ⟨s, 4, none⟩ = some (.slice oe ne ce) := hN.cell 4
        have hcl := edClone_calls oe ne ce St Ln Up v4 hne (mE3.mono (by have := hb3.size; omega))
        have HS : Hid (Blk v4 s 27 #[Value.slice p n d, Value.slice p0 l0 d0, Value.slice p1 l1 d1, Value.slice p2 l2 d2, Value.slice oe ne ce, Value.int .i64 bud] ∧ Blk v4 (s + 1) 2 #[.int .i64 t] ∧ Blk v4 r 27 #[.slice none 0 0, .slice none 0 0, .slice none 0 0, .slice none 0 0, .slice none 0 0, .int .i64 0] ∧ Below s w v4) := ⟨hN, hq3, hR3, hb3⟩
        clear hN hq3 hR3 mE3 hb3
        go_wp2_with fail
        refine hcl.mono ?_
        clear hcl k4
        rintro e w5 ⟨ve, rfl, hown, hb5⟩
        obtain ⟨hN, hq3, hR3, hb3⟩ := HS.out
        have hcut := edCut_calls ve ne (s + 1) v4.heap.size t St Ln Up w5 hne hown ((hq3.below hb5 hq3.lt).cell 0) hq3.lt hb5.size
        clear hown hN hq3 hR3 hb3
        go_wp2_with fail
        refine hcut.mono ?_
        clear hcut
        rintro e w6 ⟨pe, de, rfl, hsp, hE6, hb6⟩
        obtain ⟨hN, hq3, hR3, hb3⟩ := HS.out
        have hb56 := hb5.trans (hb6.mono (Nat.le_refl _))
        have hN6 := hN.below hb56 hN.lt
        have hR6 := hR3.below hb56 hR3.lt
        have hb06 := hb3.trans (hb56.mono (by have := hb3.size; omega))
        have k46 : w6.cell? ⟨s, 4, none⟩ = some (.slice oe ne ce) := hN6.cell 4
        have f46 := hN6.frozen 4
        have no2 : ∀ x, Value.int .u8 x ∉ (#[Value.slice p n d, Value.slice p0 l0 d0, Value.slice p1 l1 d1, Value.slice p2 l2 d2, Value.slice oe ne ce, Value.int .i64 bud] : Array Value).toList := by simp
        have no3 : ∀ x, Value.int .u8 x ∉ (#[Value.slice none 0 0, .slice none 0 0, .slice none 0 0, .slice none 0 0, .slice none 0 0, .int .i64 0] : Array Value).toList := by simp
        obtain ⟨nn, na0, na1, na2⟩ := HF.out
        have le := Nat.le_refl v4.heap.size
        have hO7 := Only.setCell (S := fun k => k = s) (Only.refl _ w6) ⟨s, 4, none⟩ rfl (.slice pe (kp t St ne).length de)
        have hN7 : Blk (w6.setCell ⟨s, 4, none⟩ (.slice pe (kp t St ne).length de)) s 27 #[Value.slice p n d, Value.slice p0 l0 d0, Value.slice p1 l1 d1, Value.slice p2 l2 d2, Value.slice pe (kp t St ne).length de, Value.int .i64 bud] := Blk.set_ hN6 4 _
        have hR7 := hR6.only hO7 (by (first | omega | (dsimp only; omega)))
        have hO8 := only_setRowB (w6.setCell ⟨s, 4, none⟩ (.slice pe (kp t St ne).length de)) r #[Value.slice p n d, Value.slice p0 l0 d0, Value.slice p1 l1 d1, Value.slice p2 l2 d2, Value.slice pe (kp t St ne).length de, Value.int .i64 bud]
        have FIN : Hid (NumsAt ((w6.setCell ⟨s, 4, none⟩ (.slice pe (kp t St ne).length de)).setRow r #[Value.slice p n d, Value.slice p0 l0 d0, Value.slice p1 l1 d1, Value.slice p2 l2 d2, Value.slice pe (kp t St ne).length de, Value.int .i64 bud]) .u8 p n F ∧ NumsAt ((w6.setCell ⟨s, 4, none⟩ (.slice pe (kp t St ne).length de)).setRow r #[Value.slice p n d, Value.slice p0 l0 d0, Value.slice p1 l1 d1, Value.slice p2 l2 d2, Value.slice pe (kp t St ne).length de, Value.int .i64 bud]) .u8 p0 l0 F0 ∧ NumsAt ((w6.setCell ⟨s, 4, none⟩ (.slice pe (kp t St ne).length de)).setRow r #[Value.slice p n d, Value.slice p0 l0 d0, Value.slice p1 l1 d1, Value.slice p2 l2 d2, Value.slice pe (kp t St ne).length de, Value.int .i64 bud]) .u8 p1 l1 F1 ∧ NumsAt ((w6.setCell ⟨s, 4, none⟩ (.slice pe (kp t St ne).length de)).setRow r #[Value.slice p n d, Value.slice p0 l0 d0, Value.slice p1 l1 d1, Value.slice p2 l2 d2, Value.slice pe (kp t St ne).length de, Value.int .i64 bud]) .u8 p2 l2 F2 ∧ EdgB ((w6.setCell ⟨s, 4, none⟩ (.slice pe (kp t St ne).length de)).setRow r #[Value.slice p n d, Value.slice p0 l0 d0, Value.slice p1 l1 d1, Value.slice p2 l2 d2, Value.slice pe (kp t St ne).length de, Value.int .i64 bud]) pe (kp t St ne).length (fun x => St (kpF t St ne x)) (fun x => Ln (kpF t St ne x)) (fun x => Up (kpF t St ne x)) ((w6.setCell ⟨s, 4, none⟩ (.slice pe (kp t St ne).length de)).setRow r #[Value.slice p n d, Value.slice p0 l0 d0, Value.slice p1 l1 d1, Value.slice p2 l2 d2, Value.slice pe (kp t St ne).length de, Value.int .i64 bud]).heap.size ∧ Below s w ((w6.setCell ⟨s, 4, none⟩ (.slice pe (kp t St ne).length de)).setRow r #[Value.slice p n d, Value.slice p0 l0 d0, Value.slice p1 l1 d1, Value.slice p2 l2 d2, Value.slice pe (kp t St ne).length de, Value.int .i64 bud])) :=
          ⟨nums_apart (nums_apart (nn.below hb56 le) hN6 no2 hO7) hR7 no3 hO8, nums_apart (nums_apart (na0.below hb56 le) hN6 no2 hO7) hR7 no3 hO8, nums_apart (nums_apart (na1.below hb56 le) hN6 no2 hO7) hR7 no3 hO8, nums_apart (nums_apart (na2.below hb56 le) hN6 no2 hO7) hR7 no3 hO8,
            (edg_apart (edg_apart hE6 hN6 no2 hO7) hR7 no3 hO8).mono (Nat.le_trans hO7.size hO8.size), (hb06.trans (hO7.below (B := s) (by have := hb06.size; omega) (fun k e => by (first | omega | (dsimp only at e; omega))))).trans (hO8.below (B := s) (by have := hb06.size; have := hO7.size; omega) (fun k e => by (first | omega | (dsimp only at e; omega))))⟩
        clear nn na0 na1 na2 hE6 hN hq3 hR3 hb3 hb5 hb6 hb56 hN6 hR6 hb06 hO7 hO8 no2 no3 le hsp
        go_wp2_with (first | (refine wpList_load_row rfl 27 _ rfl s rfl _ #[Value.slice p n d, Value.slice p0 l0 d0, Value.slice p1 l1 d1, Value.slice p2 l2 d2, Value.slice pe (kp t St ne).length de, Value.int .i64 bud] (0, 0) _ hN7 Tryd.underlying27 rfl (by kernel_rfl) ?_) | (refine wpList_store_row rfl 27 _ _ rfl r #[Value.slice p n d, Value.slice p0 l0 d0, Value.slice p1 l1 d1, Value.slice p2 l2 d2, Value.slice pe (kp t St ne).length de, Value.int .i64 bud] rfl rfl 27 _ hR7 (by kernel_rfl) rfl (by kernel_rfl) ?_))
        obtain ⟨y0, y1, y2, y3, y4, y5⟩ := FIN.out
        exact bodyPost_ret (results_cell_row rfl _ _ r 27 #[Value.slice p n d, Value.slice p0 l0 d0, Value.slice p1 l1 d1, Value.slice p2 l2 d2, Value.slice pe (kp t St ne).length de, Value.int .i64 bud] (0, 0) _ rfl (hR7.setRow _) Tryd.underlying27 rfl (by kernel_rfl)) rfl ⟨p, p0, p1, p2, pe, d, d0, d1, d2, de, rfl, y0, y1, y2, y3, y4, by rw [hsz]; exact y5⟩
      exact AllReadyH.nil
    refine AllReadyH.cons rfl (fun K hK => ?_) ?_
    · -- load 6
      go_simp
      refine hK.out _ _ hS0 (fun _ => ?_)
      clear hK K
      simp only [List.getElem_toArray, List.getElem_cons_zero, List.getElem_cons_succ, Act.put, List.setIfInBounds_toArray, List.set_cons_zero, List.set_cons_succ]
      refine wpAnyH_ready (rs := [2]) (by kernel_rfl) (by simp) ?_
      refine AllReadyH.cons rfl (fun K hK => ?_) AllReadyH.nil
      go_simp
      refine hK.out _ _ hS0 (fun _ => ?_)
      clear hK K
      simp only [List.getElem_toArray, List.getElem_cons_zero, List.getElem_cons_succ, Act.put, List.setIfInBounds_toArray, List.set_cons_zero, List.set_cons_succ]
      refine wpAnyH_ready (rs := [3]) (by kernel_rfl) (by simp) ?_
      refine AllReadyH.cons rfl (fun K hK => ?_) AllReadyH.nil
      go_simp
      refine (slClone_calls o0 l0 c0 F0 _ hn0 hS0.2.1).mono ?_
      rintro e v1 ⟨p0, d0, rfl, a0, hb1⟩
      (try go_simp)
      refine hK.out _ _ ⟨(hS0.1.below hb1 (Nat.le_refl _)), (hS0.2.1.below hb1 (Nat.le_refl _)), (hS0.2.2.1.below hb1 (Nat.le_refl _)), (hS0.2.2.2.1.below hb1 (Nat.le_refl _)), (hS0.2.2.2.2.1.below hb1 hS0.2.2.2.2.1.lt), (hS0.2.2.2.2.2.1.below hb1 hS0.2.2.2.2.2.1.lt), (by first | exact hS0.2.2.2.2.2.2.1.low hb1 | exact hS0.2.2.2.2.2.2.1.below hb1 (Nat.le_refl _)), (by first | exact hS0.2.2.2.2.2.2.2.trans (hb1.mono hS0.2.2.2.2.2.2.2.size) | exact hS0.2.2.2.2.2.2.2.trans (hb1.mono (by have := hS0.2.2.2.2.2.2.2.size; omega)))⟩ (fun hS1 => ?_)
      clear hK K
      have hB3_1 : Blk v1 s 27 #[Value.slice p n d, Value.slice o0 l0 c0, Value.slice o1 l1 c1, Value.slice o2 l2 c2, Value.slice oe ne ce, Value.int .i64 bud] := (hB3_0.below hb1 hB3_0.lt)
      have k1_1 : v1.cell? ⟨s, 1, none⟩ = some (.slice o0 l0 c0) := ((hb1.cell (cell_lt k1_0)).trans k1_0)
      have k2_1 : v1.cell? ⟨s, 2, none⟩ = some (.slice o1 l1 c1) := ((hb1.cell (cell_lt k2_0)).trans k2_0)
      have k3_1 : v1.cell? ⟨s, 3, none⟩ = some (.slice o2 l2 c2) := ((hb1.cell (cell_lt k3_0)).trans k3_0)
      have hT : NumsAt v1 .u8 p n F ∧ NumsAt v1 .u8 o0 l0 F0 ∧ NumsAt v1 .u8 o1 l1 F1 ∧ NumsAt v1 .u8 o2 l2 F2 ∧ Blk v1 (s + 1) 2 #[.int .i64 t] ∧ Blk v1 r 27 #[.slice none 0 0, .slice none 0 0, .slice none 0 0, .slice none 0 0, .slice none 0 0, .int .i64 0] ∧ EdgB v1 oe ne St Ln Up s ∧ Below s w v1 ∧ NumsAt v1 .u8 p0 l0 F0 := ⟨hS1.1, hS1.2.1, hS1.2.2.1, hS1.2.2.2.1, hS1.2.2.2.2.1, hS1.2.2.2.2.2.1, hS1.2.2.2.2.2.2.1, hS1.2.2.2.2.2.2.2, a0⟩
      refine wpAnyH_mono (S' := fun W => NumsAt W .u8 p n F ∧ NumsAt W .u8 o0 l0 F0 ∧ NumsAt W .u8 o1 l1 F1 ∧ NumsAt W .u8 o2 l2 F2 ∧ Blk W (s + 1) 2 #[.int .i64 t] ∧ Blk W r 27 #[.slice none 0 0, .slice none 0 0, .slice none 0 0, .slice none 0 0, .slice none 0 0, .int .i64 0] ∧ EdgB W oe ne St Ln Up s ∧ Below s w W ∧ NumsAt W .u8 p0 l0 F0) (fun _ h => ⟨h.1, h.2.1, h.2.2.1, h.2.2.2.1, h.2.2.2.2.1, h.2.2.2.2.2.1, h.2.2.2.2.2.2.1, h.2.2.2.2.2.2.2.1⟩) ?_
      clear hS1
      have hS1 := hT
      clear hT
      clear hb1 hS0
      simp only [List.getElem_toArray, List.getElem_cons_zero, List.getElem_cons_succ, Act.put, List.setIfInBounds_toArray, List.set_cons_zero, List.set_cons_succ]
      refine wpAnyH_ready (rs := [7]) (by kernel_rfl) (by simp) ?_
      refine AllReadyH.cons rfl (fun K hK => ?_) AllReadyH.nil
      go_simp
      refine (slClone_calls o1 l1 c1 F1 _ hn1 hS1.2.2.1).mono ?_
      rintro e v2 ⟨p1, d1, rfl, a1, hb2⟩
      (try go_simp)
      refine hK.out _ _ ⟨(hS1.1.below hb2 (Nat.le_refl _)), (hS1.2.1.below hb2 (Nat.le_refl _)), (hS1.2.2.1.below hb2 (Nat.le_refl _)), (hS1.2.2.2.1.below hb2 (Nat.le_refl _)), (hS1.2.2.2.2.1.below hb2 hS1.2.2.2.2.1.lt), (hS1.2.2.2.2.2.1.below hb2 hS1.2.2.2.2.2.1.lt), (by first | exact hS1.2.2.2.2.2.2.1.low hb2 | exact hS1.2.2.2.2.2.2.1.below hb2 (Nat.le_refl _)), (by first | exact hS1.2.2.2.2.2.2.2.1.trans (hb2.mono hS1.2.2.2.2.2.2.2.1.size) | exact hS1.2.2.2.2.2.2.2.1.trans (hb2.mono (by have := hS1.2.2.2.2.2.2.2.1.size; omega))), (hS1.2.2.2.2.2.2.2.2.below hb2 (Nat.le_refl _))⟩ (fun hS2 => ?_)
      clear hK K
      have hB3_2 : Blk v2 s 27 #[Value.slice p n d, Value.slice o0 l0 c0, Value.slice o1 l1 c1, Value.slice o2 l2 c2, Value.slice oe ne ce, Value.int .i64 bud] := (hB3_1.below hb2 hB3_1.lt)
      have k1_2 : v2.cell? ⟨s, 1, none⟩ = some (.slice o0 l0 c0) := ((hb2.cell (cell_lt k1_1)).trans k1_1)
      have k2_2 : v2.cell? ⟨s, 2, none⟩ = some (.slice o1 l1 c1) := ((hb2.cell (cell_lt k2_1)).trans k2_1)
      have k3_2 : v2.cell? ⟨s, 3, none⟩ = some (.slice o2 l2 c2) := ((hb2.cell (cell_lt k3_1)).trans k3_1)
      have hT : NumsAt v2 .u8 p n F ∧ NumsAt v2 .u8 o0 l0 F0 ∧ NumsAt v2 .u8 o1 l1 F1 ∧ NumsAt v2 .u8 o2 l2 F2 ∧ Blk v2 (s + 1) 2 #[.int .i64 t] ∧ Blk v2 r 27 #[.slice none 0 0, .slice none 0 0, .slice none 0 0, .slice none 0 0, .slice none 0 0, .int .i64 0] ∧ EdgB v2 oe ne St Ln Up s ∧ Below s w v2 ∧ NumsAt v2 .u8 p0 l0 F0 ∧ NumsAt v2 .u8 p1 l1 F1 := ⟨hS2.1, hS2.2.1, hS2.2.2.1, hS2.2.2.2.1, hS2.2.2.2.2.1, hS2.2.2.2.2.2.1, hS2.2.2.2.2.2.2.1, hS2.2.2.2.2.2.2.2.1, hS2.2.2.2.2.2.2.2.2, a1⟩
      refine wpAnyH_mono (S' := fun W => NumsAt W .u8 p n F ∧ NumsAt W .u8 o0 l0 F0 ∧ NumsAt W .u8 o1 l1 F1 ∧ NumsAt W .u8 o2 l2 F2 ∧ Blk W (s + 1) 2 #[.int .i64 t] ∧ Blk W r 27 #[.slice none 0 0, .slice none 0 0, .slice none 0 0, .slice none 0 0, .slice none 0 0, .int .i64 0] ∧ EdgB W oe ne St Ln Up s ∧ Below s w W ∧ NumsAt W .u8 p0 l0 F0 ∧ NumsAt W .u8 p1 l1 F1) (fun _ h => ⟨h.1, h.2.1, h.2.2.1, h.2.2.2.1, h.2.2.2.2.1, h.2.2.2.2.2.1, h.2.2.2.2.2.2.1, h.2.2.2.2.2.2.2.1, h.2.2.2.2.2.2.2.2.1⟩) ?_
      clear hS2
      have hS2 := hT
      clear hT
      clear hb2 hS1
      simp only [List.getElem_toArray, List.getElem_cons_zero, List.getElem_cons_succ, Act.put, List.setIfInBounds_toArray, List.set_cons_zero, List.set_cons_succ]
      refine wpAnyH_ready (rs := [11]) (by kernel_rfl) (by simp) ?_
      refine AllReadyH.cons rfl (fun K hK => ?_) AllReadyH.nil
      go_simp
      refine (slClone_calls o2 l2 c2 F2 _ hn2 hS2.2.2.2.1).mono ?_
      rintro e v3 ⟨p2, d2, rfl, a2, hb3⟩
      (try go_simp)
      refine hK.out _ _ ⟨(hS2.1.below hb3 (Nat.le_refl _)), (hS2.2.1.below hb3 (Nat.le_refl _)), (hS2.2.2.1.below hb3 (Nat.le_refl _)), (hS2.2.2.2.1.below hb3 (Nat.le_refl _)), (hS2.2.2.2.2.1.below hb3 hS2.2.2.2.2.1.lt), (hS2.2.2.2.2.2.1.below hb3 hS2.2.2.2.2.2.1.lt), (by first | exact hS2.2.2.2.2.2.2.1.low hb3 | exact hS2.2.2.2.2.2.2.1.below hb3 (Nat.le_refl _)), (by first | exact hS2.2.2.2.2.2.2.2.1.trans (hb3.mono hS2.2.2.2.2.2.2.2.1.size) | exact hS2.2.2.2.2.2.2.2.1.trans (hb3.mono (by have := hS2.2.2.2.2.2.2.2.1.size; omega))), (hS2.2.2.2.2.2.2.2.2.1.below hb3 (Nat.le_refl _)), (hS2.2.2.2.2.2.2.2.2.2.below hb3 (Nat.le_refl _))⟩ (fun hS3 => ?_)
      clear hK K
      have hB3_3 : Blk v3 s 27 #[Value.slice p n d, Value.slice o0 l0 c0, Value.slice o1 l1 c1, Value.slice o2 l2 c2, Value.slice oe ne ce, Value.int .i64 bud] := (hB3_2.below hb3 hB3_2.lt)
      have k1_3 : v3.cell? ⟨s, 1, none⟩ = some (.slice o0 l0 c0) := ((hb3.cell (cell_lt k1_2)).trans k1_2)
      have k2_3 : v3.cell? ⟨s, 2, none⟩ = some (.slice o1 l1 c1) := ((hb3.cell (cell_lt k2_2)).trans k2_2)
      have k3_3 : v3.cell? ⟨s, 3, none⟩ = some (.slice o2 l2 c2) := ((hb3.cell (cell_lt k3_2)).trans k3_2)
      have hT : NumsAt v3 .u8 p n F ∧ NumsAt v3 .u8 o0 l0 F0 ∧ NumsAt v3 .u8 o1 l1 F1 ∧ NumsAt v3 .u8 o2 l2 F2 ∧ Blk v3 (s + 1) 2 #[.int .i64 t] ∧ Blk v3 r 27 #[.slice none 0 0, .slice none 0 0, .slice none 0 0, .slice none 0 0, .slice none 0 0, .int .i64 0] ∧ EdgB v3 oe ne St Ln Up s ∧ Below s w v3 ∧ NumsAt v3 .u8 p0 l0 F0 ∧ NumsAt v3 .u8 p1 l1 F1 ∧ NumsAt v3 .u8 p2 l2 F2 := ⟨hS3.1, hS3.2.1, hS3.2.2.1, hS3.2.2.2.1, hS3.2.2.2.2.1, hS3.2.2.2.2.2.1, hS3.2.2.2.2.2.2.1, hS3.2.2.2.2.2.2.2.1, hS3.2.2.2.2.2.2.2.2.1, hS3.2.2.2.2.2.2.2.2.2, a2⟩
      refine wpAnyH_mono (S' := fun W => NumsAt W .u8 p n F ∧ NumsAt W .u8 o0 l0 F0 ∧ NumsAt W .u8 o1 l1 F1 ∧ NumsAt W .u8 o2 l2 F2 ∧ Blk W (s + 1) 2 #[.int .i64 t] ∧ Blk W r 27 #[.slice none 0 0, .slice none 0 0, .slice none 0 0, .slice none 0 0, .slice none 0 0, .int .i64 0] ∧ EdgB W oe ne St Ln Up s ∧ Below s w W ∧ NumsAt W .u8 p0 l0 F0 ∧ NumsAt W .u8 p1 l1 F1 ∧ NumsAt W .u8 p2 l2 F2) (fun _ h => ⟨h.1, h.2.1, h.2.2.1, h.2.2.2.1, h.2.2.2.2.1, h.2.2.2.2.2.1, h.2.2.2.2.2.2.1, h.2.2.2.2.2.2.2.1, h.2.2.2.2.2.2.2.2.1, h.2.2.2.2.2.2.2.2.2.1⟩) ?_
      clear hS3
      have hS3 := hT
      clear hT
      clear hb3 hS2
      simp only [List.getElem_toArray, List.getElem_cons_zero, List.getElem_cons_succ, Act.put, List.setIfInBounds_toArray, List.set_cons_zero, List.set_cons_succ]
      refine wpAnyH_take (i := 12) (v := ?_) rfl (by kernel_rfl) (by kernel_rfl) (by kernel_rfl) (fun _ _ _ h => h) (Or.inl ⟨by rfl, ?_⟩) hS3 ?_
      rotate_left
      · (intro w hSw; (try dsimp only at hSw); go_simp; try with_reducible rfl)
      simp only [List.getElem_toArray, List.getElem_cons_zero, List.getElem_cons_succ, Act.put, List.setIfInBounds_toArray, List.set_cons_zero, List.set_cons_succ]
      refine wpAnyH_take (i := 13) (v := ?_) rfl (by kernel_rfl) (by kernel_rfl) (by kernel_rfl) (fun _ _ _ h => h) (Or.inl ⟨by rfl, ?_⟩) hS3 ?_
      rotate_left
      · (intro w hSw; (try dsimp only at hSw); go_simp; try with_reducible rfl)
      simp only [List.getElem_toArray, List.getElem_cons_zero, List.getElem_cons_succ, Act.put, List.setIfInBounds_toArray, List.set_cons_zero, List.set_cons_succ]
      refine wpAnyH_ready (rs := [14]) (by kernel_rfl) (by simp) ?_
      refine AllReadyH.cons rfl (fun K hK => ?_) AllReadyH.nil
      rw [if_pos (show Region.wanted _ _ = true from by rfl)]
      have hO := only_setCells (S := fun k => k = s) rfl (#[Value.slice p0 l0 d0, Value.slice p1 l1 d1, Value.slice p2 l2 d2] : Array Value).toList 1 v3 (Only.refl _ _)
      have hN : Blk (v3.setCells s 1 (#[Value.slice p0 l0 d0, Value.slice p1 l1 d1, Value.slice p2 l2 d2] : Array Value).toList) s 27 #[Value.slice p n d, Value.slice p0 l0 d0, Value.slice p1 l1 d1, Value.slice p2 l2 d2, Value.slice oe ne ce, Value.int .i64 bud] := Blk.set_ (Blk.set_ (Blk.set_ hB3_3 1 _) 2 _) 3 _
      refine wp_store_mid 24 _ _ rfl s 1 #[Value.slice p0 l0 d0, Value.slice p1 l1 d1, Value.slice p2 l2 d2] rfl rfl (blk_there hB3_3 (by show 1 + 3 ≤ 6; omega)) (by kernel_rfl) (by kernel_rfl) ?_
      refine hK.out _ _ ⟨nums_setCells hS3.1 hB3_3 no1.out _, nums_setCells hS3.2.1 hB3_3 no1.out _, nums_setCells hS3.2.2.1 hB3_3 no1.out _, nums_setCells hS3.2.2.2.1 hB3_3 no1.out _, hS3.2.2.2.2.1.only hO (by (first | omega | (dsimp only; omega))), hS3.2.2.2.2.2.1.only hO (by (first | omega | (dsimp only; omega))), hS3.2.2.2.2.2.2.1.only hO (fun k h => by (first | omega | (dsimp only; omega))), hS3.2.2.2.2.2.2.2.1.trans (hO.below (B := s) (by have := hS3.2.2.2.2.2.2.2.1.size; omega) (fun k e => by (first | omega | (dsimp only at e; omega)))), nums_setCells hS3.2.2.2.2.2.2.2.2.1 hB3_3 no1.out _, nums_setCells hS3.2.2.2.2.2.2.2.2.2.1 hB3_3 no1.out _, nums_setCells hS3.2.2.2.2.2.2.2.2.2.2 hB3_3 no1.out _⟩ (fun hS4 => ?_)
      clear hK K hS3
      generalize v3.setCells s 1 (#[Value.slice p0 l0 d0, Value.slice p1 l1 d1, Value.slice p2 l2 d2] : Array Value).toList = v4 at *
      simp only [List.getElem_toArray, List.getElem_cons_zero, List.getElem_cons_succ, Act.put, List.setIfInBounds_toArray, List.set_cons_zero, List.set_cons_succ]
      refine wpAnyH_done (by kernel_rfl) ?_ _
      have nn := hS4.1
      have mm0 := hS4.2.1
      have mm1 := hS4.2.2.1
      have mm2 := hS4.2.2.2.1
      have hq3 := hS4.2.2.2.2.1
      have hR3 := hS4.2.2.2.2.2.1
      have mE3 := hS4.2.2.2.2.2.2.1
      have hb3 := hS4.2.2.2.2.2.2.2.1
      have na0 := hS4.2.2.2.2.2.2.2.2.1
      have na1 := hS4.2.2.2.2.2.2.2.2.2.1
      have na2 := hS4.2.2.2.2.2.2.2.2.2.2
      clear hS4
      have hB3 := hB3_3
      have k1 := k1_3
      have k2 := k2_3
      have k3 := k3_3
      have HF : Hid (NumsAt v4 .u8 p n F ∧ NumsAt v4 .u8 p0 l0 F0 ∧ NumsAt v4 .u8 p1 l1 F1 ∧ NumsAt v4 .u8 p2 l2 F2) := ⟨nn, na0, na1, na2⟩
      clear nn na0 na1 na2 mm0 mm1 mm2 hB3 k1 k2 k3 no1 hO
      rename_i HV
      clear HV
      have k4 : v4.cell? ⟨s, 4, none⟩ = some (.slice oe ne ce) := hN.cell 4
      have hcl := edClone_calls oe ne ce St Ln Up v4 hne (mE3.mono (by have := hb3.size; omega))
      have HS : Hid (Blk v4 s 27 #[Value.slice p n d, Value.slice p0 l0 d0, Value.slice p1 l1 d1, Value.slice p2 l2 d2, Value.slice oe ne ce, Value.int .i64 bud] ∧ Blk v4 (s + 1) 2 #[.int .i64 t] ∧ Blk v4 r 27 #[.slice none 0 0, .slice none 0 0, .slice none 0 0, .slice none 0 0, .slice none 0 0, .int .i64 0] ∧ Below s w v4) := ⟨hN, hq3, hR3, hb3⟩
      clear hN hq3 hR3 mE3 hb3
      go_wp2_with fail
      refine hcl.mono ?_
      clear hcl k4
      rintro e w5 ⟨ve, rfl, hown, hb5⟩
      obtain ⟨hN, hq3, hR3, hb3⟩ := HS.out
      have hcut := edCut_calls ve ne (s + 1) v4.heap.size t St Ln Up w5 hne hown ((hq3.below hb5 hq3.lt).cell 0) hq3.lt hb5.size
      clear hown hN hq3 hR3 hb3
      go_wp2_with fail
      refine hcut.mono ?_
      clear hcut
      rintro e w6 ⟨pe, de, rfl, hsp, hE6, hb6⟩
      obtain ⟨hN, hq3, hR3, hb3⟩ := HS.out
      have hb56 := hb5.trans (hb6.mono (Nat.le_refl _))
      have hN6 := hN.below hb56 hN.lt
      have hR6 := hR3.below hb56 hR3.lt
      have hb06 := hb3.trans (hb56.mono (by have := hb3.size; omega))
      have k46 : w6.cell? ⟨s, 4, none⟩ = some (.slice oe ne ce) := hN6.cell 4
      have f46 := hN6.frozen 4
      have no2 : ∀ x, Value.int .u8 x ∉ (#[Value.slice p n d, Value.slice p0 l0 d0, Value.slice p1 l1 d1, Value.slice p2 l2 d2, Value.slice oe ne ce, Value.int .i64 bud] : Array Value).toList := by simp
      have no3 : ∀ x, Value.int .u8 x ∉ (#[Value.slice none 0 0, .slice none 0 0, .slice none 0 0, .slice none 0 0, .slice none 0 0, .int .i64 0] : Array Value).toList := by simp
      obtain ⟨nn, na0, na1, na2⟩ := HF.out
      have le := Nat.le_refl v4.heap.size
      have hO7 := Only.setCell (S := fun k => k = s) (Only.refl _ w6) ⟨s, 4, none⟩ rfl (.slice pe (kp t St ne).length de)
      have hN7 : Blk (w6.setCell ⟨s, 4, none⟩ (.slice pe (kp t St ne).length de)) s 27 #[Value.slice p n d, Value.slice p0 l0 d0, Value.slice p1 l1 d1, Value.slice p2 l2 d2, Value.slice pe (kp t St ne).length de, Value.int .i64 bud] := Blk.set_ hN6 4 _
      have hR7 := hR6.only hO7 (by (first | omega | (dsimp only; omega)))
      have hO8 := only_setRowB (w6.setCell ⟨s, 4, none⟩ (.slice pe (kp t St ne).length de)) r #[Value.slice p n d, Value.slice p0 l0 d0, Value.slice p1 l1 d1, Value.slice p2 l2 d2, Value.slice pe (kp t St ne).length de, Value.int .i64 bud]
      have FIN : Hid (NumsAt ((w6.setCell ⟨s, 4, none⟩ (.slice pe (kp t St ne).length de)).setRow r #[Value.slice p n d, Value.slice p0 l0 d0, Value.slice p1 l1 d1, Value.slice p2 l2 d2, Value.slice pe (kp t St ne).length de, Value.int .i64 bud]) .u8 p n F ∧ NumsAt ((w6.setCell ⟨s, 4, none⟩ (.slice pe (kp t St ne).length de)).setRow r #[Value.slice p n d, Value.slice p0 l0 d0, Value.slice p1 l1 d1, Value.slice p2 l2 d2, Value.slice pe (kp t St ne).length de, Value.int .i64 bud]) .u8 p0 l0 F0 ∧ NumsAt ((w6.setCell ⟨s, 4, none⟩ (.slice pe (kp t St ne).length de)).setRow r #[Value.slice p n d, Value.slice p0 l0 d0, Value.slice p1 l1 d1, Value.slice p2 l2 d2, Value.slice pe (kp t St ne).length de, Value.int .i64 bud]) .u8 p1 l1 F1 ∧ NumsAt ((w6.setCell ⟨s, 4, none⟩ (.slice pe (kp t St ne).length de)).setRow r #[Value.slice p n d, Value.slice p0 l0 d0, Value.slice p1 l1 d1, Value.slice p2 l2 d2, Value.slice pe (kp t St ne).length de, Value.int .i64 bud]) .u8 p2 l2 F2 ∧ EdgB ((w6.setCell ⟨s, 4, none⟩ (.slice pe (kp t St ne).length de)).setRow r #[Value.slice p n d, Value.slice p0 l0 d0, Value.slice p1 l1 d1, Value.slice p2 l2 d2, Value.slice pe (kp t St ne).length de, Value.int .i64 bud]) pe (kp t St ne).length (fun x => St (kpF t St ne x)) (fun x => Ln (kpF t St ne x)) (fun x => Up (kpF t St ne x)) ((w6.setCell ⟨s, 4, none⟩ (.slice pe (kp t St ne).length de)).setRow r #[Value.slice p n d, Value.slice p0 l0 d0, Value.slice p1 l1 d1, Value.slice p2 l2 d2, Value.slice pe (kp t St ne).length de, Value.int .i64 bud]).heap.size ∧ Below s w ((w6.setCell ⟨s, 4, none⟩ (.slice pe (kp t St ne).length de)).setRow r #[Value.slice p n d, Value.slice p0 l0 d0, Value.slice p1 l1 d1, Value.slice p2 l2 d2, Value.slice pe (kp t St ne).length de, Value.int .i64 bud])) :=
        ⟨nums_apart (nums_apart (nn.below hb56 le) hN6 no2 hO7) hR7 no3 hO8, nums_apart (nums_apart (na0.below hb56 le) hN6 no2 hO7) hR7 no3 hO8, nums_apart (nums_apart (na1.below hb56 le) hN6 no2 hO7) hR7 no3 hO8, nums_apart (nums_apart (na2.below hb56 le) hN6 no2 hO7) hR7 no3 hO8,
          (edg_apart (edg_apart hE6 hN6 no2 hO7) hR7 no3 hO8).mono (Nat.le_trans hO7.size hO8.size), (hb06.trans (hO7.below (B := s) (by have := hb06.size; omega) (fun k e => by (first | omega | (dsimp only at e; omega))))).trans (hO8.below (B := s) (by have := hb06.size; have := hO7.size; omega) (fun k e => by (first | omega | (dsimp only at e; omega))))⟩
      clear nn na0 na1 na2 hE6 hN hq3 hR3 hb3 hb5 hb6 hb56 hN6 hR6 hb06 hO7 hO8 no2 no3 le hsp
      go_wp2_with (first | (refine wpList_load_row rfl 27 _ rfl s rfl _ #[Value.slice p n d, Value.slice p0 l0 d0, Value.slice p1 l1 d1, Value.slice p2 l2 d2, Value.slice pe (kp t St ne).length de, Value.int .i64 bud] (0, 0) _ hN7 Tryd.underlying27 rfl (by kernel_rfl) ?_) | (refine wpList_store_row rfl 27 _ _ rfl r #[Value.slice p n d, Value.slice p0 l0 d0, Value.slice p1 l1 d1, Value.slice p2 l2 d2, Value.slice pe (kp t St ne).length de, Value.int .i64 bud] rfl rfl 27 _ hR7 (by kernel_rfl) rfl (by kernel_rfl) ?_))
      obtain ⟨y0, y1, y2, y3, y4, y5⟩ := FIN.out
      exact bodyPost_ret (results_cell_row rfl _ _ r 27 #[Value.slice p n d, Value.slice p0 l0 d0, Value.slice p1 l1 d1, Value.slice p2 l2 d2, Value.slice pe (kp t St ne).length de, Value.int .i64 bud] (0, 0) _ rfl (hR7.setRow _) Tryd.underlying27 rfl (by kernel_rfl)) rfl ⟨p, p0, p1, p2, pe, d, d0, d1, d2, de, rfl, y0, y1, y2, y3, y4, by rw [hsz]; exact y5⟩
    exact AllReadyH.nil
  exact AllReadyH.nil
end Go.Proofs.YtdhdknjefjolpaaDoor
end
