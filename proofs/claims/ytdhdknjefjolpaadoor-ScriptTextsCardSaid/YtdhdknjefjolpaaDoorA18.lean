/-
  The texts Sc44, Sc45 of the proofs about scripts, as one file (they are merged by a program).
-/
import Derived.Test.YtdhdknjefjolpaaDoorA17
section
/-
  script: the functions that make a row's first words.
-/
namespace Go.Proofs.YtdhdknjefjolpaaDoor
set_option linter.unusedSimpArgs false
set_option linter.unusedVariables false
set_option maxRecDepth 10000
open Go.RowKit Go.Shelf Pl
theorem own_alloc1 (W : World) (T : TypeId) (L : List Value) (h : L.length ≤ maxLen) : (W.alloc (.cells L.toArray T)).ownsRow W.heap.size T 1 (.slice (some ⟨W.heap.size, 0, none⟩) L.length L.length) L.length L :=
  ⟨by rw [Nat.mul_one], .inr ⟨W.heap.size, L.length, L.toArray, rfl, Nat.le_refl _, Blk.new W T L.toArray, Nat.le_refl _, h, by simp, by simp⟩⟩
set_option maxHeartbeats 4000000 in
theorem word_calls (x : List UInt8) (w : World) :
    Calls Tryd.prog 44 #[.string ⟨x.toArray⟩] w fun e w' => e = .returned (.func (.func 71) #[] #[.pointer (some ⟨w.heap.size, 0, none⟩)]) ∧ w'.cell? ⟨w.heap.size, 0, none⟩ = some (vS x) ∧ Below w.heap.size w w' := by
  have hc : (w.alloc (.cells #[.string ⟨x.toArray⟩] 9)).cell? ⟨w.heap.size, 0, none⟩ = some (.string ⟨x.toArray⟩) := (Blk.new w 9 #[.string ⟨x.toArray⟩]).cell 0
  have hb : Below w.heap.size w (w.alloc (.cells #[.string ⟨x.toArray⟩] 9)) := Bl.alloc (Below.refl _ _) _
  go_enter Tryd.func44, Tryd.ntmps44
  go_wp2_with fail
  go_ret
  exact ⟨rfl, hc, hb⟩
set_option maxHeartbeats 4000000 in
theorem word1_calls (x : List UInt8) (q : Nat) (t : Nat) (w : World) (hq : w.cell? ⟨q, 0, none⟩ = some (vS x)) :
    Calls Tryd.prog 71 #[.int .i64 (t : Int), .pointer (some ⟨q, 0, none⟩)] w fun e w' => ∃ g, e = .returned (.slice (some ⟨g, 0, none⟩) 1 1) ∧ w'.ownsRow w.heap.size 9 1 (.slice (some ⟨g, 0, none⟩) 1 1) 1 [vS x] ∧ Below w.heap.size w w' := by
  replace hq : w.cell? ⟨q, 0, none⟩ = some (.string ⟨x.toArray⟩) := hq
  have ho := own_alloc1 w 9 [vS x] (by unfold maxLen; simp)
  have hb : Below w.heap.size w (w.alloc (.cells #[.string ⟨x.toArray⟩] 9)) := Bl.alloc (Below.refl _ _) _
  go_enter Tryd.func71, Tryd.ntmps71
  go_wp2_with fail
  go_ret
  exact ⟨_, rfl, ho, hb⟩
set_option maxHeartbeats 4000000 in
theorem text1_calls (q a t : Nat) (w : World) (hq : w.cell? ⟨q, 0, none⟩ = some (.int .i64 (a : Int))) (ha : a + t < 4294967296) :
    Calls Tryd.prog 42 #[.int .i64 (t : Int), .pointer (some ⟨q, 0, none⟩)] w fun e w' => ∃ g, e = .returned (.slice (some ⟨g, 0, none⟩) 2 2) ∧ w'.ownsRow w.heap.size 9 1 (.slice (some ⟨g, 0, none⟩) 2 2) 2 [vS wRom, vS (hexT (a + t) 6)] ∧ Below w.heap.size w w' := by
  have hs : (a : Int) + (t : Int) = ((a + t : Nat) : Int) := by omega
  have hw1 : wrap64 ((a + t : Nat) : Int) = ((a + t : Nat) : Int) := by unfold wrap64; omega
  have hw2 : IntKind.u32.wrap ((a + t : Nat) : Int) = ((a + t : Nat) : Int) := by rw [IntKind.wrap_u32]; omega
  generalize a + t = s at *
  have hx : Calls Tryd.prog 43 #[.int .u32 (s : Int), .int .i64 6] w fun e w' => e = .returned (.string ⟨(hexT s 6).toArray⟩) ∧ Below w.heap.size w w' := octHex_calls s 6 w ha (by omega) (by omega)
  go_enter Tryd.func42, Tryd.ntmps42
  go_wp2_with fail
  refine hx.mono ?_
  clear hx
  rintro e w2 ⟨rfl, hb2⟩
  have ho := own_alloc1 w2 9 [vS wRom, vS (hexT s 6)] (by unfold maxLen; simp)
  have hb : Below w.heap.size w (w2.alloc (.cells #[.string ⟨#[114, 111, 109]⟩, .string ⟨(hexT s 6).toArray⟩] 9)) := Bl.alloc hb2 _
  have hb2s := hb2.size
  go_wp2_with fail
  go_ret
  exact ⟨_, rfl, own_base ho hb2s, hb⟩
theorem cf_word : ∀ args W, (callFunc 71 args).run Tryd.prog W = .ok (.enter 71 args) W := fun args W => by
  simp [callFunc, go_sem, Tryd.func71]
  rfl
theorem cf_text : ∀ args W, (callFunc 42 args).run Tryd.prog W = .ok (.enter 42 args) W := fun args W => by
  simp [callFunc, go_sem, Tryd.func42]
  rfl
/-- A function that makes a row's first words. -/
theorem head_word {x : List UInt8} (hx : x ≠ wRom) (q : Nat) (W : World) (a t : Nat) (hq : W.cell? ⟨q, 0, none⟩ = some (vS x)) :
    Calls Tryd.prog 71 #[.int .i64 (t : Int), .pointer (some ⟨q, 0, none⟩)] W fun e w' => ∃ g, e = .returned (.slice (some ⟨g, 0, none⟩) (hdW x (a + t)).length (hdW x (a + t)).length) ∧ w'.ownsRow W.heap.size 9 1 (.slice (some ⟨g, 0, none⟩) (hdW x (a + t)).length (hdW x (a + t)).length) (hdW x (a + t)).length ((hdW x (a + t)).map vS) ∧ Below W.heap.size W w' := by
  have e : hdW x (a + t) = [x] := if_neg hx
  rw [e]
  exact word1_calls x q t W hq
theorem head_rom (q : Nat) (W : World) (a t : Nat) (hq : W.cell? ⟨q, 0, none⟩ = some (.int .i64 (a : Int))) (ha : a + t < 4294967296) :
    Calls Tryd.prog 42 #[.int .i64 (t : Int), .pointer (some ⟨q, 0, none⟩)] W fun e w' => ∃ g, e = .returned (.slice (some ⟨g, 0, none⟩) (hdW wRom (a + t)).length (hdW wRom (a + t)).length) ∧ w'.ownsRow W.heap.size 9 1 (.slice (some ⟨g, 0, none⟩) (hdW wRom (a + t)).length (hdW wRom (a + t)).length) (hdW wRom (a + t)).length ((hdW wRom (a + t)).map vS) ∧ Below W.heap.size W w' := by
  have e : hdW wRom (a + t) = [wRom, hexT (a + t) 6] := if_pos rfl
  rw [e]
  exact text1_calls q a t W hq ha
end Go.Proofs.YtdhdknjefjolpaaDoor
end
section
/-
  script.Text: a script that may not be.
-/
namespace Go.Proofs.YtdhdknjefjolpaaDoor
set_option linter.unusedSimpArgs false
set_option linter.unusedVariables false
set_option maxRecDepth 10000
open Go.RowKit Go.Shelf Pl
set_option maxHeartbeats 8000000 in
theorem text_bad (o o0 o1 o2 oe : Option Addr) (n c l0 c0 l1 c1 l2 c2 ne ce : Nat) (bud : Int) (St : Nat → Int) (Ln : Nat → Nat) (Up : Nat → Bool) (w : World) (hn : n ≤ maxLen) (hE : EdgB w oe ne St Ln Up w.heap.size) (hbad : (chkS n l0 l1 l2 ne St Ln bud).1 ≠ 0) :
    Calls Tryd.prog 14 #[.agg #[Value.slice o n c, Value.slice o0 l0 c0, Value.slice o1 l1 c1, Value.slice o2 l2 c2, Value.slice oe ne ce, Value.int .i64 bud]] w fun e w' => e = .returned (.tuple #[.string ⟨#[]⟩, .agg (fltA (chkS n l0 l1 l2 ne St Ln bud))]) ∧ Below w.heap.size w w' := by
  have hX : Blk ((w.alloc (.cells #[Value.slice o n c, Value.slice o0 l0 c0, Value.slice o1 l1 c1, Value.slice o2 l2 c2, Value.slice oe ne ce, Value.int .i64 bud] 27)).alloc (.cells #[Value.int .i64 0, Value.int .i64 0] 34)) w.heap.size 27 #[Value.slice o n c, Value.slice o0 l0 c0, Value.slice o1 l1 c1, Value.slice o2 l2 c2, Value.slice oe ne ce, Value.int .i64 bud] := (Blk.new w 27 #[Value.slice o n c, Value.slice o0 l0 c0, Value.slice o1 l1 c1, Value.slice o2 l2 c2, Value.slice oe ne ce, Value.int .i64 bud]).alloc _
  have hF : Blk ((w.alloc (.cells #[Value.slice o n c, Value.slice o0 l0 c0, Value.slice o1 l1 c1, Value.slice o2 l2 c2, Value.slice oe ne ce, Value.int .i64 bud] 27)).alloc (.cells #[Value.int .i64 0, Value.int .i64 0] 34)) (w.heap.size + 1) 34 #[Value.int .i64 0, Value.int .i64 0] := Blk.newAt (by simp)
  have hb2 : Below w.heap.size w ((w.alloc (.cells #[Value.slice o n c, Value.slice o0 l0 c0, Value.slice o1 l1 c1, Value.slice o2 l2 c2, Value.slice oe ne ce, Value.int .i64 bud] 27)).alloc (.cells #[Value.int .i64 0, Value.int .i64 0] 34)) := Bl.alloc (Bl.alloc (Below.refl _ _) _) _
  have hck := fun W (h : EdgB W oe ne St Ln Up W.heap.size) => sCheck_calls o o0 o1 o2 oe n c l0 c0 l1 c1 l2 c2 ne ce bud St Ln Up W hn h
  have hE2 := hE.low (hb2.mono (Nat.le_refl _))
  obtain ⟨R, hR⟩ : ∃ R, chkS n l0 l1 l2 ne St Ln bud = R := ⟨_, rfl⟩
  rw [hR] at hbad hck ⊢
  have hck : ∀ W, EdgB W oe ne St Ln Up W.heap.size → Calls Tryd.prog 9 #[.agg #[Value.slice o n c, Value.slice o0 l0 c0, Value.slice o1 l1 c1, Value.slice o2 l2 c2, Value.slice oe ne ce, Value.int .i64 bud]] W fun e w' => e = .returned (.agg #[Value.int .i64 (R.1 : Int), Value.int .i64 (R.2 : Int)]) ∧ Below W.heap.size W w' := hck
  have hz : ((R.1 : Int) != 0) = true := by rw [bne_iff_ne]; omega
  have HX := hide hX
  have HF := hide hF
  have HB := hide hb2
  clear hR hbad hF hb2 hE
  go_enter Tryd.func14, Tryd.ntmps14
  go_wp2_with (first | (refine wpList_load_row rfl 27 _ rfl w.heap.size rfl _ #[Value.slice o n c, Value.slice o0 l0 c0, Value.slice o1 l1 c1, Value.slice o2 l2 c2, Value.slice oe ne ce, Value.int .i64 bud] (0, 0) _ hX Tryd.underlying27 rfl (by kernel_rfl) ?_))
  refine (hck _ (hE2.mono HB.out.size)).mono ?_
  rintro e w4 ⟨rfl, hb4⟩
  have hF4 : Blk w4 (w.heap.size + 1) 34 #[Value.int .i64 0, Value.int .i64 0] := HF.out.below hb4 HF.out.lt
  have hb04 := HB.out.trans (hb4.mono HB.out.size)
  have hF5 := hF4.alloc (.cells #[Value.int .i64 (R.1 : Int), Value.int .i64 (R.2 : Int)] 34)
  have hP5 : Blk (w4.alloc (.cells #[Value.int .i64 (R.1 : Int), Value.int .i64 (R.2 : Int)] 34)) w4.heap.size 34 #[Value.int .i64 (R.1 : Int), Value.int .i64 (R.2 : Int)] := Blk.new _ _ _
  have hb05 : Below w.heap.size w (w4.alloc (.cells #[Value.int .i64 (R.1 : Int), Value.int .i64 (R.2 : Int)] 34)) := Bl.alloc hb04 _
  have hgne := Nat.ne_of_lt hF4.lt
  clear hX hck hE2 hb4 hF4 hb04
  have hp0 := hP5.cell 0
  go_wp2_with fail
  generalize w4.alloc (.cells #[Value.int .i64 (R.1 : Int), Value.int .i64 (R.2 : Int)] 34) = w5 at *
  generalize w4.heap.size = g4 at *
  refine wp_region_held_drew (S := fun W => Blk W g4 34 #[Value.int .i64 (R.1 : Int), Value.int .i64 (R.2 : Int)] ∧ Below w.heap.size w W) (by kernel_rfl) ⟨(by first | exact hP5.drew | exact hP5 | exact Below.drew hP5), (by first | exact hb05.drew | exact hb05 | exact Below.drew hb05)⟩ (fun hS0 => ?_)
  have hF5_0 : Blk w5.drew (w.heap.size + 1) 34 #[Value.int .i64 0, Value.int .i64 0] := by first | exact hF5.drew | exact hF5
  clear hP5 hb05 hF5
  change wpAnyH _ _ _ _ _ 3 #[false, false, false] _ _
  generalize w5.drew = v0 at *
  refine wpAnyH_take (i := 0) (v := .agg #[Value.int .i64 (R.1 : Int), Value.int .i64 (R.2 : Int)]) rfl (by kernel_rfl) (by kernel_rfl) (by kernel_rfl) (fun _ _ _ h => h) (YieldsIf.row_w (by rfl) 34 _ rfl g4 rfl _ _ _ (fun _ h => h.1) Tryd.underlying34 rfl (by kernel_rfl)) hS0 ?_
  simp only [List.getElem_toArray, List.getElem_cons_zero, List.getElem_cons_succ, Act.put, List.setIfInBounds_toArray, List.set_cons_zero, List.set_cons_succ]
  refine wpAnyH_take (i := 1) (v := ?_) rfl (by kernel_rfl) (by kernel_rfl) (by kernel_rfl) (fun _ _ _ h => h) (Or.inl ⟨by rfl, ?_⟩) hS0 ?_
  rotate_left
  · (intro w hSw; (try dsimp only at hSw); go_simp; try with_reducible rfl)
  simp only [List.getElem_toArray, List.getElem_cons_zero, List.getElem_cons_succ, Act.put, List.setIfInBounds_toArray, List.set_cons_zero, List.set_cons_succ]
  refine wpAnyH_ready (rs := [2]) (by kernel_rfl) (by simp) ?_
  refine AllReadyH.cons rfl (fun K hK => ?_) AllReadyH.nil
  rw [if_pos (show Region.wanted _ _ = true from by rfl)]
  refine wp_store_row 34 _ _ rfl (w.heap.size + 1) #[Value.int .i64 (R.1 : Int), Value.int .i64 (R.2 : Int)] rfl rfl 34 _ hF5_0 (by kernel_rfl) rfl (by kernel_rfl) ?_
  refine hK.out _ _ ⟨(by first | exact below_setRow hS0.1 (by omega) _ | exact hS0.1.setRow_far (by omega) _ | exact (World.cell?_of_block (setRow_block _ _ _ _ (by first | omega | (dsimp only; omega)))).trans hS0.1 | exact hS0.1.only (only_setRow _ _ _) (fun k e => by (have e : k = _ := e); omega)), (by first | exact below_setRow hS0.2 (by omega) _ | exact hS0.2.setRow_far (by omega) _ | exact (World.cell?_of_block (setRow_block _ _ _ _ (by first | omega | (dsimp only; omega)))).trans hS0.2 | exact hS0.2.only (only_setRow _ _ _) (fun k e => by (have e : k = _ := e); omega))⟩ (fun hS1 => ?_)
  clear hK K
  have hF5_1 := hF5_0.setRow #[Value.int .i64 (R.1 : Int), Value.int .i64 (R.2 : Int)]
  clear hS0
  generalize v0.setRow (w.heap.size + 1) #[Value.int .i64 (R.1 : Int), Value.int .i64 (R.2 : Int)] = v1 at *
  simp only [List.getElem_toArray, List.getElem_cons_zero, List.getElem_cons_succ, Act.put, List.setIfInBounds_toArray, List.set_cons_zero, List.set_cons_succ]
  refine wpAnyH_done (by kernel_rfl) ?_ _
  have hP5 := hS1.1
  have hb05 := hS1.2
  clear hS1
  have hF5 := hF5_1
  go_wp2_with fail
  exact bodyPost_ret (results_tc rfl rfl hF5 Tryd.underlying34 rfl (by kernel_rfl)) rfl ⟨rfl, hb05⟩
end Go.Proofs.YtdhdknjefjolpaaDoor
end
