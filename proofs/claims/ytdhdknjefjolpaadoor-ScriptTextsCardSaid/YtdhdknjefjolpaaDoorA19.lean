/-
  The texts Sc47 of the proofs about scripts, as one file (they are merged by a program).
-/
import Derived.Test.YtdhdknjefjolpaaDoorA18
import Derived.Test.YtdhdknjefjolpaaDoorA16
import Derived.Test.YtdhdknjefjolpaaDoorA15
section
/-
  script.Text: a script that may be.
-/
namespace Go.Proofs.YtdhdknjefjolpaaDoor
set_option linter.unusedSimpArgs false
set_option linter.unusedVariables false
set_option maxRecDepth 10000
open Go.RowKit Go.Shelf Pl
theorem PL.nth {W : World} {base : Nat} {v : Value} {ps : List (Nat × Nat)} {F : Nat → Int} (h : PL W base v ps F) {i : Nat} (hi : i < ps.length) : ∃ g cap bs cp, v = .slice (some ⟨g, 0, none⟩) ps.length cap ∧ base ≤ g ∧ g < W.heap.size ∧ W.rangeAt g (i * 2) [.int .i64 (pA ps i : Int), .slice (some ⟨bs, 0, none⟩) (pN ps i) cp] ∧ base ≤ bs ∧ bs < W.heap.size ∧ pN ps i ≤ cp ∧ cp ≤ 9223372036854775807 ∧ NumsAt W .u8 (some ⟨bs, 0, none⟩) (pN ps i) (pB F ps i) := by
  obtain ⟨bs, cp, h1, h2, h3⟩ := h
  rcases h1.2 with ⟨rfl, h0⟩ | ⟨g, cap, cur, rfl, hb, hh, hnn, hcap, hsz, htake⟩
  · omega
  · have hg := own_lt h1 (g := g) rfl
    have key : ∀ j, j < ps.length * 2 → W.cell? ⟨g, j, none⟩ = some (pieV ps bs cp j) := fun j hj => by
      rw [cell_of_row W g j cur 88 (0, 0) hh]
      have h1 : (cur.toList.take (ps.length * 2))[j]? = (lstP ps bs cp)[j]? := by rw [htake]
      rw [List.getElem?_take_of_lt hj, lstP_get, if_pos hj] at h1
      rw [← Array.getElem?_toList]
      exact h1
    have hr := h2 i hi
    have hbl := own_lt hr (g := bs i) rfl
    have hbk := (own_blk hr (g := bs i) rfl).1
    have hcp : pN ps i ≤ cp i ∧ cp i ≤ 9223372036854775807 := by
      rcases hr.2 with ⟨hx, _⟩ | ⟨_, _, _, hv, _, _, q1, q2, _⟩
      · cases hx
      · cases hv; unfold maxLen at q2; exact ⟨q1, by omega⟩
    refine ⟨g, cap, bs i, cp i, rfl, hb, hg, ?_, hbk, hbl, hcp.1, hcp.2, ?_⟩
    · intro j u hu
      match j, hu with
      | 0, hu =>
        cases hu
        rw [Nat.add_zero, key _ (by omega)]
        unfold pieV
        rw [if_pos (by omega), show i * 2 / 2 = i from by omega]
      | 1, hu =>
        cases hu
        rw [key _ (by omega)]
        unfold pieV
        rw [if_neg (by omega), show (i * 2 + 1) / 2 = i from by omega]
    · intro j hj
      refine ⟨bs i, 0, rfl, hbl, ?_⟩
      rw [Nat.zero_add]
      refine (own_cell hr (j := j) ?_).1
      rw [lst_get, if_pos hj]
theorem row_new (v : World) (L : List (List UInt8)) (h1 : L.length ≤ 1000) (hl : (Lib.join L [32]).length ≤ 1000000) :
    Calls Tryd.prog 38 #[.slice (some ⟨v.heap.size, 0, none⟩) L.length L.length] (v.alloc (.cells (L.map vS).toArray 9)) fun e w' => e = .returned (.string ⟨(rowT L).toArray⟩) ∧ Below (v.alloc (.cells (L.map vS).toArray 9)).heap.size (v.alloc (.cells (L.map vS).toArray 9)) w' := by
  have ho := own_alloc1 v 9 (L.map vS) (by unfold maxLen; rw [List.length_map]; omega)
  obtain ⟨o, c, hv, hw⟩ := WsAt.of_row ho
  rw [List.length_map] at hv
  cases hv
  exact row_calls v.heap.size 0 L.length L _ hw (by simp) (by omega) (Nat.le_refl _) hl
theorem nums_only {W W' : World} {o : Option Addr} {n : Nat} {F : Nat → Int} {S : Nat → Prop} (h : NumsAt W .u8 o n F) (ho : Only S W W') (hs : ∀ b off, o = some ⟨b, off, none⟩ → ¬ S b) : NumsAt W' .u8 o n F := fun i hi => by
  obtain ⟨b, off, e, hlt, hc⟩ := h i hi
  exact ⟨b, off, e, Nat.lt_of_lt_of_le hlt ho.size, (World.cell?_of_block (ho.block b hlt (hs b off e))).trans hc⟩
theorem below_only {b m : Nat} {gk : Option Nat} {w u W : World} (h : Below m w u) (ho : Only (fun k => k = b ∨ some k = gk) u W) (hm : m ≤ b) (hg : ∀ g, gk = some g → m ≤ g) (hs : m ≤ u.heap.size) : Below m w W :=
  h.trans ⟨ho.os, ho.tape, ho.output, ho.size, fun k hk => ho.block k (by omega) (by
    rintro (e | e)
    · omega
    · have := hg k e.symm; omega)⟩
theorem cell_only {S : Nat → Prop} {W W' : World} {q j : Nat} {v : Value} (h : W.cell? ⟨q, j, none⟩ = some v) (ho : Only S W W') (hs : ¬ S q) : W'.cell? ⟨q, j, none⟩ = some v := (World.cell?_of_block (ho.block q (cell_lt h) hs)).trans h
theorem dec19 (q : Nat) (h : q ≤ 9223372036854775807) : ∀ W, Calls Tryd.prog 39 #[.int .i64 (q : Int)] W fun e w' => e = .returned (.string ⟨(decL q).toArray⟩) ∧ Below W.heap.size W w' := fun W => dec_calls 19 q W (Nat.lt_of_le_of_lt h (by decide)) (by decide) (by decide) h
theorem WrG.ne_str {B b g : Nat} {l : List UInt8} {W : World} {gb : Option Nat} {cs : Array Value} (h : WrG B b l W gb) (hb : Blk W g 9 cs) : g ≠ b ∧ gb ≠ some g := by
  obtain ⟨p, v, _, h2, h3, h4, _, _⟩ := h.parts
  refine ⟨fun e => ?_, fun e => ?_⟩
  · subst e
    have hb : W.heap[g]? = some (.cells cs 9 (0, 0)) := hb
    rw [h2] at hb
    simp at hb
  · exact own1_ne h3 hb (by decide) (by rw [h4, e])
theorem wi_nat (q : Nat) (h : q ≤ 9223372036854775807) : IntKind.i64.wrap (q : Int) = (q : Int) := by
  rw [IntKind.wrap_i64]
  omega
theorem WSt.below {b m : Nat} {gb gk : Option Nat} {w w6 W : World} (hb : Below m w w6) (h : WSt b gb w6 gk W) (hm : m ≤ b) (hg : ∀ g, gb = some g → m ≤ g) (hs : m ≤ w6.heap.size) : Below m w W :=
  hb.trans ⟨h.1.os, h.1.tape, h.1.output, h.1.size, fun k hk => h.1.block k (by omega) (by
    rintro (e | e)
    · omega
    · have := hg k e.symm; omega)⟩
theorem WSt.ge {b : Nat} {gk : Option Nat} {w6 W : World} (h : WSt b none w6 gk W) : ∀ g, gk = some g → w6.heap.size ≤ g := by
  intro g e
  rcases h.2 with e1 | ⟨g', e1, hg⟩
  · rw [e1] at e; cases e
  · rw [e1] at e; cases e; exact hg
set_option maxRecDepth 100000 in
set_option maxHeartbeats 16000000 in
theorem text_calls (o o0 o1 o2 oe : Option Addr) (n c l0 c0 l1 c1 l2 c2 ne ce bud : Nat) (F F0 F1 F2 : Nat → Nat) (St : Nat → Nat) (Ln : Nat → Nat) (Up : Nat → Bool) (w : World) (hn : n ≤ 20000) (h0 : l0 ≤ 300) (h1 : l1 ≤ 300) (h2 : l2 ≤ 300) (hne : ne ≤ 200)
    (hc : n ≤ c ∧ c ≤ 9223372036854775807) (hc0 : l0 ≤ c0 ∧ c0 ≤ 9223372036854775807) (hc1 : l1 ≤ c1 ∧ c1 ≤ 9223372036854775807) (hc2 : l2 ≤ c2 ∧ c2 ≤ 9223372036854775807)
    (hF : ∀ i, F i < 256) (hF0 : ∀ i, F0 i < 256) (hF1 : ∀ i, F1 i < 256) (hF2 : ∀ i, F2 i < 256) (f : NumsAt w .u8 o n (fun i => (F i : Int))) (f0 : NumsAt w .u8 o0 l0 (fun i => (F0 i : Int))) (f1 : NumsAt w .u8 o1 l1 (fun i => (F1 i : Int))) (f2 : NumsAt w .u8 o2 l2 (fun i => (F2 i : Int)))
    (hE : EdgB w oe ne (fun i => (St i : Int)) Ln Up w.heap.size) (hS : ∀ i, i < ne → St i ≤ 9223372036854775807) (hLn : ∀ i, i < ne → Ln i < 4) (hok : chkS n l0 l1 l2 ne (fun i => (St i : Int)) Ln (bud : Int) = (0, 0)) (hk : ChkOk n) (hb63 : bud ≤ 9223372036854775807) :
    Calls Tryd.prog 14 #[.agg #[Value.slice o n c, Value.slice o0 l0 c0, Value.slice o1 l1 c1, Value.slice o2 l2 c2, Value.slice oe ne ce, Value.int .i64 (bud : Int)]] w fun e w' => e = .returned (.tuple #[.string ⟨(txT n F l0 l1 l2 F0 F1 F2 ne St Ln Up bud).toArray⟩, .agg #[.int .i64 0, .int .i64 0]]) ∧ Below w.heap.size w w' := by
  have hX : Blk ((w.alloc (.cells #[Value.slice o n c, Value.slice o0 l0 c0, Value.slice o1 l1 c1, Value.slice o2 l2 c2, Value.slice oe ne ce, Value.int .i64 (bud : Int)] 27)).alloc (.cells #[Value.int .i64 0, Value.int .i64 0] 34)) w.heap.size 27 #[Value.slice o n c, Value.slice o0 l0 c0, Value.slice o1 l1 c1, Value.slice o2 l2 c2, Value.slice oe ne ce, Value.int .i64 (bud : Int)] := (Blk.new w 27 #[Value.slice o n c, Value.slice o0 l0 c0, Value.slice o1 l1 c1, Value.slice o2 l2 c2, Value.slice oe ne ce, Value.int .i64 (bud : Int)]).alloc _
  have hFl : Blk ((w.alloc (.cells #[Value.slice o n c, Value.slice o0 l0 c0, Value.slice o1 l1 c1, Value.slice o2 l2 c2, Value.slice oe ne ce, Value.int .i64 (bud : Int)] 27)).alloc (.cells #[Value.int .i64 0, Value.int .i64 0] 34)) (w.heap.size + 1) 34 #[Value.int .i64 0, Value.int .i64 0] := Blk.newAt (by simp)
  have hb2 : Below w.heap.size w ((w.alloc (.cells #[Value.slice o n c, Value.slice o0 l0 c0, Value.slice o1 l1 c1, Value.slice o2 l2 c2, Value.slice oe ne ce, Value.int .i64 (bud : Int)] 27)).alloc (.cells #[Value.int .i64 0, Value.int .i64 0] 34)) := Bl.alloc (Bl.alloc (Below.refl _ _) _) _
  have hck := fun W (h : EdgB W oe ne (fun i => (St i : Int)) Ln Up W.heap.size) => sCheck_calls o o0 o1 o2 oe n c l0 c0 l1 c1 l2 c2 ne ce (bud : Int) (fun i => (St i : Int)) Ln Up W (by unfold maxLen; omega) h
  rw [hok] at hck
  have hck : ∀ W, EdgB W oe ne (fun i => (St i : Int)) Ln Up W.heap.size → Calls Tryd.prog 9 #[.agg #[Value.slice o n c, Value.slice o0 l0 c0, Value.slice o1 l1 c1, Value.slice o2 l2 c2, Value.slice oe ne ce, Value.int .i64 (bud : Int)]] W fun e w' => e = .returned (.agg #[Value.int .i64 0, Value.int .i64 0]) ∧ Below W.heap.size W w' := hck
  have hE2 := hE.low (hb2.mono (Nat.le_refl _))
  have HX := hide hX
  have HF := hide hFl
  have HB := hide hb2
  have HA : Hid (NumsAt w .u8 o n (fun i => (F i : Int)) ∧ NumsAt w .u8 o0 l0 (fun i => (F0 i : Int)) ∧ NumsAt w .u8 o1 l1 (fun i => (F1 i : Int)) ∧ NumsAt w .u8 o2 l2 (fun i => (F2 i : Int)) ∧ EdgB w oe ne (fun i => (St i : Int)) Ln Up w.heap.size) := ⟨f, f0, f1, f2, hE⟩
  have HOK := hide hok
  have HK := hide hk
  clear hok hk hFl hb2 hE f f0 f1 f2
  go_enter Tryd.func14, Tryd.ntmps14
  go_wp2_with (first | (refine wpList_load_row rfl 27 _ rfl w.heap.size rfl _ #[Value.slice o n c, Value.slice o0 l0 c0, Value.slice o1 l1 c1, Value.slice o2 l2 c2, Value.slice oe ne ce, Value.int .i64 (bud : Int)] (0, 0) _ hX Tryd.underlying27 rfl (by kernel_rfl) ?_))
  refine (hck _ (hE2.mono HB.out.size)).mono ?_
  rintro e w4 ⟨rfl, hb4⟩
  have hF4 : Blk w4 (w.heap.size + 1) 34 #[Value.int .i64 0, Value.int .i64 0] := HF.out.below hb4 HF.out.lt
  have hX4 : Blk w4 w.heap.size 27 #[Value.slice o n c, Value.slice o0 l0 c0, Value.slice o1 l1 c1, Value.slice o2 l2 c2, Value.slice oe ne ce, Value.int .i64 (bud : Int)] := HX.out.below hb4 HX.out.lt
  have hb04 := HB.out.trans (hb4.mono HB.out.size)
  have hP5 : Blk (w4.alloc (.cells #[Value.int .i64 0, Value.int .i64 0] 34)) w4.heap.size 34 #[Value.int .i64 0, Value.int .i64 0] := Blk.new _ _ _
  have hb05 : Below w.heap.size w (w4.alloc (.cells #[Value.int .i64 0, Value.int .i64 0] 34)) := Bl.alloc hb04 _
  have HF5 : Hid (Blk (w4.alloc (.cells #[Value.int .i64 0, Value.int .i64 0] 34)) (w.heap.size + 1) 34 #[Value.int .i64 0, Value.int .i64 0]) := hF4.alloc _
  have HX5 : Hid (Blk (w4.alloc (.cells #[Value.int .i64 0, Value.int .i64 0] 34)) w.heap.size 27 #[Value.slice o n c, Value.slice o0 l0 c0, Value.slice o1 l1 c1, Value.slice o2 l2 c2, Value.slice oe ne ce, Value.int .i64 (bud : Int)]) := hX4.alloc _
  have HB5 := hide hb05
  clear hX hck hE2 hb4 hF4 hb04 hX4 hb05
  have hp0 := hP5.cell 0
  go_wp2_with fail
  have hX6 : Blk ((w4.alloc (.cells #[Value.int .i64 0, Value.int .i64 0] 34)).alloc (.cells #[Value.pointer none, Value.slice none 0 0] 78)) w.heap.size 27 #[Value.slice o n c, Value.slice o0 l0 c0, Value.slice o1 l1 c1, Value.slice o2 l2 c2, Value.slice oe ne ce, Value.int .i64 (bud : Int)] := HX5.out.alloc _
  have HF6 : Hid (Blk ((w4.alloc (.cells #[Value.int .i64 0, Value.int .i64 0] 34)).alloc (.cells #[Value.pointer none, Value.slice none 0 0] 78)) (w.heap.size + 1) 34 #[Value.int .i64 0, Value.int .i64 0]) := HF5.out.alloc _
  have HB6 : Hid (Below w.heap.size w ((w4.alloc (.cells #[Value.int .i64 0, Value.int .i64 0] 34)).alloc (.cells #[Value.pointer none, Value.slice none 0 0] 78))) := Bl.alloc HB5.out _
  have hWz : Blk ((w4.alloc (.cells #[Value.int .i64 0, Value.int .i64 0] 34)).alloc (.cells #[Value.pointer none, Value.slice none 0 0] 78)) (w4.heap.size + 1) 78 #[Value.pointer none, Value.slice none 0 0] := Blk.newAt (by simp)
  have hbz : w.heap.size + 1 < w4.heap.size + 1 := by have := HF5.out.lt; have e : (w4.alloc (.cells #[Value.int .i64 0, Value.int .i64 0] 34)).heap.size = w4.heap.size + 1 := by simp
                                                      have := HB5.out.size; omega
  clear hP5 hp0 HF5 HX5 HB5
  generalize (w4.alloc (.cells #[Value.int .i64 0, Value.int .i64 0] 34)).alloc (.cells #[Value.pointer none, Value.slice none 0 0] 78) = w6 at *
  generalize w4.heap.size + 1 = b at *
  have hWG : WrG b b [] w6 none := ⟨Or.inl ⟨Nat.le_refl _, .slice none 0 0, hWz, World.ownsRow_nil _ _ _ _, fun e => by cases e⟩, .slice none 0 0, hWz.cell 1, rfl⟩
  have hbl : b < w6.heap.size := hWz.lt
  have k0 : w6.cell? ⟨w.heap.size, 0, none⟩ = some (.slice o n c) := hX6.cell 0
  have HX6 := hide hX6
  obtain ⟨q, hq, hq63, e3, e1, hwq⟩ := q8192 n hn
  have HTA : Hid (txA n = rowT [wPages, decL q]) := by unfold Hid txA rowT; rw [hq, Lib.join_cons]; simp [Lib.joinTail]
  have hwi := wi_nat q hq63
  have hd : ∀ W, Calls Tryd.prog 39 #[.int .i64 (q : Int)] W fun e w' => e = .returned (.string ⟨(decL q).toArray⟩) ∧ Below W.heap.size W w' := fun W => dec_calls 19 q W (Nat.lt_of_le_of_lt hq63 (by decide)) (by decide) (by decide) hq63
  have hdl := decL_len q
  have HQ := hide hq
  generalize decL q = DQ at *
  have hjl : (Lib.join [wPages, DQ] [32]).length ≤ 1000 := by rw [Lib.join_cons]; simp [Lib.joinTail, wPages]; omega
  have hrl : (rowT [wPages, DQ]).length ≤ 1001 := by unfold rowT; rw [List.length_append]; simp; omega
  have HRL := hide hrl
  have HJL := hide hjl
  have HWG := hide hWG
  have hso : Only (fun k => k = b ∨ some k = none) w6 w6 := Only.refl _ _
  have hBL0 : Below w6.heap.size w6 w6.drew := Below.drew (Below.refl _ _)
  clear hq hX6 hWz hrl hjl hWG hdl
  refine wp_region_held_drew (S := fun W => W.cell? ⟨w.heap.size, 0, none⟩ = some (.slice o n c) ∧ Only (fun k => k = b ∨ some k = none) w6 W) (by kernel_rfl) ⟨(by first | exact k0.drew | exact k0 | exact Below.drew k0), (by first | exact hso.drew | exact hso | exact Below.drew hso)⟩ (fun hS0 => ?_)
  clear k0 hso
  change wpAnyH _ _ _ _ _ 11 #[false, false, false, false, false, false, false, false, false, false, false] _ _
  generalize w6.drew = v0 at *
  refine wpAnyH_take (i := 0) (v := ?_) rfl (by kernel_rfl) (by kernel_rfl) (by kernel_rfl) (fun _ _ _ h => h) (Or.inl ⟨by rfl, ?_⟩) hS0 ?_
  rotate_left
  · (intro w hSw; (try dsimp only at hSw); go_simp; try with_reducible rfl)
  simp only [List.getElem_toArray, List.getElem_cons_zero, List.getElem_cons_succ, Act.put, List.setIfInBounds_toArray, List.set_cons_zero, List.set_cons_succ]
  refine wpAnyH_take (i := 1) (v := ?_) rfl (by kernel_rfl) (by kernel_rfl) (by kernel_rfl) (fun _ _ _ h => h) (Or.inl ⟨by rfl, ?_⟩) hS0 ?_
  rotate_left
  · (intro w hSw; (try dsimp only at hSw); go_simp; try with_reducible rfl)
  simp only [List.getElem_toArray, List.getElem_cons_zero, List.getElem_cons_succ, Act.put, List.setIfInBounds_toArray, List.set_cons_zero, List.set_cons_succ]
  refine wpAnyH_take (i := 2) (v := ?_) rfl (by kernel_rfl) (by kernel_rfl) (by kernel_rfl) (fun _ _ _ h => h) (Or.inl ⟨by rfl, ?_⟩) hS0 ?_
  rotate_left
  · (intro w hSw; (try dsimp only at hSw); go_simp; try with_reducible rfl)
  simp only [List.getElem_toArray, List.getElem_cons_zero, List.getElem_cons_succ, Act.put, List.setIfInBounds_toArray, List.set_cons_zero, List.set_cons_succ]
  refine wpAnyH_take (i := 3) (v := ?_) rfl (by kernel_rfl) (by kernel_rfl) (by kernel_rfl) (fun _ _ _ h => h) (Or.inl ⟨by rfl, ?_⟩) hS0 ?_
  rotate_left
  · (intro w hSw; (try dsimp only at hSw); go_simp; try with_reducible rfl)
  simp only [List.getElem_toArray, List.getElem_cons_zero, List.getElem_cons_succ, Act.put, List.setIfInBounds_toArray, List.set_cons_zero, List.set_cons_succ]
  refine wpAnyH_take (i := 4) (v := ?_) rfl (by kernel_rfl) (by kernel_rfl) (by kernel_rfl) (fun _ _ _ h => h) (Or.inl ⟨by rfl, ?_⟩) hS0 ?_
  rotate_left
  · (intro w hSw; (try dsimp only at hSw); go_simp; try with_reducible rfl)
  simp only [List.getElem_toArray, List.getElem_cons_zero, List.getElem_cons_succ, Act.put, List.setIfInBounds_toArray, List.set_cons_zero, List.set_cons_succ]
  refine wpAnyH_take (i := 5) (v := ?_) rfl (by kernel_rfl) (by kernel_rfl) (by kernel_rfl) (fun _ _ _ h => h) (Or.inl ⟨by rfl, ?_⟩) hS0 ?_
  rotate_left
  · (intro w hSw; (try dsimp only at hSw); go_simp; try with_reducible rfl)
  simp only [List.getElem_toArray, List.getElem_cons_zero, List.getElem_cons_succ, Act.put, List.setIfInBounds_toArray, List.set_cons_zero, List.set_cons_succ]
  refine wpAnyH_take (i := 6) (v := ?_) rfl (by kernel_rfl) (by kernel_rfl) (by kernel_rfl) (fun _ _ _ h => h) (Or.inl ⟨by rfl, ?_⟩) hS0 ?_
  rotate_left
  · (intro w hSw; (try dsimp only at hSw); go_simp; try with_reducible rfl)
  simp only [List.getElem_toArray, List.getElem_cons_zero, List.getElem_cons_succ, Act.put, List.setIfInBounds_toArray, List.set_cons_zero, List.set_cons_succ]
  refine wpAnyH_ready (rs := [7]) (by kernel_rfl) (by simp) ?_
  refine AllReadyH.cons rfl (fun K hK => ?_) AllReadyH.nil
  go_simp
  with_reducible refine (hd _).mono ?_
  rintro e v1 ⟨rfl, hb1⟩
  have hBL1 := hBL0.trans (hb1.mono (by have := hBL0.size; omega))
  (try go_simp)
  refine hK.out _ _ ⟨((hb1.cell (cell_lt hS0.1)).trans hS0.1), (hS0.2.trans (Only.of hb1))⟩ (fun hS1 => ?_)
  clear hK K
  clear hb1 hS0
  simp only [List.getElem_toArray, List.getElem_cons_zero, List.getElem_cons_succ, Act.put, List.setIfInBounds_toArray, List.set_cons_zero, List.set_cons_succ]
  refine wpAnyH_ready (rs := [8]) (by kernel_rfl) (by simp) ?_
  refine AllReadyH.cons rfl (fun K hK => ?_) AllReadyH.nil
  go_simp
  have hb2 : Below v1.heap.size v1 (v1.alloc (.cells #[.string ⟨#[112, 97, 103, 101, 115]⟩, .string ⟨DQ.toArray⟩] 9)) := Bl.alloc (Below.refl _ _) _
  refine hK.out _ _ ⟨((hb2.cell (cell_lt hS1.1)).trans hS1.1), (hS1.2.trans (Only.of hb2))⟩ (fun hS2 => ?_)
  clear hK K
  have hgs_2 : Blk (v1.alloc (.cells #[.string ⟨#[112, 97, 103, 101, 115]⟩, .string ⟨DQ.toArray⟩] 9)) v1.heap.size 9 #[.string ⟨#[112, 97, 103, 101, 115]⟩, .string ⟨DQ.toArray⟩] := Blk.new _ _ _
  have hBL2 : Below w6.heap.size w6 (v1.alloc (.cells #[.string ⟨#[112, 97, 103, 101, 115]⟩, .string ⟨DQ.toArray⟩] 9)) := Bl.alloc hBL1 _
  have hrow : Calls Tryd.prog 38 #[.slice (some ⟨v1.heap.size, 0, none⟩) 2 2] (v1.alloc (.cells #[.string ⟨#[112, 97, 103, 101, 115]⟩, .string ⟨DQ.toArray⟩] 9)) fun e w' => e = .returned (.string ⟨(rowT [wPages, DQ]).toArray⟩) ∧ Below (v1.alloc (.cells #[.string ⟨#[112, 97, 103, 101, 115]⟩, .string ⟨DQ.toArray⟩] 9)).heap.size (v1.alloc (.cells #[.string ⟨#[112, 97, 103, 101, 115]⟩, .string ⟨DQ.toArray⟩] 9)) w' := row_new v1 [wPages, DQ] (by simp) (by have := HJL.out; omega)
  clear hb2 hS1
  generalize v1.alloc (.cells #[.string ⟨#[112, 97, 103, 101, 115]⟩, .string ⟨DQ.toArray⟩] 9) = v2 at *
  generalize v1.heap.size = gs at *
  simp only [List.getElem_toArray, List.getElem_cons_zero, List.getElem_cons_succ, Act.put, List.setIfInBounds_toArray, List.set_cons_zero, List.set_cons_succ]
  refine wpAnyH_ready (rs := [9]) (by kernel_rfl) (by simp) ?_
  refine AllReadyH.cons rfl (fun K hK => ?_) AllReadyH.nil
  go_simp
  with_reducible refine (hrow).mono ?_
  rintro e v3 ⟨rfl, hb3⟩
  have hBL3 := hBL2.trans (hb3.mono (by have := hBL2.size; omega))
  (try go_simp)
  refine hK.out _ _ ⟨((hb3.cell (cell_lt hS2.1)).trans hS2.1), (hS2.2.trans (Only.of hb3))⟩ (fun hS3 => ?_)
  clear hK K
  have hgs_3 := hgs_2.below hb3 hgs_2.lt
  clear hb3 hS2
  simp only [List.getElem_toArray, List.getElem_cons_zero, List.getElem_cons_succ, Act.put, List.setIfInBounds_toArray, List.set_cons_zero, List.set_cons_succ]
  refine wpAnyH_ready (rs := [10]) (by kernel_rfl) (by simp) ?_
  refine AllReadyH.cons rfl (fun K hK => ?_) AllReadyH.nil
  go_simp
  with_reducible refine (wWriteG b b [] _ _ none (HWG.out.below hBL3) (by have := HRL.out; simp; omega) (by have := hBL3.size; omega)).mono ?_
  rintro e v4 ⟨⟨vv, rfl⟩, gk1, q1, q2⟩
  (try go_simp)
  refine hK.out _ _ ⟨(World.cell?_of_block (q2.1.block w.heap.size (cell_lt hS3.1) (by rintro (e | e) <;> first | omega | cases e))).trans hS3.1, (Only.of hBL3).trans q2.1⟩ (fun hS4 => ?_)
  clear hK K hS3
  simp only [List.getElem_toArray, List.getElem_cons_zero, List.getElem_cons_succ, Act.put, List.setIfInBounds_toArray, List.set_cons_zero, List.set_cons_succ]
  refine wpAnyH_done (by kernel_rfl) ?_ _
  have k0 := hS4.1
  have hso := hS4.2
  clear hS4
  have hst : WSt b none w6 gk1 v4 := WSt.head hBL3 q2
  have hwg : WrG b b (txA n) v4 gk1 := by rw [HTA.out]; exact q1
  have hzb : w.heap.size ≤ b := by omega
  have hb07 : Below w.heap.size w v4 := WSt.below HB6.out hst hzb (fun g e => by cases e) (by omega)
  have hnm := HA.out.1.below hb07 (Nat.le_refl _)
  have hpc := ctPieces_ok n c o (fun i => (F i : Int)) v4 HK.out hc.1 (by unfold maxLen; omega) hnm
  have hgl := hwg.lt
  have hge := hst.ge
  have hs6 := hst.1.size
  have HST7 := hide hst
  have HWG7 := hide hwg
  generalize v4 = w7 at *
  clear q1 q2 hBL0 hBL1 hBL2 hBL3 hso hd hwi e3 e1 hwq hnm hst hwg hb07
  go_wp2_with fail
  refine hpc.mono ?_
  clear hpc k0
  rintro e w8 ⟨v, rfl, hPL, hb8⟩
  obtain ⟨pa, pc, rfl⟩ := hPL.slice
  have hn16 : n ≤ 16384 := by have := HK.out.2.2; omega
  have HTL : Hid (∀ k, (pcT F ((runsP (fun i => (F i : Int)) n).take k)).length ≤ 114695) := fun k => pcT_runs F n k hn16
  have HRB : Hid (∀ k, k < (runsP (fun i => (F i : Int)) n).length → pA (runsP (fun i => (F i : Int)) n) k + pN (runsP (fun i => (F i : Int)) n) k ≤ n ∧ 0 < pN (runsP (fun i => (F i : Int)) n) k) := fun k hk => pN_pos (fun i => (F i : Int)) n k hk
  have HPS : Hid (∀ k, k < (runsP (fun i => (F i : Int)) n).length → pcT F ((runsP (fun i => (F i : Int)) n).take (k + 1)) = pcT F ((runsP (fun i => (F i : Int)) n).take k) ++ rwK wRom (pA (runsP (fun i => (F i : Int)) n) k) (pN (runsP (fun i => (F i : Int)) n) k) (fun j => F (pA (runsP (fun i => (F i : Int)) n) k + j)) (pN (runsP (fun i => (F i : Int)) n) k)) := fun k hk => pcT_snoc F _ k hk
  have HTB : Hid (txB n F = txA n ++ pcT F (runsP (fun i => (F i : Int)) n)) := rfl
  have hpl := runs_len (F := fun i => (F i : Int)) n
  generalize runsP (fun i => (F i : Int)) n = PS at *
  have HPL := hide hPL
  have hs8 := hb8.size
  have HST8 : Hid (WSt b none w6 gk1 w8) := HST7.out.low hb8
  have HWG8 : Hid (WrG b b (txA n) w8 gk1) := HWG7.out.below hb8
  clear hPL hb8
  go_wp2_with fail
  go_loopw [40] (fun v40 wr => ∃ (k : Nat) (gk : Option Nat), k ≤ PS.length ∧ v40 = .int .i64 (k : Int) ∧ Hid (WrG b b (txA n ++ pcT F (PS.take k)) wr gk ∧ WSt b gk1 w8 gk wr)) (fun v40 _ => PS.length - (intOf v40).toNat)
  case atStart => exact ⟨0, gk1, by omega, rfl, by simpa [pcT] using HWG8.out, WSt.refl _ _ _⟩
  case round =>
    obtain ⟨k, gk, hk, rfl, HI⟩ := hrel
    rcases Nat.lt_or_ge k PS.length with hlt | hge2
    · obtain ⟨hwr, hst⟩ := HI.out
      have hPr : PL wr w7.heap.size (.slice pa PS.length pc) PS (fun i => (F i : Int)) := HPL.out.keep (fun g h1 h2 => hst.1.block g h2 (by
        rintro (e | e)
        · omega
        · have := hgl.2 g e.symm; omega))
      obtain ⟨pg, cap, bs, cp, hv, hpb, hpl2, hr, hbs1, hbs2, hcp1, hcp2, hnm⟩ := hPr.nth hlt
      obtain ⟨rfl, rfl⟩ : pa = some ⟨pg, 0, none⟩ ∧ pc = cap := by cases hv; exact ⟨rfl, rfl⟩
      have hrb := HRB.out k hlt
      have hps := HPS.out k hlt
      have htl := HTL.out k
      have hgk : ∀ g, gk = some g → g ≠ bs ∧ g < wr.heap.size := fun g e => by
        have h1 := hwr.lt.2 g e
        refine ⟨?_, h1⟩
        rcases hst.2 with e1 | ⟨g', e1, hg'⟩
        · have := hgl.2 g (e1.symm.trans e)
          omega
        · rw [e1] at e
          cases e
          have := (HPL.out.nth hlt)
          obtain ⟨_, _, bs', _, hv', _, _, hr', _, hb', _⟩ := this
          cases hv'
          have hc1 := hr 1 _ rfl
          have hc2 := hr' 1 _ rfl
          have hne : pg ≠ b := by omega
          have hc3 := cell_only hc2 hst.1 (by
            rintro (e | e)
            · omega
            · have := hgl.2 _ e.symm; omega)
          rw [hc1] at hc3
          cases hc3
          omega
      have k1 : (k : Int) < (PS.length : Int) := by omega
      have hta : (txA n).length ≤ 1001 := by rw [HTA.out]; exact HRL.out
      have sR := setRow_new wr #[.int .i64 0, .slice none 0 0] #[.int .i64 (pA PS k : Int), .slice (some ⟨bs, 0, none⟩) (pN PS k) cp] 88
      have hZ : Blk (wr.alloc (.cells #[.int .i64 0, .slice none 0 0] 88)) wr.heap.size 88 #[.int .i64 0, .slice none 0 0] := Blk.new _ _ _
      have hX9 : Blk (wr.alloc (.cells #[.int .i64 (pA PS k : Int), .slice (some ⟨bs, 0, none⟩) (pN PS k) cp] 88)) wr.heap.size 88 #[.int .i64 (pA PS k : Int), .slice (some ⟨bs, 0, none⟩) (pN PS k) cp] := Blk.new _ _ _
      have x1 := hX9.cell 1
      have hb9 : Below wr.heap.size wr (wr.alloc (.cells #[.int .i64 (pA PS k : Int), .slice (some ⟨bs, 0, none⟩) (pN PS k) cp] 88)) := Bl.alloc (Below.refl _ _) _
      have hst1 := hst.1.size
      have hby := wbytes_calls 42 wr.heap.size b b wRom (by decide) (pA PS k) (some ⟨bs, 0, none⟩) (pN PS k) cp (fun j => F (pA PS k + j)) (txA n ++ pcT F (PS.take k)) (wr.alloc (.cells #[.int .i64 (pA PS k : Int), .slice (some ⟨bs, 0, none⟩) (pN PS k) cp] 88)) gk (hwr.below hb9) (by have := hb9.size; omega) (by omega) hcp1 hcp2 (by rw [List.length_append]; omega) (fun _ => hF _) cf_text
        (fun W ho => nums_only (hnm.below hb9 (Nat.le_refl _)) ho (fun b' off' e => by
          cases e
          rintro (e | e)
          · omega
          · exact (hgk bs e.symm).1 rfl))
        (fun W t ho ht => head_rom wr.heap.size W (pA PS k) t (cell_only (hX9.cell 0) ho (by
          rintro (e | e)
          · have := hwr.lt.1; omega
          · have := (hgk _ e.symm).2; omega)) (by omega))
      have HWR := hide hwr
      have HST := hide hst
      clear hwr hst hPr hv hnm hcp1 hcp2 htl hrb hgk x1 hX9
      have x1 : (wr.alloc (.cells #[.int .i64 (pA PS k : Int), .slice (some ⟨bs, 0, none⟩) (pN PS k) cp] 88)).cell? ⟨wr.heap.size, 1, none⟩ = some (.slice (some ⟨bs, 0, none⟩) (pN PS k) cp) := (Blk.new _ _ _).cell 1
      go_wp2_with (first | (refine wpList_load_mid rfl 88 _ rfl pg (k * 2) rfl [Value.int .i64 (pA PS k : Int), Value.slice (some ⟨bs, 0, none⟩) (pN PS k) cp] _ hr Tryd.underlying88 rfl (by kernel_rfl) ?_) | (refine wpList_store_row rfl 88 _ _ rfl wr.heap.size #[.int .i64 (pA PS k : Int), .slice (some ⟨bs, 0, none⟩) (pN PS k) cp] rfl rfl 88 _ hZ (by kernel_rfl) rfl (by kernel_rfl) ?_; rw [sR]))
      with_reducible refine hby.mono ?_
      clear hby
      rintro e w10 ⟨⟨vv, rfl⟩, gk2, q1, q2⟩
      clear hr sR hZ x1
      go_wp2_with fail
      refine ⟨⟨k + 1, gk2, by omega, by go_num, by rw [hps, ← List.append_assoc]; exact q1, HST.out.trans (WSt.head hb9 q2)⟩, ?_⟩
      simp [intOf]; omega
    · obtain rfl : k = PS.length := by omega
      have HSTu : Hid (WSt b none w6 gk wr) := HST8.out.trans HI.out.2
      have HWGu : Hid (WrG b b (txB n F) wr gk) := by have := HI.out.1; rw [List.take_length] at this; unfold Hid; rw [HTB.out]; exact this
      have HLu : Hid ((txB n F).length ≤ 116000) := by
        have h1 := HTL.out PS.length
        rw [List.take_length] at h1
        have h2 := HRL.out
        unfold Hid
        rw [HTB.out, List.length_append, HTA.out]
        omega
      clear HI HPS HRB HPL hs8 HST8 HWG8 hk HTL hpl
      have k2 : (decide ((PS.length : Int) < (PS.length : Int))) = false := decide_eq_false (by omega)
      go_wp2_with fail
      have g0 := rwK_len wVdc 0 l0 F0 (by decide) l0
      have kf : wr.cell? ⟨w.heap.size, 1, none⟩ = some (.slice o0 l0 c0) := cell_only (HX6.out.cell 1) HSTu.out.1 (by rintro (e | e) <;> first | omega | cases e)
      have hwd : ∀ W, Calls Tryd.prog 44 #[.string ⟨#[118, 100, 99]⟩] W fun e w' => e = .returned (.func (.func 71) #[] #[.pointer (some ⟨W.heap.size, 0, none⟩)]) ∧ w'.cell? ⟨W.heap.size, 0, none⟩ = some (vS wVdc) ∧ Below W.heap.size W w' := fun W => word_calls wVdc W
      have hul := HWGu.out.lt
      have hue := HSTu.out.ge
      have hus := HSTu.out.1.size
      have hub : Below w.heap.size w wr := WSt.below HB6.out HSTu.out hzb (fun g e => by cases e) (by omega)
      have hso : Only (fun k => k = b ∨ some k = gk) wr wr := Only.refl _ _
      have hBL0 : Below wr.heap.size wr wr.drew := Below.drew (Below.refl _ _)
      refine wp_region_held_drew (S := fun W => W.cell? ⟨w.heap.size, 1, none⟩ = some (.slice o0 l0 c0) ∧ Only (fun k => k = b ∨ some k = gk) wr W) (by kernel_rfl) ⟨(by first | exact kf.drew | exact kf | exact Below.drew kf), (by first | exact hso.drew | exact hso | exact Below.drew hso)⟩ (fun hS0 => ?_)
      clear kf hso
      change wpAnyH _ _ _ _ _ 6 #[false, false, false, false, false, false] _ _
      generalize wr.drew = v0 at *
      refine wpAnyH_take (i := 0) (v := ?_) rfl (by kernel_rfl) (by kernel_rfl) (by kernel_rfl) (fun _ _ _ h => h) (Or.inl ⟨by rfl, ?_⟩) hS0 ?_
      rotate_left
      · (intro w hSw; (try dsimp only at hSw); go_simp; try with_reducible rfl)
      simp only [List.getElem_toArray, List.getElem_cons_zero, List.getElem_cons_succ, Act.put, List.setIfInBounds_toArray, List.set_cons_zero, List.set_cons_succ]
      refine wpAnyH_take (i := 1) (v := ?_) rfl (by kernel_rfl) (by kernel_rfl) (by kernel_rfl) (fun _ _ _ h => h) (Or.inl ⟨by rfl, ?_⟩) hS0 ?_
      rotate_left
      · (intro w hSw; (try dsimp only at hSw); go_simp; try with_reducible rfl)
      simp only [List.getElem_toArray, List.getElem_cons_zero, List.getElem_cons_succ, Act.put, List.setIfInBounds_toArray, List.set_cons_zero, List.set_cons_succ]
      refine wpAnyH_take (i := 2) (v := ?_) rfl (by kernel_rfl) (by kernel_rfl) (by kernel_rfl) (fun _ _ _ h => h) (Or.inl ⟨by rfl, ?_⟩) hS0 ?_
      rotate_left
      · (intro w hSw; (try dsimp only at hSw); go_simp; try with_reducible rfl)
      simp only [List.getElem_toArray, List.getElem_cons_zero, List.getElem_cons_succ, Act.put, List.setIfInBounds_toArray, List.set_cons_zero, List.set_cons_succ]
      refine wpAnyH_take (i := 3) (v := ?_) rfl (by kernel_rfl) (by kernel_rfl) (by kernel_rfl) (fun _ _ _ h => h) (Or.inl ⟨by rfl, ?_⟩) hS0 ?_
      rotate_left
      · (intro w hSw; (try dsimp only at hSw); go_simp; try with_reducible rfl)
      simp only [List.getElem_toArray, List.getElem_cons_zero, List.getElem_cons_succ, Act.put, List.setIfInBounds_toArray, List.set_cons_zero, List.set_cons_succ]
      refine wpAnyH_ready (rs := [4]) (by kernel_rfl) (by simp) ?_
      refine AllReadyH.cons rfl (fun K hK => ?_) AllReadyH.nil
      go_simp
      with_reducible refine (hwd _).mono ?_
      rintro e v1 ⟨rfl, hq, hb1⟩
      have hBL1 := hBL0.trans (hb1.mono (by have := hBL0.size; omega))
      (try go_simp)
      refine hK.out _ _ ⟨((hb1.cell (cell_lt hS0.1)).trans hS0.1), (hS0.2.trans (Only.of hb1))⟩ (fun hS1 => ?_)
      clear hK K
      clear hb1 hS0
      simp only [List.getElem_toArray, List.getElem_cons_zero, List.getElem_cons_succ, Act.put, List.setIfInBounds_toArray, List.set_cons_zero, List.set_cons_succ]
      refine wpAnyH_ready (rs := [5]) (by kernel_rfl) (by simp) ?_
      refine AllReadyH.cons rfl (fun K hK => ?_) AllReadyH.nil
      go_simp
      with_reducible refine (wbytes_calls 71 v0.heap.size b b wVdc (by decide) 0 o0 l0 c0 F0 (txB n F) v1 gk (HWGu.out.below hBL1) (by have := hBL1.size; omega) (by omega) hc0.1 hc0.2 (by have := HLu.out; omega) hF0 cf_word (fun W ho => HA.out.2.1.below (below_only (hub.trans (hBL1.mono hub.size)) ho hzb (fun g e => by have := hue g e; omega) (by have := hub.size; have := hBL1.size; omega)) (Nat.le_refl _)) (fun W t ho ht => head_word (by decide) v0.heap.size W 0 t (cell_only hq ho (fun e => e.elim (fun e => by have := hul.1; have := hBL0.size; omega) (fun e => by have := hul.2 _ e.symm; have := hBL0.size; omega))))).mono ?_
      rintro e v2 ⟨⟨vv, rfl⟩, gk2, q1, q2⟩
      (try go_simp)
      refine hK.out _ _ ⟨cell_only hS1.1 q2.1 (by rintro (e | e) <;> first | omega | (have := hue _ e.symm; have := hul.1; omega)), (Only.of hBL1).trans q2.1⟩ (fun hS2 => ?_)
      clear hK K hS1
      simp only [List.getElem_toArray, List.getElem_cons_zero, List.getElem_cons_succ, Act.put, List.setIfInBounds_toArray, List.set_cons_zero, List.set_cons_succ]
      refine wpAnyH_done (by kernel_rfl) ?_ _
      have kf := hS2.1
      have hso := hS2.2
      clear hS2
      have HST2 : Hid (WSt b none w6 gk2 v2) := HSTu.out.trans (WSt.head hBL1 q2)
      have HWG2 := hide q1
      have HLu2 : Hid ((txB n F ++ rwK wVdc 0 l0 F0 l0).length ≤ 120500) := by have := HLu.out; unfold Hid; rw [List.length_append]; omega
      generalize v2 = wu at *
      clear q1 q2 hBL0 hBL1 hso kf hwd hul hue hus hub hq HSTu HWGu HLu gk
      obtain ⟨gk, rfl⟩ : ∃ x, x = gk2 := ⟨_, rfl⟩
      have HSTu := HST2
      have HWGu := HWG2
      have HLu := HLu2
      clear HST2 HWG2 HLu2
      go_wp2_with fail
      have g1 := rwK_len wVce 0 l1 F1 (by decide) l1
      have kf : wu.cell? ⟨w.heap.size, 2, none⟩ = some (.slice o1 l1 c1) := cell_only (HX6.out.cell 2) HSTu.out.1 (by rintro (e | e) <;> first | omega | cases e)
      have hwd : ∀ W, Calls Tryd.prog 44 #[.string ⟨#[118, 99, 101]⟩] W fun e w' => e = .returned (.func (.func 71) #[] #[.pointer (some ⟨W.heap.size, 0, none⟩)]) ∧ w'.cell? ⟨W.heap.size, 0, none⟩ = some (vS wVce) ∧ Below W.heap.size W w' := fun W => word_calls wVce W
      have hul := HWGu.out.lt
      have hue := HSTu.out.ge
      have hus := HSTu.out.1.size
      have hub : Below w.heap.size w wu := WSt.below HB6.out HSTu.out hzb (fun g e => by cases e) (by omega)
      have hso : Only (fun k => k = b ∨ some k = gk) wu wu := Only.refl _ _
      have hBL0 : Below wu.heap.size wu wu.drew := Below.drew (Below.refl _ _)
      refine wp_region_held_drew (S := fun W => W.cell? ⟨w.heap.size, 2, none⟩ = some (.slice o1 l1 c1) ∧ Only (fun k => k = b ∨ some k = gk) wu W) (by kernel_rfl) ⟨(by first | exact kf.drew | exact kf | exact Below.drew kf), (by first | exact hso.drew | exact hso | exact Below.drew hso)⟩ (fun hS0 => ?_)
      clear kf hso
      change wpAnyH _ _ _ _ _ 6 #[false, false, false, false, false, false] _ _
      generalize wu.drew = v0 at *
      refine wpAnyH_take (i := 0) (v := ?_) rfl (by kernel_rfl) (by kernel_rfl) (by kernel_rfl) (fun _ _ _ h => h) (Or.inl ⟨by rfl, ?_⟩) hS0 ?_
      rotate_left
      · (intro w hSw; (try dsimp only at hSw); go_simp; try with_reducible rfl)
      simp only [List.getElem_toArray, List.getElem_cons_zero, List.getElem_cons_succ, Act.put, List.setIfInBounds_toArray, List.set_cons_zero, List.set_cons_succ]
      refine wpAnyH_take (i := 1) (v := ?_) rfl (by kernel_rfl) (by kernel_rfl) (by kernel_rfl) (fun _ _ _ h => h) (Or.inl ⟨by rfl, ?_⟩) hS0 ?_
      rotate_left
      · (intro w hSw; (try dsimp only at hSw); go_simp; try with_reducible rfl)
      simp only [List.getElem_toArray, List.getElem_cons_zero, List.getElem_cons_succ, Act.put, List.setIfInBounds_toArray, List.set_cons_zero, List.set_cons_succ]
      refine wpAnyH_take (i := 2) (v := ?_) rfl (by kernel_rfl) (by kernel_rfl) (by kernel_rfl) (fun _ _ _ h => h) (Or.inl ⟨by rfl, ?_⟩) hS0 ?_
      rotate_left
      · (intro w hSw; (try dsimp only at hSw); go_simp; try with_reducible rfl)
      simp only [List.getElem_toArray, List.getElem_cons_zero, List.getElem_cons_succ, Act.put, List.setIfInBounds_toArray, List.set_cons_zero, List.set_cons_succ]
      refine wpAnyH_take (i := 3) (v := ?_) rfl (by kernel_rfl) (by kernel_rfl) (by kernel_rfl) (fun _ _ _ h => h) (Or.inl ⟨by rfl, ?_⟩) hS0 ?_
      rotate_left
      · (intro w hSw; (try dsimp only at hSw); go_simp; try with_reducible rfl)
      simp only [List.getElem_toArray, List.getElem_cons_zero, List.getElem_cons_succ, Act.put, List.setIfInBounds_toArray, List.set_cons_zero, List.set_cons_succ]
      refine wpAnyH_ready (rs := [4]) (by kernel_rfl) (by simp) ?_
      refine AllReadyH.cons rfl (fun K hK => ?_) AllReadyH.nil
      go_simp
      with_reducible refine (hwd _).mono ?_
      rintro e v1 ⟨rfl, hq, hb1⟩
      have hBL1 := hBL0.trans (hb1.mono (by have := hBL0.size; omega))
      (try go_simp)
      refine hK.out _ _ ⟨((hb1.cell (cell_lt hS0.1)).trans hS0.1), (hS0.2.trans (Only.of hb1))⟩ (fun hS1 => ?_)
      clear hK K
      clear hb1 hS0
      simp only [List.getElem_toArray, List.getElem_cons_zero, List.getElem_cons_succ, Act.put, List.setIfInBounds_toArray, List.set_cons_zero, List.set_cons_succ]
      refine wpAnyH_ready (rs := [5]) (by kernel_rfl) (by simp) ?_
      refine AllReadyH.cons rfl (fun K hK => ?_) AllReadyH.nil
      go_simp
      with_reducible refine (wbytes_calls 71 v0.heap.size b b wVce (by decide) 0 o1 l1 c1 F1 (txB n F ++ rwK wVdc 0 l0 F0 l0) v1 gk (HWGu.out.below hBL1) (by have := hBL1.size; omega) (by omega) hc1.1 hc1.2 (by have := HLu.out; omega) hF1 cf_word (fun W ho => HA.out.2.2.1.below (below_only (hub.trans (hBL1.mono hub.size)) ho hzb (fun g e => by have := hue g e; omega) (by have := hub.size; have := hBL1.size; omega)) (Nat.le_refl _)) (fun W t ho ht => head_word (by decide) v0.heap.size W 0 t (cell_only hq ho (fun e => e.elim (fun e => by have := hul.1; have := hBL0.size; omega) (fun e => by have := hul.2 _ e.symm; have := hBL0.size; omega))))).mono ?_
      rintro e v2 ⟨⟨vv, rfl⟩, gk2, q1, q2⟩
      (try go_simp)
      refine hK.out _ _ ⟨cell_only hS1.1 q2.1 (by rintro (e | e) <;> first | omega | (have := hue _ e.symm; have := hul.1; omega)), (Only.of hBL1).trans q2.1⟩ (fun hS2 => ?_)
      clear hK K hS1
      simp only [List.getElem_toArray, List.getElem_cons_zero, List.getElem_cons_succ, Act.put, List.setIfInBounds_toArray, List.set_cons_zero, List.set_cons_succ]
      refine wpAnyH_done (by kernel_rfl) ?_ _
      have kf := hS2.1
      have hso := hS2.2
      clear hS2
      have HST2 : Hid (WSt b none w6 gk2 v2) := HSTu.out.trans (WSt.head hBL1 q2)
      have HWG2 := hide q1
      have HLu2 : Hid ((txB n F ++ rwK wVdc 0 l0 F0 l0 ++ rwK wVce 0 l1 F1 l1).length ≤ 125000) := by have := HLu.out; unfold Hid; rw [List.length_append]; omega
      generalize v2 = wq at *
      clear q1 q2 hBL0 hBL1 hso kf hwd hul hue hus hub hq HSTu HWGu HLu gk
      obtain ⟨gk, rfl⟩ : ∃ x, x = gk2 := ⟨_, rfl⟩
      have HSTu := HST2
      have HWGu := HWG2
      have HLu := HLu2
      clear HST2 HWG2 HLu2
      go_wp2_with fail
      have g2 := rwK_len wPort 0 l2 F2 (by decide) l2
      have kf : wq.cell? ⟨w.heap.size, 3, none⟩ = some (.slice o2 l2 c2) := cell_only (HX6.out.cell 3) HSTu.out.1 (by rintro (e | e) <;> first | omega | cases e)
      have hwd : ∀ W, Calls Tryd.prog 44 #[.string ⟨#[112, 111, 114, 116]⟩] W fun e w' => e = .returned (.func (.func 71) #[] #[.pointer (some ⟨W.heap.size, 0, none⟩)]) ∧ w'.cell? ⟨W.heap.size, 0, none⟩ = some (vS wPort) ∧ Below W.heap.size W w' := fun W => word_calls wPort W
      have hul := HWGu.out.lt
      have hue := HSTu.out.ge
      have hus := HSTu.out.1.size
      have hub : Below w.heap.size w wq := WSt.below HB6.out HSTu.out hzb (fun g e => by cases e) (by omega)
      have hso : Only (fun k => k = b ∨ some k = gk) wq wq := Only.refl _ _
      have hBL0 : Below wq.heap.size wq wq.drew := Below.drew (Below.refl _ _)
      refine wp_region_held_drew (S := fun W => W.cell? ⟨w.heap.size, 3, none⟩ = some (.slice o2 l2 c2) ∧ Only (fun k => k = b ∨ some k = gk) wq W) (by kernel_rfl) ⟨(by first | exact kf.drew | exact kf | exact Below.drew kf), (by first | exact hso.drew | exact hso | exact Below.drew hso)⟩ (fun hS0 => ?_)
      clear kf hso
      change wpAnyH _ _ _ _ _ 6 #[false, false, false, false, false, false] _ _
      generalize wq.drew = v0 at *
      refine wpAnyH_take (i := 0) (v := ?_) rfl (by kernel_rfl) (by kernel_rfl) (by kernel_rfl) (fun _ _ _ h => h) (Or.inl ⟨by rfl, ?_⟩) hS0 ?_
      rotate_left
      · (intro w hSw; (try dsimp only at hSw); go_simp; try with_reducible rfl)
      simp only [List.getElem_toArray, List.getElem_cons_zero, List.getElem_cons_succ, Act.put, List.setIfInBounds_toArray, List.set_cons_zero, List.set_cons_succ]
      refine wpAnyH_take (i := 1) (v := ?_) rfl (by kernel_rfl) (by kernel_rfl) (by kernel_rfl) (fun _ _ _ h => h) (Or.inl ⟨by rfl, ?_⟩) hS0 ?_
      rotate_left
      · (intro w hSw; (try dsimp only at hSw); go_simp; try with_reducible rfl)
      simp only [List.getElem_toArray, List.getElem_cons_zero, List.getElem_cons_succ, Act.put, List.setIfInBounds_toArray, List.set_cons_zero, List.set_cons_succ]
      refine wpAnyH_take (i := 2) (v := ?_) rfl (by kernel_rfl) (by kernel_rfl) (by kernel_rfl) (fun _ _ _ h => h) (Or.inl ⟨by rfl, ?_⟩) hS0 ?_
      rotate_left
      · (intro w hSw; (try dsimp only at hSw); go_simp; try with_reducible rfl)
      simp only [List.getElem_toArray, List.getElem_cons_zero, List.getElem_cons_succ, Act.put, List.setIfInBounds_toArray, List.set_cons_zero, List.set_cons_succ]
      refine wpAnyH_take (i := 3) (v := ?_) rfl (by kernel_rfl) (by kernel_rfl) (by kernel_rfl) (fun _ _ _ h => h) (Or.inl ⟨by rfl, ?_⟩) hS0 ?_
      rotate_left
      · (intro w hSw; (try dsimp only at hSw); go_simp; try with_reducible rfl)
      simp only [List.getElem_toArray, List.getElem_cons_zero, List.getElem_cons_succ, Act.put, List.setIfInBounds_toArray, List.set_cons_zero, List.set_cons_succ]
      refine wpAnyH_ready (rs := [4]) (by kernel_rfl) (by simp) ?_
      refine AllReadyH.cons rfl (fun K hK => ?_) AllReadyH.nil
      go_simp
      with_reducible refine (hwd _).mono ?_
      rintro e v1 ⟨rfl, hq, hb1⟩
      have hBL1 := hBL0.trans (hb1.mono (by have := hBL0.size; omega))
      (try go_simp)
      refine hK.out _ _ ⟨((hb1.cell (cell_lt hS0.1)).trans hS0.1), (hS0.2.trans (Only.of hb1))⟩ (fun hS1 => ?_)
      clear hK K
      clear hb1 hS0
      simp only [List.getElem_toArray, List.getElem_cons_zero, List.getElem_cons_succ, Act.put, List.setIfInBounds_toArray, List.set_cons_zero, List.set_cons_succ]
      refine wpAnyH_ready (rs := [5]) (by kernel_rfl) (by simp) ?_
      refine AllReadyH.cons rfl (fun K hK => ?_) AllReadyH.nil
      go_simp
      with_reducible refine (wbytes_calls 71 v0.heap.size b b wPort (by decide) 0 o2 l2 c2 F2 (txB n F ++ rwK wVdc 0 l0 F0 l0 ++ rwK wVce 0 l1 F1 l1) v1 gk (HWGu.out.below hBL1) (by have := hBL1.size; omega) (by omega) hc2.1 hc2.2 (by have := HLu.out; omega) hF2 cf_word (fun W ho => HA.out.2.2.2.1.below (below_only (hub.trans (hBL1.mono hub.size)) ho hzb (fun g e => by have := hue g e; omega) (by have := hub.size; have := hBL1.size; omega)) (Nat.le_refl _)) (fun W t ho ht => head_word (by decide) v0.heap.size W 0 t (cell_only hq ho (fun e => e.elim (fun e => by have := hul.1; have := hBL0.size; omega) (fun e => by have := hul.2 _ e.symm; have := hBL0.size; omega))))).mono ?_
      rintro e v2 ⟨⟨vv, rfl⟩, gk2, q1, q2⟩
      (try go_simp)
      refine hK.out _ _ ⟨cell_only hS1.1 q2.1 (by rintro (e | e) <;> first | omega | (have := hue _ e.symm; have := hul.1; omega)), (Only.of hBL1).trans q2.1⟩ (fun hS2 => ?_)
      clear hK K hS1
      simp only [List.getElem_toArray, List.getElem_cons_zero, List.getElem_cons_succ, Act.put, List.setIfInBounds_toArray, List.set_cons_zero, List.set_cons_succ]
      refine wpAnyH_done (by kernel_rfl) ?_ _
      have kf := hS2.1
      have hso := hS2.2
      clear hS2
      have HST2 : Hid (WSt b none w6 gk2 v2) := HSTu.out.trans (WSt.head hBL1 q2)
      have HWG2 := hide q1
      have HLu2 : Hid ((txB n F ++ rwK wVdc 0 l0 F0 l0 ++ rwK wVce 0 l1 F1 l1 ++ rwK wPort 0 l2 F2 l2).length ≤ 130000) := by have := HLu.out; unfold Hid; rw [List.length_append]; omega
      generalize v2 = wp at *
      clear q1 q2 hBL0 hBL1 hso kf hwd hul hue hus hub hq HSTu HWGu HLu gk
      obtain ⟨gk, rfl⟩ : ∃ x, x = gk2 := ⟨_, rfl⟩
      have HSTu := HST2
      have HWGu := HWG2
      have HLu := HLu2
      clear HST2 HWG2 HLu2
      generalize hTC : txB n F ++ rwK wVdc 0 l0 F0 l0 ++ rwK wVce 0 l1 F1 l1 ++ rwK wPort 0 l2 F2 l2 = TC at *
      have HTC : Hid (txC n F l0 l1 l2 F0 F1 F2 = TC) := hTC
      clear hTC
      have k4 : wp.cell? ⟨w.heap.size, 4, none⟩ = some (.slice oe ne ce) := cell_only (HX6.out.cell 4) HSTu.out.1 (by rintro (e | e) <;> first | omega | cases e)
      go_wp2_with fail
      clear k4
      go_loopw [71] (fun v71 wr => ∃ (k : Nat) (gk2 : Option Nat), k ≤ ne ∧ v71 = .int .i64 (k : Int) ∧ Hid (WrG b b (TC ++ edsT St Ln Up k) wr gk2 ∧ WSt b none w6 gk2 wr)) (fun v71 _ => ne - (intOf v71).toNat)
      case atStart => exact ⟨0, gk, by omega, rfl, by simpa [edsT] using HWGu.out, HSTu.out⟩
      case round =>
        obtain ⟨k, gk2, hk, rfl, HI⟩ := hrel
        have HLk : Hid ((TC ++ edsT St Ln Up k).length ≤ 140000) := by
          have := edsT_long St Ln Up k
          have := HLu.out
          unfold Hid
          rw [List.length_append]
          omega
        have HWR : Hid (WrG b b (TC ++ edsT St Ln Up k) wr gk2) := HI.out.1
        have HST : Hid (WSt b none w6 gk2 wr) := HI.out.2
        have hbw : Below w.heap.size w wr := WSt.below HB6.out HST.out hzb (fun g e => by cases e) (by omega)
        have hws := HST.out.1.size
        rcases Nat.lt_or_ge k ne with hlt | hge
        · have hE := HA.out.2.2.2.2.below hbw (Nat.le_refl _)
          obtain ⟨be, off, rfl, hbb, hxx⟩ := hE k hlt
          have hr := edge_range hE hlt
          unfold edR at hr
          have k1 : (k : Int) < (ne : Int) := by omega
          have hdk := dec19 (St k) (hS k hlt)
          have hdkl := decL_len (St k)
          obtain ⟨DK, hDK⟩ : ∃ DK, decL (St k) = DK := ⟨_, rfl⟩
          rw [hDK] at hdk hdkl
          have HDK := hide hDK
          have hnl := nmF_len (Ln k)
          have hnk := nms_cell (Ln k) (hLn k hlt)
          obtain ⟨NK, hNK⟩ : ∃ NK, nmF (Ln k) = NK := ⟨_, rfl⟩
          rw [hNK] at hnl hnk
          have HNK := hide hNK
          have hl4 := hLn k hlt
          have hl4i : ((Ln k : Nat) : Int) < 4 := by omega
          clear hE hbb hxx hbw hDK hNK HI
          rcases Bool.eq_false_or_eq_true (Up k) with hU | hU
          · skip
            rw [hU] at hr
            have HED : Hid (edT St Ln Up k = rowT [wUp, DK, NK]) := by unfold Hid; rw [edT_row, hU, HDK.out, HNK.out]; rfl
            have hjl : (Lib.join [wUp, DK, NK] [32]).length ≤ 100 := by rw [Lib.join_cons]; simp [Lib.joinTail, wUp]; omega
            have HJL := hide hjl
            have HRT : Hid ((rowT [wUp, DK, NK]).length ≤ 101) := by unfold Hid rowT; rw [List.length_append]; simp; omega
            clear hU hjl
            have sR := setRow_new wr #[.int .i64 0, .int .u8 0, .bool false] #[.int .i64 (St k : Int), .int .u8 (Ln k : Int), .bool true] 31
            have hZ : Blk (wr.alloc (.cells #[.int .i64 0, .int .u8 0, .bool false] 31)) wr.heap.size 31 #[.int .i64 0, .int .u8 0, .bool false] := Blk.new _ _ _
            have hX5 : Blk (wr.alloc (.cells #[.int .i64 (St k : Int), .int .u8 (Ln k : Int), .bool true] 31)) wr.heap.size 31 #[.int .i64 (St k : Int), .int .u8 (Ln k : Int), .bool true] := Blk.new _ _ _
            have hk2 := hX5.cell 2
            go_wp2_with (first | (refine wpList_load_mid rfl 31 _ rfl be (off + k * 3) rfl [Value.int .i64 (St k : Int), Value.int .u8 (Ln k : Int), Value.bool true] _ hr Tryd.underlying31 rfl (by kernel_rfl) ?_) | (refine wpList_store_row rfl 31 _ _ rfl wr.heap.size #[.int .i64 (St k : Int), .int .u8 (Ln k : Int), .bool true] rfl rfl 31 _ hZ (by kernel_rfl) rfl (by kernel_rfl) ?_; rw [sR]))
            have hb5 : Below wr.heap.size wr (wr.alloc (.cells #[.int .i64 (St k : Int), .int .u8 (Ln k : Int), .bool true] 31)) := Bl.alloc (Below.refl _ _) _
            have x0 : (wr.alloc (.cells #[.int .i64 (St k : Int), .int .u8 (Ln k : Int), .bool true] 31)).cell? ⟨wr.heap.size, 0, none⟩ = some (.int .i64 (St k : Int)) := hX5.cell 0
            have x1 : (wr.alloc (.cells #[.int .i64 (St k : Int), .int .u8 (Ln k : Int), .bool true] 31)).cell? ⟨wr.heap.size, 1, none⟩ = some (.int .u8 (Ln k : Int)) := hX5.cell 1
            have hwr5 := HWR.out.below hb5
            have hst5 : WSt b none w6 gk2 _ := HST.out.low hb5
            have hl5 := HWR.out.lt
            have hl6 := hwr5.lt
            clear hr sR hZ hX5 hk2
            generalize wr.alloc (.cells #[.int .i64 (St k : Int), .int .u8 (Ln k : Int), .bool true] 31) = w5 at *
            generalize wr.heap.size = gx at *
            have hso : Only (fun k => k = b ∨ some k = gk2) w5 w5 := Only.refl _ _
            have hBL0 : Below w5.heap.size w5 w5.drew := Below.drew (Below.refl _ _)
            have hs5 := hst5.1.size
            have HWR5 := hide hwr5
            have HST5 := hide hst5
            clear hwr5 hst5 hb5
            refine wp_region_held_drew (S := fun W => W.cell? ⟨gx, 0, none⟩ = some (.int .i64 (St k : Int)) ∧ W.cell? ⟨gx, 1, none⟩ = some (.int .u8 (Ln k : Int)) ∧ Only (fun k => k = b ∨ some k = gk2) w5 W) (by kernel_rfl) ⟨(by first | exact x0.drew | exact x0 | exact Below.drew x0), (by first | exact x1.drew | exact x1 | exact Below.drew x1), (by first | exact hso.drew | exact hso | exact Below.drew hso)⟩ (fun hS0 => ?_)
            clear x0 x1 hso
            change wpAnyH _ _ _ _ _ 15 #[false, false, false, false, false, false, false, false, false, false, false, false, false, false, false] _ _
            generalize w5.drew = v0 at *
            refine wpAnyH_take (i := 0) (v := ?_) rfl (by kernel_rfl) (by kernel_rfl) (by kernel_rfl) (fun _ _ _ h => h) (Or.inl ⟨by rfl, ?_⟩) hS0 ?_
            rotate_left
            · (intro w hSw; (try dsimp only at hSw); go_simp; try with_reducible rfl)
            simp only [List.getElem_toArray, List.getElem_cons_zero, List.getElem_cons_succ, Act.put, List.setIfInBounds_toArray, List.set_cons_zero, List.set_cons_succ]
            refine wpAnyH_take (i := 1) (v := ?_) rfl (by kernel_rfl) (by kernel_rfl) (by kernel_rfl) (fun _ _ _ h => h) (Or.inl ⟨by rfl, ?_⟩) hS0 ?_
            rotate_left
            · (intro w hSw; (try dsimp only at hSw); go_simp; try with_reducible rfl)
            simp only [List.getElem_toArray, List.getElem_cons_zero, List.getElem_cons_succ, Act.put, List.setIfInBounds_toArray, List.set_cons_zero, List.set_cons_succ]
            refine wpAnyH_take (i := 2) (v := ?_) rfl (by kernel_rfl) (by kernel_rfl) (by kernel_rfl) (fun _ _ _ h => h) (Or.inl ⟨by rfl, ?_⟩) hS0 ?_
            rotate_left
            · (intro w hSw; (try dsimp only at hSw); go_simp; try with_reducible rfl)
            simp only [List.getElem_toArray, List.getElem_cons_zero, List.getElem_cons_succ, Act.put, List.setIfInBounds_toArray, List.set_cons_zero, List.set_cons_succ]
            refine wpAnyH_take (i := 3) (v := ?_) rfl (by kernel_rfl) (by kernel_rfl) (by kernel_rfl) (fun _ _ _ h => h) (Or.inl ⟨by rfl, ?_⟩) hS0 ?_
            rotate_left
            · (intro w hSw; (try dsimp only at hSw); go_simp; try with_reducible rfl)
            simp only [List.getElem_toArray, List.getElem_cons_zero, List.getElem_cons_succ, Act.put, List.setIfInBounds_toArray, List.set_cons_zero, List.set_cons_succ]
            refine wpAnyH_take (i := 4) (v := ?_) rfl (by kernel_rfl) (by kernel_rfl) (by kernel_rfl) (fun _ _ _ h => h) (Or.inl ⟨by rfl, ?_⟩) hS0 ?_
            rotate_left
            · (intro w hSw; (try dsimp only at hSw); go_simp; try with_reducible rfl)
            simp only [List.getElem_toArray, List.getElem_cons_zero, List.getElem_cons_succ, Act.put, List.setIfInBounds_toArray, List.set_cons_zero, List.set_cons_succ]
            refine wpAnyH_take (i := 5) (v := ?_) rfl (by kernel_rfl) (by kernel_rfl) (by kernel_rfl) (fun _ _ _ h => h) (Or.inl ⟨by rfl, ?_⟩) hS0 ?_
            rotate_left
            · (intro w hSw; (try dsimp only at hSw); go_simp; try with_reducible rfl)
            simp only [List.getElem_toArray, List.getElem_cons_zero, List.getElem_cons_succ, Act.put, List.setIfInBounds_toArray, List.set_cons_zero, List.set_cons_succ]
            refine wpAnyH_take (i := 8) (v := ?_) rfl (by kernel_rfl) (by kernel_rfl) (by kernel_rfl) (fun _ _ _ h => h) (Or.inl ⟨by rfl, ?_⟩) hS0 ?_
            rotate_left
            · (intro w hSw; (try dsimp only at hSw); go_simp; try with_reducible rfl)
            simp only [List.getElem_toArray, List.getElem_cons_zero, List.getElem_cons_succ, Act.put, List.setIfInBounds_toArray, List.set_cons_zero, List.set_cons_succ]
            refine wpAnyH_take (i := 9) (v := ?_) rfl (by kernel_rfl) (by kernel_rfl) (by kernel_rfl) (fun _ _ _ h => h) (Or.inl ⟨by rfl, ?_⟩) hS0 ?_
            rotate_left
            · (intro w hSw; (try dsimp only at hSw); go_simp; try with_reducible rfl)
            simp only [List.getElem_toArray, List.getElem_cons_zero, List.getElem_cons_succ, Act.put, List.setIfInBounds_toArray, List.set_cons_zero, List.set_cons_succ]
            refine wpAnyH_ready (rs := [6]) (by kernel_rfl) (by simp) ?_
            refine AllReadyH.cons rfl (fun K hK => ?_) AllReadyH.nil
            go_simp
            with_reducible refine (hdk _).mono ?_
            rintro e v1 ⟨rfl, hb1⟩
            have hBL1 := hBL0.trans (hb1.mono (by have := hBL0.size; omega))
            (try go_simp)
            refine hK.out _ _ ⟨((hb1.cell (cell_lt hS0.1)).trans hS0.1), ((hb1.cell (cell_lt hS0.2.1)).trans hS0.2.1), (hS0.2.2.trans (Only.of hb1))⟩ (fun hS1 => ?_)
            clear hK K
            clear hb1 hS0
            simp only [List.getElem_toArray, List.getElem_cons_zero, List.getElem_cons_succ, Act.put, List.setIfInBounds_toArray, List.set_cons_zero, List.set_cons_succ]
            refine wpAnyH_ready (rs := [7]) (by kernel_rfl) (by simp) ?_
            refine AllReadyH.cons rfl (fun K hK => ?_) AllReadyH.nil
            go_simp
            with_reducible refine (names_calls _).mono ?_
            rintro e v2 ⟨gn, rfl, hbk, hb2⟩
            have hBL2 := hBL1.trans (hb2.mono (by have := hBL1.size; omega))
            have hnn := (HWR5.out.below hBL2).ne_str hbk
            (try go_simp)
            refine hK.out _ _ ⟨((hb2.cell (cell_lt hS1.1)).trans hS1.1), ((hb2.cell (cell_lt hS1.2.1)).trans hS1.2.1), (hS1.2.2.trans (Only.of hb2))⟩ (fun hS2 => ?_)
            clear hK K
            have hT : v2.cell? ⟨gx, 0, none⟩ = some (.int .i64 (St k : Int)) ∧ v2.cell? ⟨gx, 1, none⟩ = some (.int .u8 (Ln k : Int)) ∧ Only (fun k => k = b ∨ some k = gk2) w5 v2 ∧ v2.cell? ⟨gn, Ln k, none⟩ = some (.string ⟨NK.toArray⟩) := ⟨hS2.1, hS2.2.1, hS2.2.2, (hbk.cell (Ln k)).trans hnk⟩
            refine wpAnyH_mono (S' := fun W => W.cell? ⟨gx, 0, none⟩ = some (.int .i64 (St k : Int)) ∧ W.cell? ⟨gx, 1, none⟩ = some (.int .u8 (Ln k : Int)) ∧ Only (fun k => k = b ∨ some k = gk2) w5 W ∧ W.cell? ⟨gn, Ln k, none⟩ = some (.string ⟨NK.toArray⟩)) (fun _ h => ⟨h.1, h.2.1, h.2.2.1⟩) ?_
            clear hS2
            have hS2 := hT
            clear hT
            clear hb2 hS1
            simp only [List.getElem_toArray, List.getElem_cons_zero, List.getElem_cons_succ, Act.put, List.setIfInBounds_toArray, List.set_cons_zero, List.set_cons_succ]
            refine wpAnyH_take (i := 10) (v := ?_) rfl (by kernel_rfl) (by kernel_rfl) (by kernel_rfl) (fun _ _ _ h => h) (Or.inl ⟨by rfl, ?_⟩) hS2 ?_
            rotate_left
            · (intro w hSw; (try dsimp only at hSw); go_simp; try with_reducible rfl)
            simp only [List.getElem_toArray, List.getElem_cons_zero, List.getElem_cons_succ, Act.put, List.setIfInBounds_toArray, List.set_cons_zero, List.set_cons_succ]
            refine wpAnyH_take (i := 11) (v := ?_) rfl (by kernel_rfl) (by kernel_rfl) (by kernel_rfl) (fun _ _ _ h => h) (Or.inl ⟨by rfl, ?_⟩) hS2 ?_
            rotate_left
            · (intro w hSw; (try dsimp only at hSw); go_simp; try with_reducible rfl)
            simp only [List.getElem_toArray, List.getElem_cons_zero, List.getElem_cons_succ, Act.put, List.setIfInBounds_toArray, List.set_cons_zero, List.set_cons_succ]
            refine wpAnyH_ready (rs := [12]) (by kernel_rfl) (by simp) ?_
            refine AllReadyH.cons rfl (fun K hK => ?_) AllReadyH.nil
            go_simp
            have hb3 : Below v2.heap.size v2 (v2.alloc (.cells #[.string ⟨#[117, 112]⟩, .string ⟨DK.toArray⟩, .string ⟨NK.toArray⟩] 9)) := Bl.alloc (Below.refl _ _) _
            refine hK.out _ _ ⟨((hb3.cell (cell_lt hS2.1)).trans hS2.1), ((hb3.cell (cell_lt hS2.2.1)).trans hS2.2.1), (hS2.2.2.1.trans (Only.of hb3)), ((hb3.cell (cell_lt hS2.2.2.2)).trans hS2.2.2.2)⟩ (fun hS3 => ?_)
            clear hK K
            have hgs_3 : Blk (v2.alloc (.cells #[.string ⟨#[117, 112]⟩, .string ⟨DK.toArray⟩, .string ⟨NK.toArray⟩] 9)) v2.heap.size 9 #[.string ⟨#[117, 112]⟩, .string ⟨DK.toArray⟩, .string ⟨NK.toArray⟩] := Blk.new _ _ _
            have hBL3 : Below w5.heap.size w5 (v2.alloc (.cells #[.string ⟨#[117, 112]⟩, .string ⟨DK.toArray⟩, .string ⟨NK.toArray⟩] 9)) := Bl.alloc hBL2 _
            have hrow : Calls Tryd.prog 38 #[.slice (some ⟨v2.heap.size, 0, none⟩) 3 3] (v2.alloc (.cells #[.string ⟨#[117, 112]⟩, .string ⟨DK.toArray⟩, .string ⟨NK.toArray⟩] 9)) fun e w' => e = .returned (.string ⟨(rowT [wUp, DK, NK]).toArray⟩) ∧ Below (v2.alloc (.cells #[.string ⟨#[117, 112]⟩, .string ⟨DK.toArray⟩, .string ⟨NK.toArray⟩] 9)).heap.size (v2.alloc (.cells #[.string ⟨#[117, 112]⟩, .string ⟨DK.toArray⟩, .string ⟨NK.toArray⟩] 9)) w' := row_new v2 [wUp, DK, NK] (by simp) (by have := HJL.out; omega)
            clear hb3 hS2
            generalize v2.alloc (.cells #[.string ⟨#[117, 112]⟩, .string ⟨DK.toArray⟩, .string ⟨NK.toArray⟩] 9) = v3 at *
            generalize v2.heap.size = gs at *
            simp only [List.getElem_toArray, List.getElem_cons_zero, List.getElem_cons_succ, Act.put, List.setIfInBounds_toArray, List.set_cons_zero, List.set_cons_succ]
            refine wpAnyH_ready (rs := [13]) (by kernel_rfl) (by simp) ?_
            refine AllReadyH.cons rfl (fun K hK => ?_) AllReadyH.nil
            go_simp
            with_reducible refine (hrow).mono ?_
            rintro e v4 ⟨rfl, hb4⟩
            have hBL4 := hBL3.trans (hb4.mono (by have := hBL3.size; omega))
            (try go_simp)
            refine hK.out _ _ ⟨((hb4.cell (cell_lt hS3.1)).trans hS3.1), ((hb4.cell (cell_lt hS3.2.1)).trans hS3.2.1), (hS3.2.2.1.trans (Only.of hb4)), ((hb4.cell (cell_lt hS3.2.2.2)).trans hS3.2.2.2)⟩ (fun hS4 => ?_)
            clear hK K
            have hgs_4 := hgs_3.below hb4 hgs_3.lt
            clear hb4 hS3
            simp only [List.getElem_toArray, List.getElem_cons_zero, List.getElem_cons_succ, Act.put, List.setIfInBounds_toArray, List.set_cons_zero, List.set_cons_succ]
            refine wpAnyH_ready (rs := [14]) (by kernel_rfl) (by simp) ?_
            refine AllReadyH.cons rfl (fun K hK => ?_) AllReadyH.nil
            go_simp
            with_reducible refine (wWriteG b b _ _ _ gk2 (HWR5.out.below hBL4) (by have := HRT.out; have := HLk.out; omega) (by have := hBL4.size; omega)).mono ?_
            rintro e v5 ⟨⟨vv, rfl⟩, gk3, q1, q2⟩
            (try go_simp)
            refine hK.out _ _ ⟨cell_only hS4.1 q2.1 (fun e => e.elim (fun e => by omega) (fun e => by have := hl5.2 _ e.symm; omega)), cell_only hS4.2.1 q2.1 (fun e => e.elim (fun e => by omega) (fun e => by have := hl5.2 _ e.symm; omega)), (Only.of hBL4).trans q2.1, cell_only hS4.2.2.2 q2.1 (fun e => e.elim hnn.1 (fun e => hnn.2 e.symm))⟩ (fun hS5 => ?_)
            clear hK K hS4
            simp only [List.getElem_toArray, List.getElem_cons_zero, List.getElem_cons_succ, Act.put, List.setIfInBounds_toArray, List.set_cons_zero, List.set_cons_succ]
            refine wpAnyH_done (by kernel_rfl) ?_ _
            have x0 := hS5.1
            have x1 := hS5.2.1
            have hso := hS5.2.2.1
            have z5 := hS5.2.2.2
            clear hS5
            go_wp2_with fail
            have hbl4 := hBL4
            refine ⟨⟨k + 1, gk3, by omega, by go_num, by rw [edsT_snoc, HED.out, ← List.append_assoc]; exact q1, HST5.out.trans (WSt.head hbl4 q2)⟩, ?_⟩
            simp [intOf] <;> omega
          · skip
            rw [hU] at hr
            have HED : Hid (edT St Ln Up k = rowT [wDown, DK, NK]) := by unfold Hid; rw [edT_row, hU, HDK.out, HNK.out]; rfl
            have hjl : (Lib.join [wDown, DK, NK] [32]).length ≤ 100 := by rw [Lib.join_cons]; simp [Lib.joinTail, wDown]; omega
            have HJL := hide hjl
            have HRT : Hid ((rowT [wDown, DK, NK]).length ≤ 101) := by unfold Hid rowT; rw [List.length_append]; simp; omega
            clear hU hjl
            have sR := setRow_new wr #[.int .i64 0, .int .u8 0, .bool false] #[.int .i64 (St k : Int), .int .u8 (Ln k : Int), .bool false] 31
            have hZ : Blk (wr.alloc (.cells #[.int .i64 0, .int .u8 0, .bool false] 31)) wr.heap.size 31 #[.int .i64 0, .int .u8 0, .bool false] := Blk.new _ _ _
            have hX5 : Blk (wr.alloc (.cells #[.int .i64 (St k : Int), .int .u8 (Ln k : Int), .bool false] 31)) wr.heap.size 31 #[.int .i64 (St k : Int), .int .u8 (Ln k : Int), .bool false] := Blk.new _ _ _
            have hk2 := hX5.cell 2
            go_wp2_with (first | (refine wpList_load_mid rfl 31 _ rfl be (off + k * 3) rfl [Value.int .i64 (St k : Int), Value.int .u8 (Ln k : Int), Value.bool false] _ hr Tryd.underlying31 rfl (by kernel_rfl) ?_) | (refine wpList_store_row rfl 31 _ _ rfl wr.heap.size #[.int .i64 (St k : Int), .int .u8 (Ln k : Int), .bool false] rfl rfl 31 _ hZ (by kernel_rfl) rfl (by kernel_rfl) ?_; rw [sR]))
            have hb5 : Below wr.heap.size wr (wr.alloc (.cells #[.int .i64 (St k : Int), .int .u8 (Ln k : Int), .bool false] 31)) := Bl.alloc (Below.refl _ _) _
            have x0 : (wr.alloc (.cells #[.int .i64 (St k : Int), .int .u8 (Ln k : Int), .bool false] 31)).cell? ⟨wr.heap.size, 0, none⟩ = some (.int .i64 (St k : Int)) := hX5.cell 0
            have x1 : (wr.alloc (.cells #[.int .i64 (St k : Int), .int .u8 (Ln k : Int), .bool false] 31)).cell? ⟨wr.heap.size, 1, none⟩ = some (.int .u8 (Ln k : Int)) := hX5.cell 1
            have hwr5 := HWR.out.below hb5
            have hst5 : WSt b none w6 gk2 _ := HST.out.low hb5
            have hl5 := HWR.out.lt
            have hl6 := hwr5.lt
            clear hr sR hZ hX5 hk2
            generalize wr.alloc (.cells #[.int .i64 (St k : Int), .int .u8 (Ln k : Int), .bool false] 31) = w5 at *
            generalize wr.heap.size = gx at *
            have hso : Only (fun k => k = b ∨ some k = gk2) w5 w5 := Only.refl _ _
            have hBL0 : Below w5.heap.size w5 w5.drew := Below.drew (Below.refl _ _)
            have hs5 := hst5.1.size
            have HWR5 := hide hwr5
            have HST5 := hide hst5
            clear hwr5 hst5 hb5
            refine wp_region_held_drew (S := fun W => W.cell? ⟨gx, 0, none⟩ = some (.int .i64 (St k : Int)) ∧ W.cell? ⟨gx, 1, none⟩ = some (.int .u8 (Ln k : Int)) ∧ Only (fun k => k = b ∨ some k = gk2) w5 W) (by kernel_rfl) ⟨(by first | exact x0.drew | exact x0 | exact Below.drew x0), (by first | exact x1.drew | exact x1 | exact Below.drew x1), (by first | exact hso.drew | exact hso | exact Below.drew hso)⟩ (fun hS0 => ?_)
            clear x0 x1 hso
            change wpAnyH _ _ _ _ _ 15 #[false, false, false, false, false, false, false, false, false, false, false, false, false, false, false] _ _
            generalize w5.drew = v0 at *
            refine wpAnyH_take (i := 0) (v := ?_) rfl (by kernel_rfl) (by kernel_rfl) (by kernel_rfl) (fun _ _ _ h => h) (Or.inl ⟨by rfl, ?_⟩) hS0 ?_
            rotate_left
            · (intro w hSw; (try dsimp only at hSw); go_simp; try with_reducible rfl)
            simp only [List.getElem_toArray, List.getElem_cons_zero, List.getElem_cons_succ, Act.put, List.setIfInBounds_toArray, List.set_cons_zero, List.set_cons_succ]
            refine wpAnyH_take (i := 1) (v := ?_) rfl (by kernel_rfl) (by kernel_rfl) (by kernel_rfl) (fun _ _ _ h => h) (Or.inl ⟨by rfl, ?_⟩) hS0 ?_
            rotate_left
            · (intro w hSw; (try dsimp only at hSw); go_simp; try with_reducible rfl)
            simp only [List.getElem_toArray, List.getElem_cons_zero, List.getElem_cons_succ, Act.put, List.setIfInBounds_toArray, List.set_cons_zero, List.set_cons_succ]
            refine wpAnyH_take (i := 2) (v := ?_) rfl (by kernel_rfl) (by kernel_rfl) (by kernel_rfl) (fun _ _ _ h => h) (Or.inl ⟨by rfl, ?_⟩) hS0 ?_
            rotate_left
            · (intro w hSw; (try dsimp only at hSw); go_simp; try with_reducible rfl)
            simp only [List.getElem_toArray, List.getElem_cons_zero, List.getElem_cons_succ, Act.put, List.setIfInBounds_toArray, List.set_cons_zero, List.set_cons_succ]
            refine wpAnyH_take (i := 3) (v := ?_) rfl (by kernel_rfl) (by kernel_rfl) (by kernel_rfl) (fun _ _ _ h => h) (Or.inl ⟨by rfl, ?_⟩) hS0 ?_
            rotate_left
            · (intro w hSw; (try dsimp only at hSw); go_simp; try with_reducible rfl)
            simp only [List.getElem_toArray, List.getElem_cons_zero, List.getElem_cons_succ, Act.put, List.setIfInBounds_toArray, List.set_cons_zero, List.set_cons_succ]
            refine wpAnyH_take (i := 4) (v := ?_) rfl (by kernel_rfl) (by kernel_rfl) (by kernel_rfl) (fun _ _ _ h => h) (Or.inl ⟨by rfl, ?_⟩) hS0 ?_
            rotate_left
            · (intro w hSw; (try dsimp only at hSw); go_simp; try with_reducible rfl)
            simp only [List.getElem_toArray, List.getElem_cons_zero, List.getElem_cons_succ, Act.put, List.setIfInBounds_toArray, List.set_cons_zero, List.set_cons_succ]
            refine wpAnyH_take (i := 5) (v := ?_) rfl (by kernel_rfl) (by kernel_rfl) (by kernel_rfl) (fun _ _ _ h => h) (Or.inl ⟨by rfl, ?_⟩) hS0 ?_
            rotate_left
            · (intro w hSw; (try dsimp only at hSw); go_simp; try with_reducible rfl)
            simp only [List.getElem_toArray, List.getElem_cons_zero, List.getElem_cons_succ, Act.put, List.setIfInBounds_toArray, List.set_cons_zero, List.set_cons_succ]
            refine wpAnyH_take (i := 8) (v := ?_) rfl (by kernel_rfl) (by kernel_rfl) (by kernel_rfl) (fun _ _ _ h => h) (Or.inl ⟨by rfl, ?_⟩) hS0 ?_
            rotate_left
            · (intro w hSw; (try dsimp only at hSw); go_simp; try with_reducible rfl)
            simp only [List.getElem_toArray, List.getElem_cons_zero, List.getElem_cons_succ, Act.put, List.setIfInBounds_toArray, List.set_cons_zero, List.set_cons_succ]
            refine wpAnyH_take (i := 9) (v := ?_) rfl (by kernel_rfl) (by kernel_rfl) (by kernel_rfl) (fun _ _ _ h => h) (Or.inl ⟨by rfl, ?_⟩) hS0 ?_
            rotate_left
            · (intro w hSw; (try dsimp only at hSw); go_simp; try with_reducible rfl)
            simp only [List.getElem_toArray, List.getElem_cons_zero, List.getElem_cons_succ, Act.put, List.setIfInBounds_toArray, List.set_cons_zero, List.set_cons_succ]
            refine wpAnyH_ready (rs := [6]) (by kernel_rfl) (by simp) ?_
            refine AllReadyH.cons rfl (fun K hK => ?_) AllReadyH.nil
            go_simp
            with_reducible refine (hdk _).mono ?_
            rintro e v1 ⟨rfl, hb1⟩
            have hBL1 := hBL0.trans (hb1.mono (by have := hBL0.size; omega))
            (try go_simp)
            refine hK.out _ _ ⟨((hb1.cell (cell_lt hS0.1)).trans hS0.1), ((hb1.cell (cell_lt hS0.2.1)).trans hS0.2.1), (hS0.2.2.trans (Only.of hb1))⟩ (fun hS1 => ?_)
            clear hK K
            clear hb1 hS0
            simp only [List.getElem_toArray, List.getElem_cons_zero, List.getElem_cons_succ, Act.put, List.setIfInBounds_toArray, List.set_cons_zero, List.set_cons_succ]
            refine wpAnyH_ready (rs := [7]) (by kernel_rfl) (by simp) ?_
            refine AllReadyH.cons rfl (fun K hK => ?_) AllReadyH.nil
            go_simp
            with_reducible refine (names_calls _).mono ?_
            rintro e v2 ⟨gn, rfl, hbk, hb2⟩
            have hBL2 := hBL1.trans (hb2.mono (by have := hBL1.size; omega))
            have hnn := (HWR5.out.below hBL2).ne_str hbk
            (try go_simp)
            refine hK.out _ _ ⟨((hb2.cell (cell_lt hS1.1)).trans hS1.1), ((hb2.cell (cell_lt hS1.2.1)).trans hS1.2.1), (hS1.2.2.trans (Only.of hb2))⟩ (fun hS2 => ?_)
            clear hK K
            have hT : v2.cell? ⟨gx, 0, none⟩ = some (.int .i64 (St k : Int)) ∧ v2.cell? ⟨gx, 1, none⟩ = some (.int .u8 (Ln k : Int)) ∧ Only (fun k => k = b ∨ some k = gk2) w5 v2 ∧ v2.cell? ⟨gn, Ln k, none⟩ = some (.string ⟨NK.toArray⟩) := ⟨hS2.1, hS2.2.1, hS2.2.2, (hbk.cell (Ln k)).trans hnk⟩
            refine wpAnyH_mono (S' := fun W => W.cell? ⟨gx, 0, none⟩ = some (.int .i64 (St k : Int)) ∧ W.cell? ⟨gx, 1, none⟩ = some (.int .u8 (Ln k : Int)) ∧ Only (fun k => k = b ∨ some k = gk2) w5 W ∧ W.cell? ⟨gn, Ln k, none⟩ = some (.string ⟨NK.toArray⟩)) (fun _ h => ⟨h.1, h.2.1, h.2.2.1⟩) ?_
            clear hS2
            have hS2 := hT
            clear hT
            clear hb2 hS1
            simp only [List.getElem_toArray, List.getElem_cons_zero, List.getElem_cons_succ, Act.put, List.setIfInBounds_toArray, List.set_cons_zero, List.set_cons_succ]
            refine wpAnyH_take (i := 10) (v := ?_) rfl (by kernel_rfl) (by kernel_rfl) (by kernel_rfl) (fun _ _ _ h => h) (Or.inl ⟨by rfl, ?_⟩) hS2 ?_
            rotate_left
            · (intro w hSw; (try dsimp only at hSw); go_simp; try with_reducible rfl)
            simp only [List.getElem_toArray, List.getElem_cons_zero, List.getElem_cons_succ, Act.put, List.setIfInBounds_toArray, List.set_cons_zero, List.set_cons_succ]
            refine wpAnyH_take (i := 11) (v := ?_) rfl (by kernel_rfl) (by kernel_rfl) (by kernel_rfl) (fun _ _ _ h => h) (Or.inl ⟨by rfl, ?_⟩) hS2 ?_
            rotate_left
            · (intro w hSw; (try dsimp only at hSw); go_simp; try with_reducible rfl)
            simp only [List.getElem_toArray, List.getElem_cons_zero, List.getElem_cons_succ, Act.put, List.setIfInBounds_toArray, List.set_cons_zero, List.set_cons_succ]
            refine wpAnyH_ready (rs := [12]) (by kernel_rfl) (by simp) ?_
            refine AllReadyH.cons rfl (fun K hK => ?_) AllReadyH.nil
            go_simp
            have hb3 : Below v2.heap.size v2 (v2.alloc (.cells #[.string ⟨#[100, 111, 119, 110]⟩, .string ⟨DK.toArray⟩, .string ⟨NK.toArray⟩] 9)) := Bl.alloc (Below.refl _ _) _
            refine hK.out _ _ ⟨((hb3.cell (cell_lt hS2.1)).trans hS2.1), ((hb3.cell (cell_lt hS2.2.1)).trans hS2.2.1), (hS2.2.2.1.trans (Only.of hb3)), ((hb3.cell (cell_lt hS2.2.2.2)).trans hS2.2.2.2)⟩ (fun hS3 => ?_)
            clear hK K
            have hgs_3 : Blk (v2.alloc (.cells #[.string ⟨#[100, 111, 119, 110]⟩, .string ⟨DK.toArray⟩, .string ⟨NK.toArray⟩] 9)) v2.heap.size 9 #[.string ⟨#[100, 111, 119, 110]⟩, .string ⟨DK.toArray⟩, .string ⟨NK.toArray⟩] := Blk.new _ _ _
            have hBL3 : Below w5.heap.size w5 (v2.alloc (.cells #[.string ⟨#[100, 111, 119, 110]⟩, .string ⟨DK.toArray⟩, .string ⟨NK.toArray⟩] 9)) := Bl.alloc hBL2 _
            have hrow : Calls Tryd.prog 38 #[.slice (some ⟨v2.heap.size, 0, none⟩) 3 3] (v2.alloc (.cells #[.string ⟨#[100, 111, 119, 110]⟩, .string ⟨DK.toArray⟩, .string ⟨NK.toArray⟩] 9)) fun e w' => e = .returned (.string ⟨(rowT [wDown, DK, NK]).toArray⟩) ∧ Below (v2.alloc (.cells #[.string ⟨#[100, 111, 119, 110]⟩, .string ⟨DK.toArray⟩, .string ⟨NK.toArray⟩] 9)).heap.size (v2.alloc (.cells #[.string ⟨#[100, 111, 119, 110]⟩, .string ⟨DK.toArray⟩, .string ⟨NK.toArray⟩] 9)) w' := row_new v2 [wDown, DK, NK] (by simp) (by have := HJL.out; omega)
            clear hb3 hS2
            generalize v2.alloc (.cells #[.string ⟨#[100, 111, 119, 110]⟩, .string ⟨DK.toArray⟩, .string ⟨NK.toArray⟩] 9) = v3 at *
            generalize v2.heap.size = gs at *
            simp only [List.getElem_toArray, List.getElem_cons_zero, List.getElem_cons_succ, Act.put, List.setIfInBounds_toArray, List.set_cons_zero, List.set_cons_succ]
            refine wpAnyH_ready (rs := [13]) (by kernel_rfl) (by simp) ?_
            refine AllReadyH.cons rfl (fun K hK => ?_) AllReadyH.nil
            go_simp
            with_reducible refine (hrow).mono ?_
            rintro e v4 ⟨rfl, hb4⟩
            have hBL4 := hBL3.trans (hb4.mono (by have := hBL3.size; omega))
            (try go_simp)
            refine hK.out _ _ ⟨((hb4.cell (cell_lt hS3.1)).trans hS3.1), ((hb4.cell (cell_lt hS3.2.1)).trans hS3.2.1), (hS3.2.2.1.trans (Only.of hb4)), ((hb4.cell (cell_lt hS3.2.2.2)).trans hS3.2.2.2)⟩ (fun hS4 => ?_)
            clear hK K
            have hgs_4 := hgs_3.below hb4 hgs_3.lt
            clear hb4 hS3
            simp only [List.getElem_toArray, List.getElem_cons_zero, List.getElem_cons_succ, Act.put, List.setIfInBounds_toArray, List.set_cons_zero, List.set_cons_succ]
            refine wpAnyH_ready (rs := [14]) (by kernel_rfl) (by simp) ?_
            refine AllReadyH.cons rfl (fun K hK => ?_) AllReadyH.nil
            go_simp
            with_reducible refine (wWriteG b b _ _ _ gk2 (HWR5.out.below hBL4) (by have := HRT.out; have := HLk.out; omega) (by have := hBL4.size; omega)).mono ?_
            rintro e v5 ⟨⟨vv, rfl⟩, gk3, q1, q2⟩
            (try go_simp)
            refine hK.out _ _ ⟨cell_only hS4.1 q2.1 (fun e => e.elim (fun e => by omega) (fun e => by have := hl5.2 _ e.symm; omega)), cell_only hS4.2.1 q2.1 (fun e => e.elim (fun e => by omega) (fun e => by have := hl5.2 _ e.symm; omega)), (Only.of hBL4).trans q2.1, cell_only hS4.2.2.2 q2.1 (fun e => e.elim hnn.1 (fun e => hnn.2 e.symm))⟩ (fun hS5 => ?_)
            clear hK K hS4
            simp only [List.getElem_toArray, List.getElem_cons_zero, List.getElem_cons_succ, Act.put, List.setIfInBounds_toArray, List.set_cons_zero, List.set_cons_succ]
            refine wpAnyH_done (by kernel_rfl) ?_ _
            have x0 := hS5.1
            have x1 := hS5.2.1
            have hso := hS5.2.2.1
            have z5 := hS5.2.2.2
            clear hS5
            go_wp2_with fail
            have hbl4 := hBL4
            refine ⟨⟨k + 1, gk3, by omega, by go_num, by rw [edsT_snoc, HED.out, ← List.append_assoc]; exact q1, HST5.out.trans (WSt.head hbl4 q2)⟩, ?_⟩
            simp [intOf] <;> omega
        · obtain rfl : k = ne := by omega
          have k5 : wr.cell? ⟨w.heap.size, 5, none⟩ = some (.int .i64 (bud : Int)) := cell_only (HX6.out.cell 5) HST.out.1 (by rintro (e | e) <;> first | omega | cases e)
          have hdk := dec19 bud hb63
          have hdkl := decL_len bud
          have HFT : Hid (txT n F l0 l1 l2 F0 F1 F2 k St Ln Up bud = (TC ++ edsT St Ln Up k) ++ rowT [wBudget, decL bud]) := by
            unfold Hid txT rowT
            rw [HTC.out, Lib.join_cons]
            simp [Lib.joinTail]
          generalize decL bud = DK at *
          have hjl : (Lib.join [wBudget, DK] [32]).length ≤ 100 := by rw [Lib.join_cons]; simp [Lib.joinTail, wBudget]; omega
          have HJL := hide hjl
          have HRT : Hid ((rowT [wBudget, DK]).length ≤ 101) := by unfold Hid rowT; rw [List.length_append]; simp; omega
          have hLT : ((TC ++ edsT St Ln Up k) ++ rowT [wBudget, DK]).length ≤ 140200 := by rw [List.length_append]; have := HRT.out; have := HLk.out; omega
          have hne0 : ((TC ++ edsT St Ln Up k) ++ rowT [wBudget, DK]) ≠ [] := by simp [rowT]
          have HLT := hide hLT
          have HNE := hide hne0
          have hl5 := HWR.out.lt
          have hue := HST.out.ge
          have hso : Only (fun k => k = b ∨ some k = gk2) wr wr := Only.refl _ _
          have hBL0 : Below wr.heap.size wr wr.drew := Below.drew (Below.refl _ _)
          have k2 : (decide ((k : Int) < (k : Int))) = false := decide_eq_false (by omega)
          clear hjl hLT hne0 HI hbw
          go_wp2_with fail
          clear k2
          refine wp_region_held_drew (S := fun W => W.cell? ⟨w.heap.size, 5, none⟩ = some (.int .i64 (bud : Int)) ∧ Only (fun k => k = b ∨ some k = gk2) wr W) (by kernel_rfl) ⟨(by first | exact k5.drew | exact k5 | exact Below.drew k5), (by first | exact hso.drew | exact hso | exact Below.drew hso)⟩ (fun hS0 => ?_)
          clear k5 hso
          change wpAnyH _ _ _ _ _ 9 #[false, false, false, false, false, false, false, false, false] _ _
          generalize wr.drew = v0 at *
          refine wpAnyH_take (i := 0) (v := ?_) rfl (by kernel_rfl) (by kernel_rfl) (by kernel_rfl) (fun _ _ _ h => h) (Or.inl ⟨by rfl, ?_⟩) hS0 ?_
          rotate_left
          · (intro w hSw; (try dsimp only at hSw); go_simp; try with_reducible rfl)
          simp only [List.getElem_toArray, List.getElem_cons_zero, List.getElem_cons_succ, Act.put, List.setIfInBounds_toArray, List.set_cons_zero, List.set_cons_succ]
          refine wpAnyH_take (i := 1) (v := ?_) rfl (by kernel_rfl) (by kernel_rfl) (by kernel_rfl) (fun _ _ _ h => h) (Or.inl ⟨by rfl, ?_⟩) hS0 ?_
          rotate_left
          · (intro w hSw; (try dsimp only at hSw); go_simp; try with_reducible rfl)
          simp only [List.getElem_toArray, List.getElem_cons_zero, List.getElem_cons_succ, Act.put, List.setIfInBounds_toArray, List.set_cons_zero, List.set_cons_succ]
          refine wpAnyH_take (i := 2) (v := ?_) rfl (by kernel_rfl) (by kernel_rfl) (by kernel_rfl) (fun _ _ _ h => h) (Or.inl ⟨by rfl, ?_⟩) hS0 ?_
          rotate_left
          · (intro w hSw; (try dsimp only at hSw); go_simp; try with_reducible rfl)
          simp only [List.getElem_toArray, List.getElem_cons_zero, List.getElem_cons_succ, Act.put, List.setIfInBounds_toArray, List.set_cons_zero, List.set_cons_succ]
          refine wpAnyH_take (i := 3) (v := ?_) rfl (by kernel_rfl) (by kernel_rfl) (by kernel_rfl) (fun _ _ _ h => h) (Or.inl ⟨by rfl, ?_⟩) hS0 ?_
          rotate_left
          · (intro w hSw; (try dsimp only at hSw); go_simp; try with_reducible rfl)
          simp only [List.getElem_toArray, List.getElem_cons_zero, List.getElem_cons_succ, Act.put, List.setIfInBounds_toArray, List.set_cons_zero, List.set_cons_succ]
          refine wpAnyH_take (i := 4) (v := ?_) rfl (by kernel_rfl) (by kernel_rfl) (by kernel_rfl) (fun _ _ _ h => h) (Or.inl ⟨by rfl, ?_⟩) hS0 ?_
          rotate_left
          · (intro w hSw; (try dsimp only at hSw); go_simp; try with_reducible rfl)
          simp only [List.getElem_toArray, List.getElem_cons_zero, List.getElem_cons_succ, Act.put, List.setIfInBounds_toArray, List.set_cons_zero, List.set_cons_succ]
          refine wpAnyH_ready (rs := [5]) (by kernel_rfl) (by simp) ?_
          refine AllReadyH.cons rfl (fun K hK => ?_) AllReadyH.nil
          go_simp
          with_reducible refine (hdk _).mono ?_
          rintro e v1 ⟨rfl, hb1⟩
          have hBL1 := hBL0.trans (hb1.mono (by have := hBL0.size; omega))
          (try go_simp)
          refine hK.out _ _ ⟨((hb1.cell (cell_lt hS0.1)).trans hS0.1), (hS0.2.trans (Only.of hb1))⟩ (fun hS1 => ?_)
          clear hK K
          clear hb1 hS0
          simp only [List.getElem_toArray, List.getElem_cons_zero, List.getElem_cons_succ, Act.put, List.setIfInBounds_toArray, List.set_cons_zero, List.set_cons_succ]
          refine wpAnyH_ready (rs := [6]) (by kernel_rfl) (by simp) ?_
          refine AllReadyH.cons rfl (fun K hK => ?_) AllReadyH.nil
          go_simp
          have hb2 : Below v1.heap.size v1 (v1.alloc (.cells #[.string ⟨#[98, 117, 100, 103, 101, 116]⟩, .string ⟨DK.toArray⟩] 9)) := Bl.alloc (Below.refl _ _) _
          refine hK.out _ _ ⟨((hb2.cell (cell_lt hS1.1)).trans hS1.1), (hS1.2.trans (Only.of hb2))⟩ (fun hS2 => ?_)
          clear hK K
          have hgs_2 : Blk (v1.alloc (.cells #[.string ⟨#[98, 117, 100, 103, 101, 116]⟩, .string ⟨DK.toArray⟩] 9)) v1.heap.size 9 #[.string ⟨#[98, 117, 100, 103, 101, 116]⟩, .string ⟨DK.toArray⟩] := Blk.new _ _ _
          have hBL2 : Below wr.heap.size wr (v1.alloc (.cells #[.string ⟨#[98, 117, 100, 103, 101, 116]⟩, .string ⟨DK.toArray⟩] 9)) := Bl.alloc hBL1 _
          have hrow : Calls Tryd.prog 38 #[.slice (some ⟨v1.heap.size, 0, none⟩) 2 2] (v1.alloc (.cells #[.string ⟨#[98, 117, 100, 103, 101, 116]⟩, .string ⟨DK.toArray⟩] 9)) fun e w' => e = .returned (.string ⟨(rowT [wBudget, DK]).toArray⟩) ∧ Below (v1.alloc (.cells #[.string ⟨#[98, 117, 100, 103, 101, 116]⟩, .string ⟨DK.toArray⟩] 9)).heap.size (v1.alloc (.cells #[.string ⟨#[98, 117, 100, 103, 101, 116]⟩, .string ⟨DK.toArray⟩] 9)) w' := row_new v1 [wBudget, DK] (by simp) (by have := HJL.out; omega)
          clear hb2 hS1
          generalize v1.alloc (.cells #[.string ⟨#[98, 117, 100, 103, 101, 116]⟩, .string ⟨DK.toArray⟩] 9) = v2 at *
          generalize v1.heap.size = gs at *
          simp only [List.getElem_toArray, List.getElem_cons_zero, List.getElem_cons_succ, Act.put, List.setIfInBounds_toArray, List.set_cons_zero, List.set_cons_succ]
          refine wpAnyH_ready (rs := [7]) (by kernel_rfl) (by simp) ?_
          refine AllReadyH.cons rfl (fun K hK => ?_) AllReadyH.nil
          go_simp
          with_reducible refine (hrow).mono ?_
          rintro e v3 ⟨rfl, hb3⟩
          have hBL3 := hBL2.trans (hb3.mono (by have := hBL2.size; omega))
          (try go_simp)
          refine hK.out _ _ ⟨((hb3.cell (cell_lt hS2.1)).trans hS2.1), (hS2.2.trans (Only.of hb3))⟩ (fun hS3 => ?_)
          clear hK K
          have hgs_3 := hgs_2.below hb3 hgs_2.lt
          clear hb3 hS2
          simp only [List.getElem_toArray, List.getElem_cons_zero, List.getElem_cons_succ, Act.put, List.setIfInBounds_toArray, List.set_cons_zero, List.set_cons_succ]
          refine wpAnyH_ready (rs := [8]) (by kernel_rfl) (by simp) ?_
          refine AllReadyH.cons rfl (fun K hK => ?_) AllReadyH.nil
          go_simp
          with_reducible refine (wWriteG b b _ _ _ gk2 (HWR.out.below hBL3) (by have := HRT.out; have := HLk.out; omega) (by have := hBL3.size; omega)).mono ?_
          rintro e v4 ⟨⟨vv, rfl⟩, gk3, q1, q2⟩
          (try go_simp)
          refine hK.out _ _ ⟨cell_only hS3.1 q2.1 (fun e => e.elim (fun e => by omega) (fun e => by have := hue _ e.symm; omega)), (Only.of hBL3).trans q2.1⟩ (fun hS4 => ?_)
          clear hK K hS3
          simp only [List.getElem_toArray, List.getElem_cons_zero, List.getElem_cons_succ, Act.put, List.setIfInBounds_toArray, List.set_cons_zero, List.set_cons_succ]
          refine wpAnyH_done (by kernel_rfl) ?_ _
          have k5 := hS4.1
          have hso := hS4.2
          clear hS4
          have hst3 : WSt b none w6 gk3 v4 := HST.out.trans (WSt.head hBL3 q2)
          have hln := fun W (h : WrG b b ((TC ++ edsT St Ln Up k) ++ rowT [wBudget, DK]) W gk3) => wLen_calls b b _ W gk3 h
          have hsn := fun W (h : WrG b b ((TC ++ edsT St Ln Up k) ++ rowT [wBudget, DK]) W gk3) => wString_calls b b _ W gk3 h HNE.out
          have hb3 : Below w.heap.size w v4 := WSt.below HB6.out hst3 hzb (fun g e => by cases e) (by omega)
          have hF3 : Blk v4 (w.heap.size + 1) 34 #[Value.int .i64 0, Value.int .i64 0] := HF6.out.only hst3.1 (by rintro (e | e) <;> first | omega | cases e)
          have hLT := HLT.out
          generalize (TC ++ edsT St Ln Up k) ++ rowT [wBudget, DK] = TT at *
          generalize v4 = wz at *
          have HST3 := hide hst3
          have HB3 := hide hb3
          have HF3 := hide hF3
          have hlt2 : (decide ((200000 : Int) < (TT.length : Int))) = false := decide_eq_false (by omega)
          have hlt3 : (decide (200000 < TT.length)) = false := decide_eq_false (by omega)
          clear hBL0 hBL1 hBL2 hBL3 hso k5 hst3 hb3 hF3 q2
          go_wp2_with fail
          with_reducible refine (hln _ q1).mono ?_
          clear hln
          rintro e w' ⟨rfl, rfl⟩
          go_wp2_with fail
          with_reducible refine (hsn _ q1).mono ?_
          clear hsn
          rintro e wy ⟨rfl, hby⟩
          have hFy : Blk wy (w.heap.size + 1) 34 #[Value.int .i64 0, Value.int .i64 0] := HF3.out.below hby (by omega)
          have hby2 : Below w.heap.size w wy := HB3.out.trans (hby.mono (by omega))
          clear hby
          go_wp2_with (first | (refine wpList_store_row rfl 34 _ _ rfl (w.heap.size + 1) #[Value.int .i64 0, Value.int .i64 0] rfl rfl 34 _ hFy (by kernel_rfl) rfl (by kernel_rfl) ?_))
          rw [HFT.out]
          exact bodyPost_ret (results_tc rfl rfl (hFy.setRow _) Tryd.underlying34 rfl (by kernel_rfl)) rfl ⟨rfl, hby2.trans (below_setRow (Below.refl _ _) (by omega) _)⟩
end Go.Proofs.YtdhdknjefjolpaaDoor
end
