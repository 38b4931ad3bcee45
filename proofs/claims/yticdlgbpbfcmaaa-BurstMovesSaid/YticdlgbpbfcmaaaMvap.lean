/-
  moves.Apply.
-/
import Derived.Test.YticdlgbpbfcmaaaMvc
import Derived.Test.YticdlgbpbfcmaaaRnd
import Derived.Lib.LazyBuf
import Derived.Laws.Tables
namespace Go.Proofs.Yticdlgbpbfcmaaa
open Go.RowKit Go.Shelf
attribute [local go_sem] Oper.semAt_some

/-- A row of bytes of the call's own. -/
def Row8 (W : World) (g n : Nat) (A : Nat → Nat) : Prop := ∃ cur : Array Value, Blk W g 5 cur ∧ n ≤ cur.size ∧ ∀ i, i < n → cur[i]? = some (.int .u8 (A i : Int))
theorem Row8.lt {W : World} {g n : Nat} {A : Nat → Nat} (h : Row8 W g n A) : g < W.heap.size := by
  obtain ⟨cur, hb, _⟩ := h
  exact hb.lt
theorem Row8.cell {W : World} {g n : Nat} {A : Nat → Nat} (h : Row8 W g n A) (i : Nat) (hi : i < n) : W.cell? ⟨g, i, none⟩ = some (.int .u8 (A i : Int)) := by
  obtain ⟨cur, hb, _, hc⟩ := h
  exact (hb.cell i).trans (hc i hi)
theorem Row8.frozen {W : World} {g n : Nat} {A : Nat → Nat} (h : Row8 W g n A) (i : Nat) : W.frozen? ⟨g, i, none⟩ = false := by
  obtain ⟨cur, hb, _⟩ := h
  exact hb.frozen i
theorem Row8.set {W : World} {g n : Nat} {A : Nat → Nat} (h : Row8 W g n A) (i v : Nat) : Row8 (W.setCell ⟨g, i, none⟩ (.int .u8 (v : Int))) g n (updn A i v) := by
  obtain ⟨cur, hb, hn, hc⟩ := h
  refine ⟨_, hb.set_ i _, by simpa using hn, fun j hj => ?_⟩
  rw [Array.getElem?_setIfInBounds]
  unfold updn
  by_cases e : i = j
  · subst e
    rw [if_pos rfl, if_pos rfl, if_pos (by omega)]
  · rw [if_neg e, if_neg (fun x => e x.symm)]
    exact hc j hj
theorem Row8.blk {W W' : World} {g n : Nat} {A : Nat → Nat} (h : Row8 W g n A) (e : W'.heap[g]? = W.heap[g]?) : Row8 W' g n A := by
  obtain ⟨cur, hb, hn, hc⟩ := h
  exact ⟨cur, e.trans hb, hn, hc⟩
theorem Row8.below {W W' : World} {g n m : Nat} {A : Nat → Nat} (h : Row8 W g n A) (hb : Below m W W') (hg : g < m) : Row8 W' g n A := h.blk (hb.block g hg)
theorem Row8.only {S : Nat → Prop} {W W' : World} {g n : Nat} {A : Nat → Nat} (h : Row8 W g n A) (hb : Only S W W') (hg : ¬ S g) : Row8 W' g n A := h.blk (hb.block g h.lt hg)
theorem Row8.far {W : World} {g n : Nat} {A : Nat → Nat} (h : Row8 W g n A) {p : Addr} (hp : g ≠ p.block) (u : Value) : Row8 (W.setCell p u) g n A := h.blk (Below.heap_setCell W p u g hp)
theorem Row8.alloc {W : World} {g n : Nat} {A : Nat → Nat} (h : Row8 W g n A) (o : Obj) : Row8 (W.alloc o) g n A := h.blk (Below.heap_alloc W o g h.lt)
theorem Row8.nums {W : World} {g n : Nat} {A : Nat → Nat} (h : Row8 W g n A) : NumsAt W .u8 (some ⟨g, 0, none⟩) n (fun i => (A i : Int)) := fun i hi => ⟨g, 0, rfl, h.lt, by rw [Nat.zero_add]; exact h.cell i hi⟩
theorem Row8.congr {W : World} {g n : Nat} {A B : Nat → Nat} (h : Row8 W g n A) (e : ∀ i, i < n → A i = B i) : Row8 W g n B := by
  obtain ⟨cur, hb, hn, hc⟩ := h
  exact ⟨cur, hb, hn, fun i hi => by rw [← e i hi]; exact hc i hi⟩
theorem row8_own {β : Type} (g n : Nat) (F : β → Nat → Nat) : Own (fun s W => Row8 W g n (F s)) := fun s X Y row hs hg hrow => by
  obtain ⟨cur, hb, hn, hc⟩ := hs
  refine ⟨cur, (hg.block g hb.lt (fun e => ?_)).trans hb, hn, hc⟩
  obtain ⟨o, ho, hcl⟩ := hrow g e.symm
  rw [show X.heap[g]? = _ from hb] at ho
  cases ho
  cases hcl
theorem blk_own {β : Type} (g : Nat) (t : TypeId) (F : β → Array Value) : Own (fun s W => Blk W g t (F s)) := fun s X Y row hs hg hrow =>
  (hg.block g hs.lt (fun e => by
    obtain ⟨o, ho, hcl⟩ := hrow g e.symm
    rw [show X.heap[g]? = _ from hs] at ho
    cases ho
    cases hcl)).trans hs
/-- A store of a whole row, in a round or anywhere. -/
theorem wpListIn_store_row {F : Fence} {n : Nat} {P : Program} {ops : Array Oper} {rest : List Oper} {o : Oper} {a : Act} {w : World} {Q : Exit → Act → World → Prop} (hgd : o.guard = none) (ty : TypeId) (x y : Operand) (ho : o.op = .store ty x y)
    (g : Nat) (cells : Array Value) (hx : a.eval x = .pointer (some ⟨g, 0, none⟩)) (hy : a.eval y = .agg cells)
    (t : TypeId) (old : Array Value) (hg : w.heap[g]? = some (.cells old t (0, 0))) (hi : (P.info? ty).map (·.size) = some cells.size)
    (hold : old.size = cells.size) (h1 : cells.all (·.oneCell') = true)
    (h : wpListIn F n P ops Q rest (a.put o.dst undef) (w.setRow g cells)) : wpListIn F n P ops Q (o :: rest) a w := by
  refine wpListIn_plain hgd fun K hK' => ?_
  unfold Oper.wpIn
  refine ⟨?_, ?_⟩
  · simp [Oper.about, ho, resolve, Target.leads, Sem.run_pure]
  · rw [Oper.semAt_plain F _ _ (by rw [ho]; intro c hc'; cases hc')]
    unfold execOp
    simp only [ho, hx, hy, Instr.storeAt, Instr.sureAddr, Sem.run_bind, Sem.run_pure, Result.andThen_ok, run_storeVar_row w g t ty old cells hg hi hold h1]
    exact hK' _ _ h
/-- The memory behind the ways of a list. -/
def mvL (k f t n : Nat) (A : Nat → Nat) (l : List Nat) : Nat → Nat := l.foldl (fun A i => updn A (wyT k t i % n) (A (wyF k f i % n))) A
theorem mvL_snoc (k f t n : Nat) (A : Nat → Nat) (l : List Nat) (i : Nat) : mvL k f t n A (l ++ [i]) = updn (mvL k f t n A l) (wyT k t i % n) (mvL k f t n A l (wyF k f i % n)) := by simp [mvL]
theorem mvL_range (k f t n : Nat) (A : Nat → Nat) (j : Nat) : mvL k f t n A (List.range j) = mvA k f t n A j := by
  induction j with
  | zero => rfl
  | succ j ih => rw [List.range_succ, mvL_snoc, ih]; rfl
def rowL (A : Nat → Nat) (n : Nat) : List Value := (List.range n).map fun i => Value.int .u8 (A i : Int)
theorem slRow_calls (o : Option Addr) (n c : Nat) (A : Nat → Nat) (w : World) (h0 : 0 < n) (hn : n ≤ 140737488355328) (hL : NumsAt w .u8 o n fun i => (A i : Int)) :
    Calls Try.prog 25 #[.slice o n c] w fun e w' => ∃ g c', e = .returned (.slice (some ⟨g, 0, none⟩) n c') ∧ Row8 w' g n A ∧ w.heap.size ≤ g ∧ Below w.heap.size w w' := by
  obtain ⟨i0, hi, hz0, hz1, hz2⟩ := info_parts (show (Try.prog.info? 5).map (fun i => (i.zero, i.size, i.bytes)) = some (some (.int .u8 0), 1, 1) by kernel_rfl)
  have hnil := fun W a l c => run_eql_slice_nil W 24 5 a l c Try.underlying24
  have hnil2 := fun W a l c => run_equalIn_slice_nil W 9999 24 5 a l c Try.underlying24
  cases o with
  | none =>
    obtain ⟨_, _, h, _⟩ := hL 0 h0
    cases h
  | some a =>
    have hown := World.ownsRow_lit w (base := w.heap.size) (e := 5) (size := 1) #[] 0 (Nat.le_refl _) (by decide) rfl
    go_enter Try.func25, Try.ntmps25
    go_wp2_with (at_builtin; refine wpList_append_own _ rfl _ _ 24 rfl w.heap.size 5 i0 (.int .u8 0) 1 1 Try.underlying24 hi hz0 hz1 hz2 rfl (by decide) _ _ _ rfl hown _ n c (rowL A n) rfl (by simp [rowL]) ?c1 ?c2 ?c3 (by omega) (by simp) ?_)
    case c1 =>
      intro j u hu
      have hj : j < n := by
        have := (List.getElem?_eq_some_iff.1 hu).1
        simpa [rowL] using this
      obtain ⟨b, off, ha, hlt, hc⟩ := hL j hj
      injection ha with ha
      subst ha
      have e : u = .int .u8 (A j : Int) := by simpa [rowL, hj, eq_comm] using hu
      rw [add_plain, e]
      exact (World.cell?_alloc_lt w _ ⟨b, off + j, none⟩ hlt).trans hc
    case c2 =>
      intro u hu
      obtain ⟨x, _, rfl⟩ := List.mem_map.1 hu
      rfl
    case c3 => unfold maxLen; omega
    intro v1 w1 hown1 hgrow1 _
    obtain ⟨hl, hv | ⟨g, cap, cur, rfl, hb, hh, hnn, hcap, hsz, htake⟩⟩ := hown1
    · exfalso
      have := hv.2
      omega
    · go_wp2_with fail
      go_ret
      refine ⟨g, cap, by simp, ⟨cur, hh, by omega, fun i hi => ?_⟩, hb, ?_⟩
      · have h1 : (cur.toList.take (n * 1))[i]? = (rowL A n)[i]? := by rw [htake]
        rw [List.getElem?_take_of_lt (by omega)] at h1
        rw [← Array.getElem?_toList, h1]
        simp [rowL, hi]
      · exact (Bl.alloc (Below.refl _ _) _).grown hgrow1 (by simp) (fun k hk => (hown.lt k hk).1)
set_option maxRecDepth 100000 in
set_option maxHeartbeats 8000000 in
theorem mvApply_calls (k f t l : Nat) (o : Option Addr) (n c : Nat) (A : Nat → Nat) (w : World) (hk : k < 5) (hf : f < 65536) (ht : t < 65536) (hl : l < 65536) (h0 : 0 < n) (hn : n ≤ 65536) (hL : NumsAt w .u8 o n fun i => (A i : Int)) :
    Calls Try.prog 14 #[.int .u8 (k : Int), .int .u16 (f : Int), .int .u16 (t : Int), .int .u16 (l : Int), .slice o n c] w
      fun e w' => ∃ g c', e = .returned (.tuple #[.slice (some ⟨g, 0, none⟩) n c', .int .i64 0]) ∧ Row8 w' g n (mvA k f t n A (cnt l)) ∧ w.heap.size ≤ g ∧ Below w.heap.size w w' := by
  have i1 : (decide ((5 : Int) ≤ (k : Int))) = false := by rw [decide_eq_false_iff_not]; omega
  have i2 : ((n : Int) == 0) = false := by rw [beq_eq_false_iff_ne]; omega
  have i3 : (decide ((65536 : Int) < (n : Int))) = false := by rw [decide_eq_false_iff_not]; omega
  refine (callsIn_wide (n := 3)).1 ?_
  refine callsIn_of_wp_marks Try.func14 rfl trivial ?_ rfl
  simp only [Try.ntmps14, List.size_toArray, List.length_cons, List.length_nil, Nat.reduceAdd, Nat.reduceSub, Array.replicate_succ, Array.replicate_zero, List.push_toArray, List.append_toArray, List.nil_append, List.cons_append]
  gi_wp2_with fail
  refine ⟨trivial, (callsIn_wide.2 (slRow_calls o n c A w h0 (by omega) hL)).mono ?_⟩
  rintro e w1 ⟨g, c', rfl, hR1, hg1, hb1⟩
  gi_wp2_with fail
  refine ⟨trivial, (callsIn_wide.2 (mvWays_calls k f t l _)).mono ?_⟩
  rintro e w3 ⟨rfl, hB3, hs3, hb3⟩
  have hBo3 : Blk w3 w1.heap.size 24 #[.slice (some ⟨g, 0, none⟩) n c'] := (Blk.new w1 _ _).below hb3 (by simp)
  have hs2 : (w1.alloc (.cells #[.slice (some ⟨g, 0, none⟩) n c'] 24)).heap.size = w1.heap.size + 1 := by simp
  rw [hs2] at hB3 hs3 hb3
  have hg1w : g < w1.heap.size := hR1.lt
  have hR3 : Row8 w3 g n A := (hR1.alloc _).below hb3 (by omega)
  have hw1 := hb1.size
  have hb03 : Below w.heap.size w w3 := (Bl.alloc hb1 _).trans (hb3.mono (by omega))
  generalize hBB : w1.heap.size = Bo at *
  clear hb3 hR1 hb1 hL hs2
  gi_wp2_with fail
  refine wpIn_rangeFunc_ownH rfl (by decide) (gf := 29) (lb := wB (Bo + 1)) rfl trivial (enters_of Try.func29 (by kernel_rfl) rfl)
    (ways1_stops k f t l hk hf ht hl 2 (Bo + 1) w3 hB3) (fun h k => h.t k) (KpS.b (by omega)) (Below.refl _ _) (fun _ => rfl)
    (fun pre W => Row8 W g n (mvL k f t n A pre) ∧ Blk W Bo 24 #[.slice (some ⟨g, 0, none⟩) n c'] ∧ Below w.heap.size w W ∧ w3.heap.size ≤ W.heap.size)
    (fun _ _ _ => False)
    (OwnFrom.and (Own.from (row8_own g n (fun pre => mvL k f t n A pre)) _) (OwnFrom.and (Own.from (blk_own Bo 24 (fun _ => #[.slice (some ⟨g, 0, none⟩) n c'])) _) (OwnFrom.and (ownFrom_below (Nat.le_refl _) hb03.size) (fun _ _ _ _ hs hg _ => Nat.le_trans hs hg.size))))
    (fun _ _ _ _ _ hs _ _ => hs)
    ⟨hR3, hBo3, hb03, Nat.le_refl _⟩
    (fun x a' W => ∃ Bx, w3.heap.size ≤ Bx ∧ Blk W Bx 48 #[.int .u16 (wyF k f x : Nat), .int .u16 (wyT k t x : Nat)] ∧ a' = { tmps := #[.int .u8 (k : Int), .int .u16 (f : Int), .int .u16 (t : Int), .int .u16 (l : Int), .slice o n c, undef, undef, undef, undef, undef, .slice none 0 0, .int .i64 0, .pointer (some ⟨Bo, 0, none⟩), .pointer (some ⟨Bx, 0, none⟩), .bool false, .int .u8 (k : Int), .bool false, .bool false, .slice o n c, .int .i64 (n : Int), .bool false, .bool false, .slice o n c, .int .i64 (n : Int), .bool false, .bool false, .slice o n c, .slice (some ⟨g, 0, none⟩) n c', .int .u8 (k : Int), .int .u16 (f : Int), .int .u16 (t : Int), .int .u16 (l : Int), .func (.func 29) #[] (wB (Bo + 1)), .agg #[.int .u16 (wyF k f x : Nat), .int .u16 (wyT k t x : Nat)], undef, undef, undef, undef, undef, undef, undef, undef, undef, undef, undef, undef, undef, undef, undef, undef, undef, undef], defers := [] })
    (fun x a' _ W W' row hs hg hr => by
      obtain ⟨Bx, h1, h2, h3⟩ := hs
      exact ⟨Bx, h1, (Own.from (blk_own Bx 48 (fun _ : Unit => #[.int .u16 (wyF k f x : Nat), .int .u16 (wyT k t x : Nat)])) w3.heap.size) () W W' row h2 hg hr, h3⟩)
    ?assign ?body ?done ?stop
  case assign =>
    rintro lp pre x W K ⟨hR, hBo, hbl, hsz⟩ hK
    gi_wp2_with fail
    exact hK _ _ ((KeepsOthers.alloc _ _).from _) (KpS.only ((Only.refl (fun _ => False) _).alloc _) (by omega) (fun _ _ _ e => e)) ⟨hR.alloc _, hBo.alloc _, hbl.alloc hbl.size _, by simp; omega⟩ ⟨W.heap.size, hsz, Blk.new _ _ _, rfl⟩
  case body =>
    rintro lp pre x a' W _ _ ⟨hR, hBo, hbl, hsz⟩ ⟨Bx, hBx, hX, rfl⟩ _
    have hF := wyF_lt k f x
    have hT := wyT_lt k t x ht
    have hs := mvL_snoc k f t n A pre x
    generalize mvL k f t n A pre = C at *
    generalize wyF k f x = F at *
    generalize wyT k t x = T at *
    have hp : F % n < n := Nat.mod_lt _ h0
    have hq : T % n < n := Nat.mod_lt _ h0
    have ep : (F : Int) % (n : Int) = ((F % n : Nat) : Int) := by omega
    have w1' : IntKind.i64.wrap (F : Int) = (F : Int) := by rw [IntKind.wrap_i64]; omega
    have w2' : IntKind.i64.wrap (T : Int) = (T : Int) := by rw [IntKind.wrap_i64]; omega
    have ep2 : (F : Int).tmod (n : Int) = ((F % n : Nat) : Int) := by rw [Int.tmod_eq_emod_of_nonneg (by omega)]; omega
    have eq2 : (T : Int).tmod (n : Int) = ((T % n : Nat) : Int) := by rw [Int.tmod_eq_emod_of_nonneg (by omega)]; omega
    have eq_ : (T : Int) % (n : Int) = ((T % n : Nat) : Int) := by omega
    have y0 : W.drew.cell? ⟨Bo, 0, none⟩ = some (.slice (some ⟨g, 0, none⟩) n c') := hBo.cell 0
    have y1 : W.drew.cell? ⟨Bx, 0, none⟩ = some (.int .u16 (F : Int)) := hX.cell 0
    have y2 : W.drew.cell? ⟨Bx, 1, none⟩ = some (.int .u16 (T : Int)) := hX.cell 1
    have y3 : W.drew.cell? ⟨g, F % n, none⟩ = some (.int .u8 (C (F % n) : Int)) := hR.cell _ hp
    have y4 : W.drew.cell? ⟨g, T % n, none⟩ = some (.int .u8 (C (T % n) : Int)) := hR.cell _ hq
    have y5 : W.drew.frozen? ⟨g, T % n, none⟩ = false := hR.frozen _
    generalize F % n = p at *
    generalize T % n = q at *
    have hp' : (p : Int) < (n : Int) := by omega
    have hq' : (q : Int) < (n : Int) := by omega
    have hmx : Try.prog.follows .mixedOrders = true := by kernel_rfl
    have hp2 : (decide ((n : Int) ≤ (p : Int))) = false := by rw [decide_eq_false_iff_not]; omega
    have hq2 : (decide ((n : Int) ≤ (q : Int))) = false := by rw [decide_eq_false_iff_not]; omega
    gi_wp2_with fail
    have hn0 : (n = 0) = False := eq_false (by omega)
    have yS : (W.drew.setCell ⟨g, q, none⟩ (.int .u8 (C p : Int))).cell? ⟨Bo, 0, none⟩ = some (.slice (some ⟨g, 0, none⟩) n c') ∧ (W.drew.setCell ⟨g, q, none⟩ (.int .u8 (C p : Int))).cell? ⟨Bx, 0, none⟩ = some (.int .u16 (F : Int)) ∧ (W.drew.setCell ⟨g, q, none⟩ (.int .u8 (C p : Int))).cell? ⟨Bx, 1, none⟩ = some (.int .u16 (T : Int)) ∧ (W.drew.setCell ⟨g, q, none⟩ (.int .u8 (C p : Int))).cell? ⟨g, p, none⟩ = some (.int .u8 (C p : Int)) := by
      have z1 := (Blk.far hBo.drew (p := ⟨g, q, none⟩) (by simp; omega) (.int .u8 (C p : Int))).cell 0
      have z2 := fun i => (Blk.far hX.drew (p := ⟨g, q, none⟩) (by simp; omega) (.int .u8 (C p : Int))).cell i
      have z3 := (Row8.set (W := W.drew) hR q (C p)).cell p hp
      refine ⟨z1, z2 0, z2 1, ?_⟩
      rw [z3]
      unfold updn
      split <;> rfl
    refine wpIn_region_round (S := fun w' => w'.cell? ⟨Bo, 0, none⟩ = some (.slice (some ⟨g, 0, none⟩) n c') ∧ w'.cell? ⟨Bx, 0, none⟩ = some (.int .u16 (F : Int)) ∧ w'.cell? ⟨Bx, 1, none⟩ = some (.int .u16 (T : Int)) ∧ w'.cell? ⟨g, p, none⟩ = some (.int .u8 (C p : Int))) _ (by kernel_rfl) (noDefer_spec (by kernel_rfl)) ⟨y0, y1, y2, y3⟩ (fun hHeld => ?_) (fun _ _ h => h)
    change wpAnyH _ _ _ _ _ 18 #[false, false, false, false, false, false, false, false, false, false, false, false, false, false, false, false, false, false] _ _
    refine wpAnyH_take (i := 0) (v := ?_) rfl (by kernel_rfl) (by kernel_rfl) (by kernel_rfl) (fun _ _ _ h => h) (Or.inl ⟨by rfl, ?_⟩) (by assumption) ?_
    rotate_left
    · (intro w hSw; (try dsimp only at hSw); go_simp; try with_reducible rfl)
    simp only [List.getElem_toArray, List.getElem_cons_zero, List.getElem_cons_succ, Act.put, List.setIfInBounds_toArray, List.set_cons_zero, List.set_cons_succ]
    refine wpAnyH_take (i := 1) (v := ?_) rfl (by kernel_rfl) (by kernel_rfl) (by kernel_rfl) (fun _ _ _ h => h) (Or.inl ⟨by rfl, ?_⟩) (by assumption) ?_
    rotate_left
    · (intro w hSw; (try dsimp only at hSw); go_simp; try with_reducible rfl)
    simp only [List.getElem_toArray, List.getElem_cons_zero, List.getElem_cons_succ, Act.put, List.setIfInBounds_toArray, List.set_cons_zero, List.set_cons_succ]
    refine wpAnyH_take (i := 2) (v := ?_) rfl (by kernel_rfl) (by kernel_rfl) (by kernel_rfl) (fun _ _ _ h => h) (Or.inl ⟨by rfl, ?_⟩) (by assumption) ?_
    rotate_left
    · (intro w hSw; (try dsimp only at hSw); go_simp; try with_reducible rfl)
    simp only [List.getElem_toArray, List.getElem_cons_zero, List.getElem_cons_succ, Act.put, List.setIfInBounds_toArray, List.set_cons_zero, List.set_cons_succ]
    refine wpAnyH_take (i := 3) (v := ?_) rfl (by kernel_rfl) (by kernel_rfl) (by kernel_rfl) (fun _ _ _ h => h) (Or.inl ⟨by rfl, ?_⟩) (by assumption) ?_
    rotate_left
    · (intro w hSw; (try dsimp only at hSw); go_simp; try with_reducible rfl)
    simp only [List.getElem_toArray, List.getElem_cons_zero, List.getElem_cons_succ, Act.put, List.setIfInBounds_toArray, List.set_cons_zero, List.set_cons_succ]
    refine wpAnyH_take (i := 4) (v := ?_) rfl (by kernel_rfl) (by kernel_rfl) (by kernel_rfl) (fun _ _ _ h => h) (Or.inl ⟨by rfl, ?_⟩) (by assumption) ?_
    rotate_left
    · (intro w hSw; (try dsimp only at hSw); go_simp; try with_reducible rfl)
    simp only [List.getElem_toArray, List.getElem_cons_zero, List.getElem_cons_succ, Act.put, List.setIfInBounds_toArray, List.set_cons_zero, List.set_cons_succ]
    refine wpAnyH_take (i := 5) (v := ?_) rfl (by kernel_rfl) (by kernel_rfl) (by kernel_rfl) (fun _ _ _ h => h) (Or.inl ⟨by rfl, ?_⟩) (by assumption) ?_
    rotate_left
    · (intro w hSw; (try dsimp only at hSw); go_simp; try with_reducible rfl)
    simp only [List.getElem_toArray, List.getElem_cons_zero, List.getElem_cons_succ, Act.put, List.setIfInBounds_toArray, List.set_cons_zero, List.set_cons_succ]
    refine wpAnyH_take (i := 6) (v := ?_) rfl (by kernel_rfl) (by kernel_rfl) (by kernel_rfl) (fun _ _ _ h => h) (Or.inl ⟨by rfl, ?_⟩) (by assumption) ?_
    rotate_left
    · (intro w hSw; (try dsimp only at hSw); go_simp; try with_reducible rfl)
    simp only [List.getElem_toArray, List.getElem_cons_zero, List.getElem_cons_succ, Act.put, List.setIfInBounds_toArray, List.set_cons_zero, List.set_cons_succ]
    refine wpAnyH_take (i := 7) (v := ?_) rfl (by kernel_rfl) (by kernel_rfl) (by kernel_rfl) (fun _ _ _ h => h) (Or.inl ⟨by rfl, ?_⟩) (by assumption) ?_
    rotate_left
    · (intro w hSw; (try dsimp only at hSw); go_simp; try with_reducible rfl)
    simp only [List.getElem_toArray, List.getElem_cons_zero, List.getElem_cons_succ, Act.put, List.setIfInBounds_toArray, List.set_cons_zero, List.set_cons_succ]
    refine wpAnyH_take (i := 8) (v := ?_) rfl (by kernel_rfl) (by kernel_rfl) (by kernel_rfl) (fun _ _ _ h => h) (Or.inl ⟨by rfl, ?_⟩) (by assumption) ?_
    rotate_left
    · (intro w hSw; (try dsimp only at hSw); go_simp; try with_reducible rfl)
    simp only [List.getElem_toArray, List.getElem_cons_zero, List.getElem_cons_succ, Act.put, List.setIfInBounds_toArray, List.set_cons_zero, List.set_cons_succ]
    refine wpAnyH_take (i := 9) (v := ?_) rfl (by kernel_rfl) (by kernel_rfl) (by kernel_rfl) (fun _ _ _ h => h) (Or.inl ⟨by rfl, ?_⟩) (by assumption) ?_
    rotate_left
    · (intro w hSw; (try dsimp only at hSw); go_simp; try with_reducible rfl)
    simp only [List.getElem_toArray, List.getElem_cons_zero, List.getElem_cons_succ, Act.put, List.setIfInBounds_toArray, List.set_cons_zero, List.set_cons_succ]
    refine wpAnyH_take (i := 10) (v := ?_) rfl (by kernel_rfl) (by kernel_rfl) (by kernel_rfl) (fun _ _ _ h => h) (Or.inl ⟨by rfl, ?_⟩) (by assumption) ?_
    rotate_left
    · (intro w hSw; (try dsimp only at hSw); go_simp; try with_reducible rfl)
    simp only [List.getElem_toArray, List.getElem_cons_zero, List.getElem_cons_succ, Act.put, List.setIfInBounds_toArray, List.set_cons_zero, List.set_cons_succ]
    refine wpAnyH_take (i := 11) (v := ?_) rfl (by kernel_rfl) (by kernel_rfl) (by kernel_rfl) (fun _ _ _ h => h) (Or.inl ⟨by rfl, ?_⟩) (by assumption) ?_
    rotate_left
    · (intro w hSw; (try dsimp only at hSw); go_simp; try with_reducible rfl)
    simp only [List.getElem_toArray, List.getElem_cons_zero, List.getElem_cons_succ, Act.put, List.setIfInBounds_toArray, List.set_cons_zero, List.set_cons_succ]
    refine wpAnyH_take (i := 12) (v := ?_) rfl (by kernel_rfl) (by kernel_rfl) (by kernel_rfl) (fun _ _ _ h => h) (Or.inl ⟨by rfl, ?_⟩) (by assumption) ?_
    rotate_left
    · (intro w hSw; (try dsimp only at hSw); go_simp; try with_reducible rfl)
    simp only [List.getElem_toArray, List.getElem_cons_zero, List.getElem_cons_succ, Act.put, List.setIfInBounds_toArray, List.set_cons_zero, List.set_cons_succ]
    refine wpAnyH_take (i := 13) (v := ?_) rfl (by kernel_rfl) (by kernel_rfl) (by kernel_rfl) (fun _ _ _ h => h) (Or.inl ⟨by rfl, ?_⟩) (by assumption) ?_
    rotate_left
    · (intro w hSw; (try dsimp only at hSw); go_simp; try with_reducible rfl)
    simp only [List.getElem_toArray, List.getElem_cons_zero, List.getElem_cons_succ, Act.put, List.setIfInBounds_toArray, List.set_cons_zero, List.set_cons_succ]
    refine wpAnyH_take (i := 14) (v := ?_) rfl (by kernel_rfl) (by kernel_rfl) (by kernel_rfl) (fun _ _ _ h => h) (Or.inl ⟨by rfl, ?_⟩) (by assumption) ?_
    rotate_left
    · (intro w hSw; (try dsimp only at hSw); go_simp; try with_reducible rfl)
    simp only [List.getElem_toArray, List.getElem_cons_zero, List.getElem_cons_succ, Act.put, List.setIfInBounds_toArray, List.set_cons_zero, List.set_cons_succ]
    refine wpAnyH_take (i := 15) (v := ?_) rfl (by kernel_rfl) (by kernel_rfl) (by kernel_rfl) (fun _ _ _ h => h) (Or.inl ⟨by rfl, ?_⟩) (by assumption) ?_
    rotate_left
    · (intro w hSw; (try dsimp only at hSw); go_simp; try with_reducible rfl)
    simp only [List.getElem_toArray, List.getElem_cons_zero, List.getElem_cons_succ, Act.put, List.setIfInBounds_toArray, List.set_cons_zero, List.set_cons_succ]
    refine wpAnyH_take (i := 16) (v := ?_) rfl (by kernel_rfl) (by kernel_rfl) (by kernel_rfl) (fun _ _ _ h => h) (Or.inl ⟨by rfl, ?_⟩) (by assumption) ?_
    rotate_left
    · (intro w hSw; (try dsimp only at hSw); go_simp; try with_reducible rfl)
    simp only [List.getElem_toArray, List.getElem_cons_zero, List.getElem_cons_succ, Act.put, List.setIfInBounds_toArray, List.set_cons_zero, List.set_cons_succ]
    refine wpAnyH_ready (rs := [17]) (by kernel_rfl) (by simp) ?_
    refine AllReadyH.cons rfl (fun K hK => ?_) AllReadyH.nil
    go_simp
    refine hK.out _ _ yS (fun hHeld => ?_)
    clear hK K
    refine wpAnyH_done (by kernel_rfl) ?_ _
    dsimp only [OnlyNormal]
    gi_wp2_with fail
    refine ⟨((KeepsOthers.setCell _ _ _).trans (KeepsOthers.drew _)).from _, (KpS.setCell W ⟨g, q, none⟩ (by simp; omega) _), ?_, ?_, Below.drew (hbl.setCell (p := ⟨g, q, none⟩) hg1 _), by simpa [World.setCell] using hsz⟩
    · rw [hs]
      exact Row8.set (W := W) hR q (C p)
    · exact (Blk.far hBo (p := ⟨g, q, none⟩) (by simp; omega) (.int .u8 (C p : Int)))
  case done =>
    rintro D ys W hD rfl ⟨hR, hBo, hbl, hsz⟩ hK
    have hc := hBo.cell 0
    have hc : W.cell? ⟨Bo, 0, none⟩ = some (.slice (some ⟨g, 0, none⟩) n c') := hc
    rw [mvL_range] at hR
    gi_wp2_with fail
    refine ⟨by simp, .inl ⟨_, _, rfl, run_takeDeferred hK, ?_⟩⟩
    refine ⟨_, results_tmp2 rfl _ _ _, g, c', rfl, ?_, hg1, hbl.trans (belowK_b (w := w) (Nat.le_refl _) W D _ _ (by have := hb03.size; omega) hK rfl rfl)⟩
    exact (row8_own g n (fun _ : Unit => mvA k f t n A (cnt l))).putObj (s := ()) _ hR hK rfl
  case stop =>
    rintro D cc pre W _ _ h _
    exact h.elim
end Go.Proofs.Yticdlgbpbfcmaaa
