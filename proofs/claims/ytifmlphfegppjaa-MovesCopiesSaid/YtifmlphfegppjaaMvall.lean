/-
  moves.All.
-/
import Derived.Test.YtifmlphfegppjaaMvap
import Derived.RangeFuncBox
import Derived.Maps.AppendAt
namespace Go.Proofs.Ytifmlphfegppjaa
open Go.RowKit Go.Shelf
attribute [local go_sem] Oper.semAt_some

theorem owns_base {W : World} {base base' : Nat} {e : TypeId} {size : Nat} {v : Value} {k : Nat} {xs : List Value} (h : W.ownsRow base e size v k xs) (hb : base' ≤ base) : W.ownsRow base' e size v k xs := by
  obtain ⟨hl, h | ⟨g, cap, cur, rfl, hg, r⟩⟩ := h
  · exact ⟨hl, .inl h⟩
  · exact ⟨hl, .inr ⟨g, cap, cur, rfl, Nat.le_trans hb hg, r⟩⟩
theorem cell_two_new (w : World) (x y : Value) (t : TypeId) : ∀ j u, [x, y][j]? = some u → (w.alloc (.cells #[x, y] t)).cell? ((⟨w.heap.size, 0, none⟩ : Addr).add j) = some u := by
  intro j u hj
  have h := (Blk.new w t #[x, y]).cell j
  rw [add_plain, Nat.zero_add, h]
  rw [← hj]
  simp
def mvCells (k f t : Nat) (l : List Nat) : List Value := l.flatMap fun x => [Value.int .u16 (wyF k f x : Nat), Value.int .u16 (wyT k t x : Nat)]
theorem mvCells_snoc (k f t : Nat) (l : List Nat) (x : Nat) : mvCells k f t (l ++ [x]) = mvCells k f t l ++ [Value.int .u16 (wyF k f x : Nat), Value.int .u16 (wyT k t x : Nat)] := by simp [mvCells]
set_option maxRecDepth 100000 in
set_option maxHeartbeats 8000000 in
theorem mvAll_calls (k f t l : Nat) (w : World) (hk : k < 5) (hf : f < 65536) (ht : t < 65536) (hl : l < 65536) :
    Calls Try.prog 13 #[.int .u8 (k : Int), .int .u16 (f : Int), .int .u16 (t : Int), .int .u16 (l : Int)] w
      fun e w' => ∃ v, e = .returned v ∧ w'.ownsRow w.heap.size 36 2 v (cnt l) (mvCells k f t (List.range (cnt l))) ∧ Below w.heap.size w w' := by
  obtain ⟨i0, hi, hz0, hz1, hz2⟩ := info_parts (show (Try.prog.info? 36).map (fun i => (i.zero, i.size, i.bytes)) = some (some (.agg #[.int .u16 0, .int .u16 0]), 2, 4) by kernel_rfl)
  have i1 : (decide ((5 : Int) ≤ (k : Int))) = false := by rw [decide_eq_false_iff_not]; omega
  have hcl := cnt_b l hl
  refine (callsIn_wide (n := 3)).1 ?_
  refine callsIn_of_wp_marks Try.func13 rfl trivial ?_ rfl
  simp only [Try.ntmps13, List.size_toArray, List.length_cons, List.length_nil, Nat.reduceAdd, Nat.reduceSub, Array.replicate_succ, Array.replicate_zero, List.push_toArray, List.append_toArray, List.nil_append, List.cons_append]
  gi_wp2_with fail
  refine ⟨trivial, (callsIn_wide.2 (mvWays_calls k f t l _)).mono ?_⟩
  rintro e w3 ⟨rfl, hB3, hs3, hb3⟩
  have hs2 : (w.alloc (.cells #[.slice none 0 0] 39)).heap.size = w.heap.size + 1 := by simp
  have hBo3 : Boxed w3 w.heap.size 39 (.slice none 0 0) := Blk.below (Blk.new w _ _) hb3 (by simp)
  rw [hs2] at hB3 hs3 hb3
  have hb03 : Below w.heap.size w w3 := (Bl.alloc (Below.refl _ _) _).trans (hb3.mono (by omega))
  generalize hBB : w.heap.size = Bo at *
  gi_wp2_with fail
  refine wpIn_rangeFunc_ownH rfl (by decide) (gf := 20) (lb := wB (Bo + 1)) rfl trivial (enters_of Try.func20 (by kernel_rfl) rfl)
    (ways1_stops k f t l hk hf ht hl 2 (Bo + 1) w3 hB3) (fun h k => h.t k) (KpS.b (by omega)) (Below.refl _ _) (fun _ => rfl)
    (fun pre W => (∃ v, Boxed W Bo 39 v ∧ W.ownsRow w3.heap.size 36 2 v pre.length (mvCells k f t pre) ∧ True) ∧ Below Bo w W ∧ w3.heap.size ≤ W.heap.size)
    (fun _ _ _ => False)
    (OwnFrom.and (Own.from (holdsRow_own w3.heap.size Bo 39 36 2 (fun pre => pre.length) (fun pre => mvCells k f t pre) (fun _ _ => True)) _) (OwnFrom.and (ownFrom_below (by omega) (by omega)) (fun _ _ _ _ hs hg _ => Nat.le_trans hs hg.size)))
    (fun _ _ _ _ _ hs _ _ => hs)
    ⟨⟨_, hBo3, World.ownsRow_nil _ _ _ _, trivial⟩, hb03, Nat.le_refl _⟩
    (fun x a' W => ∃ Bx, w3.heap.size ≤ Bx ∧ Blk W Bx 36 #[.int .u16 (wyF k f x : Nat), .int .u16 (wyT k t x : Nat)] ∧ a' = { tmps := #[.int .u8 (k : Int), .int .u16 (f : Int), .int .u16 (t : Int), .int .u16 (l : Int), undef, undef, undef, undef, .slice none 0 0, .pointer (some ⟨Bo, 0, none⟩), .pointer (some ⟨Bx, 0, none⟩), .int .u8 (k : Int), .bool false, .int .u8 (k : Int), .int .u16 (f : Int), .int .u16 (t : Int), .int .u16 (l : Int), .func (.func 20) #[] (wB (Bo + 1)), .agg #[.int .u16 (wyF k f x : Nat), .int .u16 (wyT k t x : Nat)], undef, undef, undef, undef, undef], defers := [] })
    (fun x a' _ W W' row hs hg hr => by
      obtain ⟨Bx, h1, h2, h3⟩ := hs
      exact ⟨Bx, h1, (Own.from (blk_own Bx 36 (fun _ : Unit => #[.int .u16 (wyF k f x : Nat), .int .u16 (wyT k t x : Nat)])) w3.heap.size) () W W' row h2 hg hr, h3⟩)
    ?assign ?body ?done ?stop
  case assign =>
    rintro lp pre x W K ⟨⟨v, hv, hrow, _⟩, hbl, hsz⟩ hK
    gi_wp2_with fail
    exact hK _ _ ((KeepsOthers.alloc _ _).from _) (KpS.only ((Only.refl (fun _ => False) _).alloc _) (by omega) (fun _ _ _ e => e)) ⟨⟨v, hv.alloc _, hrow.alloc _, trivial⟩, hbl.alloc (by have := hbl.size; omega) _, by simp; omega⟩ ⟨W.heap.size, hsz, Blk.new _ _ _, rfl⟩
  case body =>
    rintro lp pre x a' W _ _ ⟨⟨v, hv, hrow, _⟩, hbl, hsz⟩ ⟨Bx, hBx, hX, rfl⟩ hlt
    have hc := hv.cell
    have y1 : W.cell? ⟨Bx, 0, none⟩ = some (.int .u16 (wyF k f x : Nat)) := hX.cell 0
    have y2 : W.cell? ⟨Bx, 1, none⟩ = some (.int .u16 (wyT k t x : Nat)) := hX.cell 1
    have hwb := hbl.size
    gi_wp2_with (gi_at_builtin; refine Shut.out ?_)
    unfold Shut
    refine wpListIn_append_own _ rfl _ _ 39 rfl w3.heap.size 36 i0 (.agg #[.int .u16 0, .int .u16 0]) 2 4 Try.underlying39 hi hz0 hz1 hz2 rfl (by decide) _ _ _ rfl (hrow.alloc _) ⟨W.heap.size, 0, none⟩ 1 1 [.int .u16 (wyF k f x : Nat), .int .u16 (wyT k t x : Nat)] rfl rfl (cell_two_new _ _ _ _) (by simp [Value.oneCell']) (by unfold maxLen; omega) (by omega) (by simp; omega) ?_
    intro v' w1 hown' hgrow _
    obtain ⟨g', cap', rfl⟩ := ownsRow_succ hown'
    obtain ⟨hv1, hv2, hr2, hk2, hb2⟩ := hv.appended (by decide) (owns_base hrow (Nat.le_trans (by omega) (Nat.le_refl _))) (by omega) (Nat.le_refl Bo) (owns_base hown' (by omega)) hgrow
    have hc1 := hv1.cell
    have hf1 := hv1.frozen
    gi_wp2_with fail
    refine ⟨hk2.from _, ⟨hk2.size, fun b h1 h2 => ?_⟩, ⟨_, hv2, ?_, trivial⟩, hbl.trans hb2, Nat.le_trans hsz hk2.size⟩
    · refine (Below.heap_setCell _ _ _ _ (by simp; omega)).trans ((hgrow.block b (by simp; omega) ?_).trans (Below.heap_alloc W _ b (by omega)))
      exact own_ne hrow (by omega)
    · rw [mvCells_snoc, List.length_append]
      exact hown'.kept (grownBy_setCell' w1 Bo _) (.inr (hv1.not_row (by decide) hown').symm)
  case done =>
    rintro D ys W hD rfl ⟨⟨v, hv, hrow, _⟩, hbl, hsz⟩ hK
    have hc := hv.cell
    rw [List.length_range] at hrow
    gi_wp2_with fail
    refine ⟨by simp, .inl ⟨_, _, rfl, run_takeDeferred hK, ?_⟩⟩
    rw [hBB]
    exact ⟨_, results_tmp rfl _ _ _, v, rfl, ownsRow_putObj (owns_base hrow (by omega)) _ hK rfl, hbl.trans (belowK_b (w := w) (by omega) W D _ _ (by omega) hK rfl rfl)⟩
  case stop =>
    rintro D cc pre W _ _ h _
    exact h.elim
end Go.Proofs.Ytifmlphfegppjaa
