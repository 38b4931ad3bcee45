/-
  The texts Sc23, Sc24, Sc25 of the proofs about scripts, as one file (they are merged by a program).
-/
import Derived.Test.YtdhdknjefjolpaaDoorA8
import Derived.Test.YtdhdknjefjolpaaDoorA6
import Derived.Maps.OwnSet
import Derived.Maps.OwnOps
import Derived.StringKeys
import Derived.WalkMore
section
/-
  A text told: plain; what is told, in memory.
-/
namespace Go.Proofs.YtdhdknjefjolpaaDoor
set_option linter.unusedSimpArgs false
set_option linter.unusedVariables false
set_option maxRecDepth 10000
open Go.RowKit Go.Shelf Pl
def T0 : Tl := ⟨none, none, [], [], [], [], []⟩
/-- The lines of a text told: what is wrong, where; or what was told. -/
def parG : Tl → Nat → List UInt8 → List UInt8 → Nat × Nat × Tl
  | T, n, cur, [] => if cur.isEmpty then (0, 0, T) else (3, n + 1, T)
  | T, n, cur, c :: rest =>
    if c = 10 then (if (lineT T (lnW cur)).1 = 0 then parG (lineT T (lnW cur)).2 (n + 1) [] rest else ((lineT T (lnW cur)).1, n + 1, T))
    else parG T n (cur ++ [c]) rest
theorem parG_hit (x r : List UInt8) (h : (10 : UInt8) ∉ x) : ∀ (T : Tl) (n : Nat) (cur : List UInt8), parG T n cur (x ++ 10 :: r) = if (lineT T (lnW (cur ++ x))).1 = 0 then parG (lineT T (lnW (cur ++ x))).2 (n + 1) [] r else ((lineT T (lnW (cur ++ x))).1, n + 1, T) := by
  induction x with
  | nil => intro T n cur; rw [List.nil_append, parG, if_pos rfl, List.append_nil]
  | cons c x ih =>
    intro T n cur
    have hc : c ≠ 10 := fun e => h (by simp [e])
    rw [List.cons_append, parG, if_neg hc, ih (fun e => h (by simp [e])), List.append_assoc]
    rfl
theorem parG_miss (x : List UInt8) (h : (10 : UInt8) ∉ x) : ∀ (T : Tl) (n : Nat) (cur : List UInt8), parG T n cur x = if (cur ++ x).isEmpty then (0, 0, T) else (3, n + 1, T) := by
  induction x with
  | nil => intro T n cur; rw [parG, List.append_nil]
  | cons c x ih =>
    intro T n cur
    have hc : c ≠ 10 := fun e => h (by simp [e])
    rw [parG, if_neg hc, ih (fun e => h (by simp [e])), List.append_assoc]
    rfl
def edSt (l : List (Nat × Nat × Bool)) (i : Nat) : Int := ((l.getD i (0, 0, false)).1 : Int)
def edLn (l : List (Nat × Nat × Bool)) (i : Nat) : Nat := (l.getD i (0, 0, false)).2.1
def edUp (l : List (Nat × Nat × Bool)) (i : Nat) : Bool := (l.getD i (0, 0, false)).2.2
def byF (l : List Nat) (i : Nat) : Int := (l.getD i 0 : Int)
def psA (l : List (Nat × List Nat)) (i : Nat) : Int := ((l.getD i (0, [])).1 : Int)
def psN (l : List (Nat × List Nat)) (i : Nat) : Nat := (l.getD i (0, [])).2.length
def psB (l : List (Nat × List Nat)) (i : Nat) : Nat → Int := byF (l.getD i (0, [])).2
/-- The image told. -/
def romF (l : List (Nat × List Nat)) : Nat → Int := mkF (psA l) (psN l) (psB l) l.length
def fitP (N : Nat) (l : List (Nat × List Nat)) : Prop := ∀ i, i < l.length → Fits N (psA l i) (psN l i)
/-- What is wrong with all that was told. -/
noncomputable def chkT (T : Tl) (p b : Nat) : Nat × Nat := chkS (p * 8192) T.f0.length T.f1.length T.f2.length T.ed.length (edSt T.ed) (edLn T.ed) (b : Int)
open Classical in
noncomputable def parW (T : Tl) : (Nat × Nat) ⊕ (Nat × Nat × Tl) := match T.pg, T.bd with
  | some p, some b => if fitP (p * 8192) T.ps then (if (chkT T p b).1 ≠ 0 then .inl ((chkT T p b).1, 0) else .inr (p, b, T)) else .inl (1, 0)
  | _, _ => .inl (5, 0)
/-- A text, as a script. -/
noncomputable def parV (l : List UInt8) : (Nat × Nat) ⊕ (Nat × Nat × Tl) :=
  if 200000 < l.length then .inl (2, 0) else if (parG T0 0 [] l).1 = 0 then parW (parG T0 0 [] l).2.2 else .inl ((parG T0 0 [] l).1, (parG T0 0 [] l).2.1)
/-! ### in memory -/
theorem map_nV_get (l : List Nat) (j : Nat) (hj : j < l.length) : (l.map nV)[j]? = some (.int .u8 (byF l j)) := by
  rw [List.getElem?_map, List.getElem?_eq_getElem hj]
  unfold byF nV
  rw [List.getD_eq_getElem?_getD, List.getElem?_eq_getElem hj]
  rfl
variable {W W' : World} {base : Nat} {vp v0 v1 v2 ve : Value} {Q : List Pq} {T : Tl}
theorem row_nums {v : Value} {l : List Nat} (h : W.ownsRow base 5 1 v l.length (l.map nV)) : ∃ o c, v = .slice o l.length c ∧ NumsAt W .u8 o l.length (byF l) ∧ (∀ x, o = some x → x.spot = none) ∧ l.length ≤ c ∧ c ≤ 9223372036854775807 := by
  have h0 := h
  rcases h.2 with ⟨rfl, e⟩ | ⟨g, cap, cur, rfl, hb, hh, hc1, hc2, _⟩
  · refine ⟨none, 0, by rw [e], fun i hi => by omega, fun x h => (by cases h), by omega, by omega⟩
  · refine ⟨_, cap, rfl, fun i hi => ⟨g, 0, rfl, own1_lt h0 rfl, ?_⟩, fun x h => (by cases h; rfl), hc1, by unfold maxLen at hc2; omega⟩
    rw [Nat.zero_add]
    refine (own_cell h0 (j := i) ?_).1
    rw [List.getElem?_map, List.getElem?_eq_getElem hi]
    unfold byF nV
    rw [List.getD_eq_getElem?_getD, List.getElem?_eq_getElem hi]
    rfl
theorem edC_eq (l : List (Nat × Nat × Bool)) : ∀ n, n ≤ l.length → edL (edSt l) (edLn l) (edUp l) n = edC (l.take n)
  | 0, _ => rfl
  | n + 1, h => by
    rw [edL_snoc, edC_eq l n (by omega), List.take_add_one, List.getElem?_eq_getElem (by omega)]
    show edC (l.take n) ++ edR _ _ _ n = edC (l.take n ++ [l[n]])
    rw [edC_snoc]
    congr 1
    unfold edR edV edSt edLn edUp
    simp [List.getD_eq_getElem?_getD, List.getElem?_eq_getElem (show n < l.length by omega)]
theorem row_edges (h : W.ownsRow base 31 3 ve T.ed.length (edC T.ed)) : ∃ o c, ve = .slice o T.ed.length c ∧ EdgB W o T.ed.length (edSt T.ed) (edLn T.ed) (edUp T.ed) W.heap.size ∧ (∀ x, o = some x → x.spot = none) := by
  have e := edC_eq T.ed T.ed.length (Nat.le_refl _)
  rw [List.take_length] at e
  rw [← e] at h
  have h0 := h
  rcases h.2 with ⟨rfl, e⟩ | ⟨g, cap, cur, rfl, hb, hh, _⟩
  · exact ⟨none, 0, by rw [e], fun i hi => by omega, fun x h => (by cases h)⟩
  · exact ⟨_, cap, rfl, own_edges h0, fun x h => (by cases h; rfl)⟩
theorem psC_get (Q : List Pq) : ∀ (i r : Nat), i < Q.length → r < 2 → (psC Q)[i * 2 + r]? = ((Q.getD i ⟨0, [], 0, 0⟩).cells)[r]? := by
  induction Q with
  | nil => intro i r h; simp at h
  | cons q t ih =>
    intro i r h hr
    show (q.cells ++ psC t)[i * 2 + r]? = _
    have hl : q.cells.length = 2 := rfl
    cases i with
    | zero => rw [List.getElem?_append_left (by omega)]; simp
    | succ i =>
      rw [List.getElem?_append_right (by omega), hl, show (i + 1) * 2 + r - 2 = i * 2 + r by omega, ih i r (by simpa using h) hr]
      simp
theorem SL.pieces (h : SL W base vp v0 v1 v2 ve Q T) : ∃ o c O Cp, vp = .slice o T.ps.length c ∧ PieB W o T.ps.length (psA T.ps) O (psN T.ps) Cp (psB T.ps) W.heap.size := by
  have hp := h.rp
  have hps := h.ps
  have hlen : T.ps.length = Q.length := by rw [hps, List.length_map]
  have hg : ∀ i, i < Q.length → T.ps.getD i (0, []) = ((Q.getD i ⟨0, [], 0, 0⟩).at_, (Q.getD i ⟨0, [], 0, 0⟩).by_) := fun i hi => by
    rw [hps, List.getD_eq_getElem?_getD, List.getD_eq_getElem?_getD, List.getElem?_map, List.getElem?_eq_getElem hi]
    rfl
  rcases hp.2 with ⟨rfl, e⟩ | ⟨g, cap, cur, rfl, hb, hh, _⟩
  · exact ⟨none, 0, fun _ => none, fun _ => 0, by rw [hlen, e], fun i hi => by omega⟩
  · refine ⟨_, cap, fun i => some ⟨(Q.getD i ⟨0, [], 0, 0⟩).b, 0, none⟩, fun i => (Q.getD i ⟨0, [], 0, 0⟩).c, by rw [hlen], fun i hi => ?_⟩
    rw [hlen] at hi
    have hm : Q.getD i ⟨0, [], 0, 0⟩ ∈ Q := by
      rw [List.getD_eq_getElem?_getD, List.getElem?_eq_getElem hi]
      exact List.getElem_mem hi
    have hr := h.rq _ hm
    refine ⟨g, 0, rfl, own1_lt hp rfl, ?_, ?_, ?_⟩
    · rw [Nat.zero_add]
      refine (own_cell hp (j := i * 2) ?_).1
      have := psC_get Q i 0 hi (by omega)
      rw [Nat.add_zero] at this
      rw [this]
      unfold psA
      rw [hg i hi]
      rfl
    · rw [Nat.zero_add]
      refine (own_cell hp (j := i * 2 + 1) ?_).1
      rw [psC_get Q i 1 hi (by omega)]
      unfold psN
      rw [hg i hi]
      rfl
    · unfold psN psB
      rw [hg i hi]
      intro j hj
      refine ⟨_, 0, rfl, own1_lt hr rfl, ?_⟩
      rw [Nat.zero_add]
      refine (own_cell hr (j := j) ?_).1
      exact map_nV_get _ j hj
end Go.Proofs.YtdhdknjefjolpaaDoor
end
section
/-
  gannetref33.Parse: to the end of the text.
-/
namespace Go.Proofs.YtdhdknjefjolpaaDoor
set_option linter.unusedSimpArgs false
set_option linter.unusedVariables false
set_option maxRecDepth 10000
open Go.RowKit Go.Shelf Pl
theorem cut_first (c : UInt8) (l : List UInt8) : c ∉ l ∨ ∃ x r, l = x ++ c :: r ∧ c ∉ x := by
  by_cases h : c ∈ l
  · obtain ⟨x, r, e, hx⟩ := List.eq_append_cons_of_mem h
    exact Or.inr ⟨x, r, e, hx⟩
  · exact Or.inl h
theorem wdS_words : ∀ (n : Nat) (l : List UInt8), l.length ≤ n → (wdS l).length ≤ l.length ∧ ∀ y ∈ wdS l, y.length ≤ l.length
  | 0, l, h => by
    obtain rfl : l = [] := List.eq_nil_of_length_eq_zero (by omega)
    rw [wdS_nil]
    exact ⟨Nat.le_refl _, fun y hy => by cases hy⟩
  | n + 1, l, h => by
    rcases cut_first 32 l with hx | ⟨x, r, rfl, hx⟩
    · rw [wdS_miss l hx]
      cases l with
      | nil => exact ⟨Nat.le_refl _, fun y hy => by cases hy⟩
      | cons a t => exact ⟨by simp, fun y hy => by simp at hy; rw [hy]; exact Nat.le_refl _⟩
    · rw [wdS_hit x r hx]
      have hlx : (x ++ 32 :: r).length = x.length + (r.length + 1) := by rw [List.length_append, List.length_cons]
      rw [hlx] at h ⊢
      obtain ⟨h1, h2⟩ := wdS_words n r (by omega)
      refine ⟨?_, fun y hy => ?_⟩
      · rw [List.length_append]
        cases x with
        | nil => simp; omega
        | cons a t => simp; omega
      · rcases List.mem_append.1 hy with hy | hy
        · cases x with
          | nil => cases hy
          | cons a t => simp at hy; rw [hy]; simp
        · have := h2 y hy; omega
theorem lnW_words {l : List UInt8} (h : l.length ≤ 200000) : (lnW l).length ≤ 200000 ∧ ∀ y ∈ lnW l, y.length ≤ 200001 := by
  obtain ⟨h1, h2⟩ := wdS_words _ l (Nat.le_refl _)
  have : lnW l = [] ∨ lnW l = wdS l := by
    unfold lnW
    split
    · split
      · exact Or.inl rfl
      · rename_i e _; exact Or.inr e.symm
    · exact Or.inr rfl
  rcases this with e | e <;> rw [e]
  · exact ⟨by simp, fun y hy => by cases hy⟩
  · exact ⟨by omega, fun y hy => by have := h2 y hy; omega⟩
theorem row_words {W : World} {base : Nat} {v : Value} {L : List (List UInt8)} (h : W.ownsRow base 9 1 v L.length (L.map vS)) : ∃ o c, v = .slice o L.length c ∧ L.length ≤ c ∧ WsAt W o L := by
  obtain ⟨o, c, rfl, hw⟩ := WsAt.of_row h
  rcases h.2 with ⟨e, h0⟩ | ⟨g, cap, cur, e, hb, hh, hc, _⟩
  · exact ⟨_, _, rfl, by omega, hw⟩
  · injection e with _ _ e3
    exact ⟨_, _, rfl, by rw [e3]; exact hc, hw⟩
/-- A number of pages told is one. -/
def pgOk (T : Tl) : Prop := ∀ p, T.pg = some p → 1 ≤ p ∧ p ≤ 128
theorem lineT_pg {T : Tl} (h : pgOk T) (L : List (List UInt8)) : pgOk (lineT T L).2 := by
  have hO : ∀ b r, pgOk (onceT T b r).2 := fun b r => by
    unfold onceT
    split
    · exact h
    · split
      · split
        · exact h
        · exact h
      · split
        · exact h
        · split
          · exact h
          · intro p e; injection e with e; omega
  have hR : ∀ r, pgOk (romT T r).2 := fun r => by
    unfold romT
    split
    · split
      · split
        · exact h
        · exact h
      · exact h
    · exact h
  have hF : ∀ k r, pgOk (feedT T k r).2 := fun k r => by
    unfold feedT
    split
    · dsimp only
      split
      · exact h
      · split
        · exact h
        · exact h
    · exact h
  have hE : ∀ b r, pgOk (edgeT T b r).2 := fun b r => by
    unfold edgeT
    split
    · split
      · exact h
      · split
        · exact h
        · exact h
    · exact h
  cases L with
  | nil => exact h
  | cons w r =>
    unfold lineT
    dsimp only
    split; · exact hO _ _
    split; · exact hO _ _
    split; · exact hR _
    split; · exact hF _ _
    split; · exact hF _ _
    split; · exact hF _ _
    split; · exact hE _ _
    split; · exact hE _ _
    exact h
def RP (l : List UInt8) (n f i : Nat) (T : Tl) : Prop := parG T n ((l.drop f).take (i - f)) (l.drop i) = parG T0 0 [] l ∧ T.bnd n ∧ pgOk T
theorem RP.start (l : List UInt8) : RP l 0 0 0 T0 := ⟨rfl, ⟨Nat.zero_le _, Nat.zero_le _, Nat.zero_le _, Nat.le_refl _, Nat.le_refl _⟩, fun p h => by cases h⟩
theorem RP.on {l : List UInt8} {n f i : Nat} {T : Tl} {c : UInt8} (h : RP l n f i T) (hf : f ≤ i) (hc : l[i]? = some c) (h10 : c ≠ 10) : RP l n f (i + 1) T := by
  obtain ⟨h1, h2⟩ := h
  refine ⟨?_, h2⟩
  rw [drop_at hc, parG, if_neg h10] at h1
  rw [← h1]
  congr 1
  rw [show i + 1 - f = (i - f) + 1 by omega, List.take_add_one, List.getElem?_drop, show f + (i - f) = i by omega, hc]
  rfl
theorem RP.line {l : List UInt8} {n f i : Nat} {T : Tl} (h : RP l n f i T) (hf : f ≤ i) (hc : l[i]? = some 10) (hl : l.length ≤ 200000) :
    ((lineT T (lnW ((l.drop f).take (i - f)))).1 = 0 → RP l (n + 1) (i + 1) (i + 1) (lineT T (lnW ((l.drop f).take (i - f)))).2) ∧
    ((lineT T (lnW ((l.drop f).take (i - f)))).1 ≠ 0 → parG T0 0 [] l = ((lineT T (lnW ((l.drop f).take (i - f)))).1, n + 1, T)) := by
  obtain ⟨h1, h2⟩ := h
  rw [drop_at hc, parG, if_pos rfl] at h1
  refine ⟨fun e => ?_, fun e => ?_⟩
  · rw [if_pos e] at h1
    refine ⟨by rw [Nat.sub_self, List.take_zero]; exact h1, lineT_bnd h2.1 _ ?_, lineT_pg h2.2 _⟩
    have := (lnW_words (l := (l.drop f).take (i - f)) (by rw [List.length_take, List.length_drop]; omega)).1
    omega
  · rw [if_neg e] at h1
    exact h1.symm
theorem rk_ok (m N : Nat) (a : Option Addr) (n c : Nat) (At : Nat → Int) (O : Nat → Option Addr) (Ln Cp : Nat → Nat) (By : Nat → Nat → Int) (w : World) (hm : 1 ≤ m ∧ m ≤ 128) (hN : m * 8192 = N) (hn : n ≤ maxLen) (hP : PieB w a n At O Ln Cp By w.heap.size) (hf : ∀ j, j < n → Fits N (At j) (Ln j)) :
    Calls Tryd.prog 36 #[.int .i64 (m : Int), .slice a n c] w fun e w' => ∃ g, e = .returned (.tuple #[.slice (some ⟨g, 0, none⟩) N N, .agg #[.int .i64 0, .int .i64 0]]) ∧ RW w' g N (mkF At Ln By n) ∧ w.heap.size ≤ g ∧ Below w.heap.size w w' := by
  refine (rk_walk m N a n c At O Ln Cp By w hm hN hn hP).mono ?_
  rintro e w' ⟨hb, (⟨i, hi, _, h, _⟩ | ⟨_, g, rfl, hR, hg⟩)⟩
  · exact absurd (hf i hi) h
  · exact ⟨g, rfl, hR, hg, hb⟩
theorem rk_no (m N : Nat) (a : Option Addr) (n c : Nat) (At : Nat → Int) (O : Nat → Option Addr) (Ln Cp : Nat → Nat) (By : Nat → Nat → Int) (w : World) (hm : 1 ≤ m ∧ m ≤ 128) (hN : m * 8192 = N) (hn : n ≤ maxLen) (hP : PieB w a n At O Ln Cp By w.heap.size) (hf : ¬ ∀ j, j < n → Fits N (At j) (Ln j)) :
    Calls Tryd.prog 36 #[.int .i64 (m : Int), .slice a n c] w fun e w' => ∃ i : Nat, e = .returned (.tuple #[.slice none 0 0, .agg #[.int .i64 1, .int .i64 (i : Int)]]) ∧ Below w.heap.size w w' := by
  refine (rk_walk m N a n c At O Ln Cp By w hm hN hn hP).mono ?_
  rintro e w' ⟨hb, (⟨i, hi, _, h, rfl⟩ | ⟨h, _⟩)⟩
  · exact ⟨i, rfl, hb⟩
  · exact absurd h hf
/-- Three slices in a block's middle. -/
def MD (W : World) (r o : Nat) (a b c : Value) : Prop := W.rangeAt r o [a, b, c] ∧ r < W.heap.size
theorem MD.of {W : World} {r o : Nat} {t : TypeId} {cs : Array Value} {a b c : Value} (h : Blk W r t cs) (h0 : cs[o]? = some a) (h1 : cs[o + 1]? = some b) (h2 : cs[o + 2]? = some c) : MD W r o a b c := by
  refine ⟨fun j v hv => ?_, h.lt⟩
  match j, hv with
  | 0, hv => cases hv; rw [h.cell (o + 0)]; exact h0
  | 1, hv => cases hv; rw [h.cell (o + 1)]; exact h1
  | 2, hv => cases hv; rw [h.cell (o + 2)]; exact h2
  | j + 3, hv => cases hv
theorem MD.drew {W : World} {r o : Nat} {a b c : Value} (h : MD W r o a b c) : MD W.drew r o a b c := h
theorem MD.low {W W' : World} {r o : Nat} {a b c : Value} (h : MD W r o a b c) (hb : Below W.heap.size W W') : MD W' r o a b c := ⟨fun j v hv => (hb.cell (p := ⟨r, o + j, none⟩) h.2).trans (h.1 j v hv), Nat.lt_of_lt_of_le h.2 hb.size⟩
theorem MD.setRow_far {W : World} {r o g : Nat} {a b c : Value} (h : MD W r o a b c) (hg : r ≠ g) (cs : Array Value) : MD (W.setRow g cs) r o a b c := ⟨fun j v hv => (World.cell?_of_block (setRow_block W g cs r hg)).trans (h.1 j v hv), by rw [setRow_size]; exact h.2⟩
/-- The edges' slice is no cell's, the feeds' lengths are no more than their caps. -/
def CapS (oe : Option Addr) (T : Tl) (c0 c1 c2 : Nat) : Prop := (∀ x, oe = some x → x.spot = none) ∧ (T.f0.length ≤ c0 ∧ c0 ≤ 9223372036854775807) ∧ (T.f1.length ≤ c1 ∧ c1 ≤ 9223372036854775807) ∧ (T.f2.length ≤ c2 ∧ c2 ≤ 9223372036854775807)
def ParOk (p b : Nat) (T : Tl) (e : Ending) (w' : World) : Prop := ∃ o c o0 c0 o1 c1 o2 c2 oe ce, e = .returned (.tuple #[.agg #[.slice o (p * 8192) c, .slice o0 T.f0.length c0, .slice o1 T.f1.length c1, .slice o2 T.f2.length c2, .slice oe T.ed.length ce, .int .i64 (b : Int)], .agg #[.int .i64 0, .int .i64 0]]) ∧
  NumsAt w' .u8 o (p * 8192) (romF T.ps) ∧ NumsAt w' .u8 o0 T.f0.length (byF T.f0) ∧ NumsAt w' .u8 o1 T.f1.length (byF T.f1) ∧ NumsAt w' .u8 o2 T.f2.length (byF T.f2) ∧ EdgB w' oe T.ed.length (edSt T.ed) (edLn T.ed) (edUp T.ed) w'.heap.size ∧ CapS oe T c0 c1 c2 ∧ p * 8192 ≤ c ∧ c ≤ maxLen
def ParErr (f : Nat × Nat) (e : Ending) : Prop := e = .returned (.tuple #[.agg #[Value.slice none 0 0, .slice none 0 0, .slice none 0 0, .slice none 0 0, .slice none 0 0, .int .i64 0], .agg (fltA f)])
def ParOut (v : (Nat × Nat) ⊕ (Nat × Nat × Tl)) (e : Ending) (w' : World) : Prop := match v with
  | .inl f => ParErr f e
  | .inr (p, b, T) => ParOk p b T e w'
theorem run_field_flt (a b : Int) (w : World) : (Instr.field 34 (.agg #[.int .i64 a, .int .i64 b]) 0).run Tryd.prog w = .ok (.int .i64 a) w := by kernel_rfl
theorem results_cc {P : Program} {fn : Func} {p q : Tmp} {t1 t2 u1 u2 : TypeId} {tmps : Array Value} {w : World} {g1 g2 : Nat} {c1 c2 : Array Value} {f1 f2 : Nat × Nat} {d1 d2 : TypeDesc} (h : fn.results = #[.cell p t1, .cell q t2])
    (hp : tmps.getD p undef = .pointer (some ⟨g1, 0, none⟩)) (hg : w.heap[g1]? = some (.cells c1 u1 f1)) (hu : P.underlying t1 = some d1) (hd : (match d1 with | .struct _ | .array _ _ => true | _ => false) = true) (hi : (P.info? t1).map (·.size) = some c1.size)
    (hq : tmps.getD q undef = .pointer (some ⟨g2, 0, none⟩)) (hg2 : w.heap[g2]? = some (.cells c2 u2 f2)) (hu2 : P.underlying t2 = some d2) (hd2 : (match d2 with | .struct _ | .array _ _ => true | _ => false) = true) (hi2 : (P.info? t2).map (·.size) = some c2.size) :
    (results fn tmps).run P w = .ok (.tuple #[.agg c1, .agg c2]) w := by
  have hp' : tmps[p]?.getD undef = .pointer (some ⟨g1, 0, none⟩) := by simpa using hp
  have hq' : tmps[q]?.getD undef = .pointer (some ⟨g2, 0, none⟩) := by simpa using hq
  simp [results, h, hp', hq', asAddr, run_loadVar_row w g1 u1 t1 c1 f1 d1 hg hu hd hi, run_loadVar_row w g2 u2 t2 c2 f2 d2 hg2 hu2 hd2 hi2]
set_option maxRecDepth 100000 in
set_option maxHeartbeats 16000000 in
theorem rparse_calls (l : List UInt8) (w : World) (hl : l.length ≤ 200000) :
    Calls Tryd.prog 13 #[.string ⟨l.toArray⟩] w fun e w' => Below w.heap.size w w' ∧ ((parG T0 0 [] l).1 ≠ 0 → ParErr ((parG T0 0 [] l).1, (parG T0 0 [] l).2.1) e) ∧ ((parG T0 0 [] l).1 = 0 → ParOut (parW (parG T0 0 [] l).2.2) e w') := by
  obtain ⟨R, hR⟩ : ∃ R, parG T0 0 [] l = R := ⟨_, rfl⟩
  rw [hR]
  have HR := hide hR
  have hZ0 : Blk (((w.alloc (.cells #[Value.slice none 0 0, .slice none 0 0, .slice none 0 0, .slice none 0 0, .slice none 0 0, .int .i64 0] 27)).alloc (.cells #[Value.int .i64 0, .int .i64 0] 34)).alloc (.cells #[Value.int .i64 (-1), .int .i64 (-1), .slice none 0 0, .slice none 0 0, .slice none 0 0, .slice none 0 0, .slice none 0 0] 70)) w.heap.size 27 #[Value.slice none 0 0, .slice none 0 0, .slice none 0 0, .slice none 0 0, .slice none 0 0, .int .i64 0] := ((Blk.new w _ _).alloc _).alloc _
  have hF0 : Blk (((w.alloc (.cells #[Value.slice none 0 0, .slice none 0 0, .slice none 0 0, .slice none 0 0, .slice none 0 0, .int .i64 0] 27)).alloc (.cells #[Value.int .i64 0, .int .i64 0] 34)).alloc (.cells #[Value.int .i64 (-1), .int .i64 (-1), .slice none 0 0, .slice none 0 0, .slice none 0 0, .slice none 0 0, .slice none 0 0] 70)) (w.heap.size + 1) 34 #[Value.int .i64 0, .int .i64 0] := (Blk.newAt (by simp)).alloc _
  have hT0 : TD (((w.alloc (.cells #[Value.slice none 0 0, .slice none 0 0, .slice none 0 0, .slice none 0 0, .slice none 0 0, .int .i64 0] 27)).alloc (.cells #[Value.int .i64 0, .int .i64 0] 34)).alloc (.cells #[Value.int .i64 (-1), .int .i64 (-1), .slice none 0 0, .slice none 0 0, .slice none 0 0, .slice none 0 0, .slice none 0 0] 70)) (w.heap.size + 3) (w.heap.size + 2) T0 := ⟨by omega, by simp, _, _, _, _, _, _, Blk.newAt (by simp), SL.nil _ _ _ _⟩
  have hb0 : Below w.heap.size w (((w.alloc (.cells #[Value.slice none 0 0, .slice none 0 0, .slice none 0 0, .slice none 0 0, .slice none 0 0, .int .i64 0] 27)).alloc (.cells #[Value.int .i64 0, .int .i64 0] 34)).alloc (.cells #[Value.int .i64 (-1), .int .i64 (-1), .slice none 0 0, .slice none 0 0, .slice none 0 0, .slice none 0 0, .slice none 0 0] 70)) := Bl.alloc (Bl.alloc (Bl.alloc (Below.refl _ _) _) _) _
  have hX : Hid (∀ f k, (⟨l.toArray⟩ : ByteArray).extract f k = ⟨((l.drop f).take (k - f)).toArray⟩) := ext_list l
  have hSl : (⟨l.toArray⟩ : ByteArray).data.toList = l := rfl
  have hSn := ba_len ⟨l.toArray⟩
  rw [hSl] at hSn
  clear hR
  generalize (⟨l.toArray⟩ : ByteArray) = S at *
  obtain ⟨n, hn⟩ : ∃ n, l.length = n := ⟨_, rfl⟩
  rw [hn] at hl hSn
  have hSn2 : S.size = n := hSn.symm
  clear hSn
  have k1 : (decide ((200000 : Int) < (n : Int))) = false := decide_eq_false (by omega)
  go_enter Tryd.func13, Tryd.ntmps13
  go_wp2_with fail
  generalize hzz : w.heap.size = z at *
  generalize (((w.alloc (.cells #[Value.slice none 0 0, .slice none 0 0, .slice none 0 0, .slice none 0 0, .slice none 0 0, .int .i64 0] 27)).alloc (.cells #[Value.int .i64 0, .int .i64 0] 34)).alloc (.cells #[Value.int .i64 (-1), .int .i64 (-1), .slice none 0 0, .slice none 0 0, .slice none 0 0, .slice none 0 0, .slice none 0 0] 70)) = w3 at *
  obtain ⟨r, hr⟩ : ∃ r, z + 1 + 1 = r := ⟨_, rfl⟩
  rw [show z + 3 = r + 1 by omega, show z + 2 = r by omega] at hT0
  rw [hr]
  have HH : Hid (Blk w3 z 27 #[Value.slice none 0 0, .slice none 0 0, .slice none 0 0, .slice none 0 0, .slice none 0 0, .int .i64 0] ∧ Blk w3 (z + 1) 34 #[Value.int .i64 0, .int .i64 0] ∧ TD w3 (r + 1) r T0 ∧ Below z w w3) := ⟨hZ0, hF0, hT0, hb0⟩
  clear hZ0 hF0 hT0 hb0
  have HN := hide hn
  clear k1 hn
  go_loopw [5, 6, 7] (fun v5 v6 v7 wr => ∃ (m f i : Nat) (T : Tl), i ≤ n ∧ f ≤ i ∧ m ≤ i ∧ v5 = .int .i64 (m : Int) ∧ v6 = .int .i64 (f : Int) ∧ v7 = .int .i64 (i : Int) ∧ Hid (RP l m f i T ∧ Blk wr z 27 #[Value.slice none 0 0, .slice none 0 0, .slice none 0 0, .slice none 0 0, .slice none 0 0, .int .i64 0] ∧ Blk wr (z + 1) 34 #[Value.int .i64 0, .int .i64 0] ∧ TD wr (r + 1) r T ∧ Below z w wr)) (fun _ _ v7 _ => n - (intOf v7).toNat)
  case atStart => exact ⟨0, 0, 0, T0, by omega, by omega, by omega, rfl, rfl, rfl, RP.start l, HH.out⟩
  case round =>
    obtain ⟨m, f, i, T, hin, hfi, hmi, rfl, rfl, rfl, H⟩ := hrel
    rcases Nat.lt_or_ge i n with hlt | hge
    · obtain ⟨c, hc⟩ : ∃ c, l[i]? = some c := ⟨_, List.getElem?_eq_getElem (by rw [HN.out]; omega)⟩
      have ek := ba_at (S := S) (k := i) (c := c) (by rw [hSl]; exact hc)
      have i1 : (i : Int) < (n : Int) := by omega
      have i2 : (i : Int) ≤ (n : Int) := by omega
      by_cases h10 : c = 10
      · have q1 : ((c.toNat : Int) != 10) = false := by rw [h10]; rfl
        have g2 : (f : Int) ≤ (i : Int) := by omega
        have hXk := hX.out f i
        obtain ⟨hRP, hZ, hF, hT, hb⟩ := H.out
        have hst := hRP.line hfi (by rw [hc, h10]) (by rw [HN.out]; omega)
        have hwd := lnW_words (l := (l.drop f).take (i - f)) (by rw [List.length_take, List.length_drop, HN.out]; omega)
        have hW := words_calls ((l.drop f).take (i - f)) wr (by rw [List.length_take, List.length_drop, HN.out]; omega)
        have HS := hide hst
        have HWD := hide hwd
        clear hRP hZ hF hT hb hst hwd h10 hc
        go_wp2_with fail
        refine hW.mono ?_
        clear hW hXk
        rintro e w4 ⟨v, rfl, hown, hb4⟩
        obtain ⟨o, cp, rfl, hcp, hws⟩ := row_words hown
        obtain ⟨hRP, hZ, hF, hT, hb⟩ := H.out
        have H4 : Hid (Blk w4 z 27 #[Value.slice none 0 0, .slice none 0 0, .slice none 0 0, .slice none 0 0, .slice none 0 0, .int .i64 0] ∧ Blk w4 (z + 1) 34 #[Value.int .i64 0, .int .i64 0] ∧ TD w4 (r + 1) r T ∧ Below z w w4 ∧ T.bnd m) := ⟨hZ.below hb4 hZ.lt, hF.below hb4 hF.lt, hT.low hb4, hb.trans (hb4.mono (by have := hb.size; omega)), hRP.2.1⟩
        clear hRP hZ hF hT hb hown hb4 H
        generalize lnW ((l.drop f).take (i - f)) = L at *
        cases L with
        | nil =>
          clear hcp hws
          go_wp2_with fail
          refine ⟨⟨m + 1, i + 1, i + 1, T, by omega, by omega, by omega, by go_num, by go_num, by go_num, HS.out.1 rfl, H4.out.1, H4.out.2.1, H4.out.2.2.1, H4.out.2.2.2.1⟩, ?_⟩
          simp [intOf] <;> omega
        | cons hd R' =>
          have hwd := HWD.out
          rw [List.length_cons] at hwd hcp ⊢
          have hone := one_calls r (r + 1) cp o hd R' T w4 H4.out.2.2.1 (H4.out.2.2.2.2.le (by omega)) hws (by omega) hcp (fun x hx => hwd.2 x (by simp [hx]))
          have hnz : (((R'.length + 1 : Nat) : Int) == 0) = false := by rw [beq_eq_false_iff_ne]; omega
          clear hwd hcp hws
          go_wp2_with fail
          refine hone.mono ?_
          clear hone
          rintro e w5 ⟨rfl, hT5, hb5⟩
          have H5 : Hid (Blk w5 z 27 #[Value.slice none 0 0, .slice none 0 0, .slice none 0 0, .slice none 0 0, .slice none 0 0, .int .i64 0] ∧ Blk w5 (z + 1) 34 #[Value.int .i64 0, .int .i64 0] ∧ TD w5 (r + 1) r (lineT T (hd :: R')).2 ∧ Below z w w5) := ⟨H4.out.1.below hb5 (by omega), H4.out.2.1.below hb5 (by omega), hT5, H4.out.2.2.2.1.trans (hb5.mono (by omega))⟩
          clear hT5 hb5 H4
          by_cases he : (lineT T (hd :: R')).1 = 0
          · have hz : (((lineT T (hd :: R')).1 : Int) != 0) = false := by rw [he]; rfl
            have hst := hide (HS.out.1 he)
            clear he
            go_wp2_with fail
            refine ⟨⟨m + 1, i + 1, i + 1, _, by omega, by omega, by omega, by go_num, by go_num, by go_num, hst.out, H5.out⟩, ?_⟩
            simp [intOf] <;> omega
          · have hz : (((lineT T (hd :: R')).1 : Int) != 0) = true := by rw [bne_iff_ne]; omega
            have hst := hide ((HS.out.2 he).symm.trans HR.out)
            have HNE := hide he
            obtain ⟨hZ, hF, hT, hb⟩ := H5.out
            have hF8 := hF.setRow_far (g' := z) (by omega) #[Value.slice none 0 0, .slice none 0 0, .slice none 0 0, .slice none 0 0, .slice none 0 0, .int .i64 0]
            have hb8 : Hid (Below z w ((w5.setRow z #[Value.slice none 0 0, .slice none 0 0, .slice none 0 0, .slice none 0 0, .slice none 0 0, .int .i64 0]).setRow (z + 1) #[Value.int .i64 ((lineT T (hd :: R')).1 : Int), .int .i64 ((m : Int) + 1)])) := below_setRow (below_setRow hb (Nat.le_refl _) _) (by omega) _
            clear he hT hb H5
            go_wp2_with (first | (refine wpList_store_row rfl 27 _ _ rfl z #[Value.slice none 0 0, .slice none 0 0, .slice none 0 0, .slice none 0 0, .slice none 0 0, .int .i64 0] rfl rfl 27 _ hZ (by kernel_rfl) rfl (by kernel_rfl) ?_) | (refine wpList_store_row rfl 34 _ _ rfl (z + 1) #[Value.int .i64 ((lineT T (hd :: R')).1 : Int), .int .i64 ((m : Int) + 1)] rfl rfl 34 _ hF8 (by kernel_rfl) rfl (by kernel_rfl) ?_))
            refine bodyPost_ret (results_cc rfl rfl ((hZ.setRow #[Value.slice none 0 0, .slice none 0 0, .slice none 0 0, .slice none 0 0, .slice none 0 0, .int .i64 0]).setRow_far (by omega) _) Tryd.underlying27 rfl (by kernel_rfl) rfl (hF8.setRow _) Tryd.underlying34 rfl (by kernel_rfl)) rfl ?_
            rw [← hst.out]
            exact ⟨by rw [hzz]; exact hb8.out, fun _ => rfl, fun e0 => absurd e0 (by have := HNE.out; exact this)⟩
      · have q2 : ((c.toNat : Int) == 10) = false := u8_ne h10
        have q1 : ((c.toNat : Int) != 10) = true := by rw [bne, q2]; rfl
        have hst : Hid (RP l m f (i + 1) T) := H.out.1.on hfi hc h10
        clear h10 hc
        go_wp2_with fail
        refine ⟨⟨m, f, i + 1, T, by omega, by omega, by omega, rfl, rfl, by go_num, hst.out, H.out.2⟩, ?_⟩
        simp [intOf] <;> omega
    · obtain rfl : i = n := by omega
      have i1 : (decide ((i : Int) < (i : Int))) = false := decide_eq_false (by omega)
      obtain ⟨hRP, hZ, hF, hT, hb⟩ := H.out
      obtain ⟨hG, hbn, hpg⟩ := hRP
      have hdl : l.drop i = [] := List.drop_of_length_le (Nat.le_of_eq HN.out)
      rw [hdl, HR.out, parG] at hG
      have hel : ((l.drop f).take (i - f)).isEmpty = decide (f = i) := by
        have : ((l.drop f).take (i - f)).length = i - f := by rw [List.length_take, List.length_drop, HN.out]; omega
        cases e : (l.drop f).take (i - f) with
        | nil => rw [e] at this; simp at this; simp; omega
        | cons a b => rw [e] at this; simp at this; simp; omega
      rw [hel] at hG
      have hF8 := hF.setRow_far (g' := z) (by omega) #[Value.slice none 0 0, .slice none 0 0, .slice none 0 0, .slice none 0 0, .slice none 0 0, .int .i64 0]
      have hb8 : ∀ F8, Below z w ((wr.setRow z #[Value.slice none 0 0, .slice none 0 0, .slice none 0 0, .slice none 0 0, .slice none 0 0, .int .i64 0]).setRow (z + 1) F8) := fun F8 => below_setRow (below_setRow hb (Nat.le_refl _) _) (by omega) _
      have HB8 := hide hb8
      by_cases hfe : f = i
      · rw [if_pos (by rw [hfe]; exact decide_eq_true rfl)] at hG
        have f1 : (decide ((f : Int) < (i : Int))) = false := decide_eq_false (by omega)
        have f2 : (decide (f < i)) = false := decide_eq_false (by omega)
        have hG2 := hide hG
        obtain ⟨hrb, hbs, vp, s0, s1, s2, ve, Q, hB, hS⟩ := hT
        have HB := hide hB
        have HS := hide hS
        have HP := hide hpg
        have HBN := hide hbn
        have HZ := hide hZ
        have HF := hide hF
        have HB0 := hide hb
        have c0 : Hid (wr.cell? ⟨r, 0, none⟩ = some (.int .i64 (oI T.pg))) := hB.cell 0
        have c1 : Hid (wr.cell? ⟨r, 1, none⟩ = some (.int .i64 (oI T.bd))) := hB.cell 1
        clear hel hG hfe hbn hpg hB hS hb hb8 H
        cases hp : T.pg with
        | none =>
          have c0 : wr.cell? ⟨r, 0, none⟩ = some (.int .i64 (-1)) := by have := c0.out; rw [hp] at this; exact this
          have d0 : (decide ((-1 : Int) < 0)) = true := rfl
          have EW : Hid (parW T = .inl (5, 0)) := by unfold Hid parW; rw [hp]
          clear hp
          go_wp2_with (first | (refine wpList_store_row rfl 27 _ _ rfl z #[Value.slice none 0 0, .slice none 0 0, .slice none 0 0, .slice none 0 0, .slice none 0 0, .int .i64 0] rfl rfl 27 _ hZ (by kernel_rfl) rfl (by kernel_rfl) ?_) | (refine wpList_store_row rfl 34 _ _ rfl (z + 1) #[Value.int .i64 5, .int .i64 0] rfl rfl 34 _ hF8 (by kernel_rfl) rfl (by kernel_rfl) ?_))
          refine bodyPost_ret (results_cc rfl rfl ((hZ.setRow #[Value.slice none 0 0, .slice none 0 0, .slice none 0 0, .slice none 0 0, .slice none 0 0, .int .i64 0]).setRow_far (by omega) _) Tryd.underlying27 rfl (by kernel_rfl) rfl (hF8.setRow _) Tryd.underlying34 rfl (by kernel_rfl)) rfl ?_
          rw [← hG2.out]
          refine ⟨by rw [hzz]; exact HB8.out _, fun e0 => absurd rfl e0, fun _ => ?_⟩
          rw [EW.out]
          rfl
        | some p =>
          have c0 : wr.cell? ⟨r, 0, none⟩ = some (.int .i64 (p : Int)) := by have := c0.out; rw [hp] at this; exact this
          have d0 : (decide ((p : Int) < 0)) = false := decide_eq_false (by omega)
          cases hbd : T.bd with
          | none =>
            have c1 : wr.cell? ⟨r, 1, none⟩ = some (.int .i64 (-1)) := by have := c1.out; rw [hbd] at this; exact this
            have d1 : (decide ((-1 : Int) < 0)) = true := rfl
            have EW : Hid (parW T = .inl (5, 0)) := by unfold Hid parW; rw [hp, hbd]
            clear hp hbd
            go_wp2_with (first | (refine wpList_store_row rfl 27 _ _ rfl z #[Value.slice none 0 0, .slice none 0 0, .slice none 0 0, .slice none 0 0, .slice none 0 0, .int .i64 0] rfl rfl 27 _ hZ (by kernel_rfl) rfl (by kernel_rfl) ?_) | (refine wpList_store_row rfl 34 _ _ rfl (z + 1) #[Value.int .i64 5, .int .i64 0] rfl rfl 34 _ hF8 (by kernel_rfl) rfl (by kernel_rfl) ?_))
            refine bodyPost_ret (results_cc rfl rfl ((hZ.setRow #[Value.slice none 0 0, .slice none 0 0, .slice none 0 0, .slice none 0 0, .slice none 0 0, .int .i64 0]).setRow_far (by omega) _) Tryd.underlying27 rfl (by kernel_rfl) rfl (hF8.setRow _) Tryd.underlying34 rfl (by kernel_rfl)) rfl ?_
            rw [← hG2.out]
            refine ⟨by rw [hzz]; exact HB8.out _, fun e0 => absurd rfl e0, fun _ => ?_⟩
            rw [EW.out]
            rfl
          | some b =>
            have c1 : wr.cell? ⟨r, 1, none⟩ = some (.int .i64 (b : Int)) := by have := c1.out; rw [hbd] at this; exact this
            have d1 : (decide ((b : Int) < 0)) = false := decide_eq_false (by omega)
            have hpr := HP.out p hp
            obtain ⟨po, pc, pO, pCp, rfl, hPB⟩ := HS.out.pieces
            have hnp : T.ps.length ≤ maxLen := by have := HBN.out.ap; unfold maxLen; omega
            have c2 : wr.cell? ⟨r, 2, none⟩ = some (.slice po T.ps.length pc) := HB.out.cell 2
            have hrl := HB.out.lt
            have hww : Below wr.heap.size wr wr := Below.refl _ _
            have hzr : z < r := by omega
            by_cases hfit : fitP (p * 8192) T.ps
            · have hmk := fun W (h : Below wr.heap.size wr W) => rk_ok p (p * 8192) po T.ps.length pc (psA T.ps) pO (psN T.ps) pCp (psB T.ps) W hpr rfl hnp ((hPB.below h (Nat.le_refl _)).mono h.size) hfit
              have EW : Hid (parW T = if (chkT T p b).1 ≠ 0 then .inl ((chkT T p b).1, 0) else .inr (p, b, T)) := by unfold Hid parW; rw [hp, hbd]; dsimp only; rw [if_pos hfit]
              have HPR := hide hpr
              clear hp hbd hfit hPB hnp hpr
              go_wp2_with fail
              refine wp_region_held_drew (S := fun W => Below wr.heap.size wr W ∧ W.cell? ⟨r, 0, none⟩ = some (.int .i64 (p : Int)) ∧ W.cell? ⟨r, 2, none⟩ = some (.slice po T.ps.length pc)) (by kernel_rfl) ⟨(by first | exact hww.drew | exact hww | exact Below.drew hww), (by first | exact c0.drew | exact c0 | exact Below.drew c0), (by first | exact c2.drew | exact c2 | exact Below.drew c2)⟩ (fun hS0 => ?_)
              clear hww c0 c2
              change wpAnyH _ _ _ _ _ 15 #[false, false, false, false, false, false, false, false, false, false, false, false, false, false, false] _ _
              generalize wr.drew = v0 at *
              refine wpAnyH_take (i := 0) (v := ?_) rfl (by kernel_rfl) (by kernel_rfl) (by kernel_rfl) (fun _ _ _ h => h) (Or.inl ⟨by rfl, ?_⟩) hS0 ?_
              rotate_left
              · (intro w hSw; (try dsimp only at hSw); go_simp; try with_reducible rfl)
              simp only [List.getElem_toArray, List.getElem_cons_zero, List.getElem_cons_succ, Act.put, List.setIfInBounds_toArray, List.set_cons_zero, List.set_cons_succ]
              refine wpAnyH_take (i := 1) (v := ?_) rfl (by kernel_rfl) (by kernel_rfl) (by kernel_rfl) (fun _ _ _ h => h) (Or.inl ⟨by rfl, ?_⟩) hS0 ?_
              rotate_left
              · (intro w hSw; (try dsimp only at hSw); go_simp; try with_reducible rfl)
              simp only [List.getElem_toArray, List.getElem_cons_zero, List.getElem_cons_succ, Act.put, List.setIfInBounds_toArray, List.set_cons_zero, List.set_cons_succ]
              refine wpAnyH_take (i := 2) (v := ?_) rfl (by kernel_rfl) (by kernel_rfl) (by kernel_rfl) (fun _ _ _ h => h) (Or.inl ⟨by rfl, ?_⟩) hS0 ?_
              rotate_left
              · (intro w hSw; (try dsimp only at hSw); go_simp; try with_reducible rfl)
              simp only [List.getElem_toArray, List.getElem_cons_zero, List.getElem_cons_succ, Act.put, List.setIfInBounds_toArray, List.set_cons_zero, List.set_cons_succ]
              refine wpAnyH_take (i := 3) (v := ?_) rfl (by kernel_rfl) (by kernel_rfl) (by kernel_rfl) (fun _ _ _ h => h) (Or.inl ⟨by rfl, ?_⟩) hS0 ?_
              rotate_left
              · (intro w hSw; (try dsimp only at hSw); go_simp; try with_reducible rfl)
              simp only [List.getElem_toArray, List.getElem_cons_zero, List.getElem_cons_succ, Act.put, List.setIfInBounds_toArray, List.set_cons_zero, List.set_cons_succ]
              refine wpAnyH_take (i := 4) (v := ?_) rfl (by kernel_rfl) (by kernel_rfl) (by kernel_rfl) (fun _ _ _ h => h) (Or.inl ⟨by rfl, ?_⟩) hS0 ?_
              rotate_left
              · (intro w hSw; (try dsimp only at hSw); go_simp; try with_reducible rfl)
              simp only [List.getElem_toArray, List.getElem_cons_zero, List.getElem_cons_succ, Act.put, List.setIfInBounds_toArray, List.set_cons_zero, List.set_cons_succ]
              refine wpAnyH_take (i := 5) (v := ?_) rfl (by kernel_rfl) (by kernel_rfl) (by kernel_rfl) (fun _ _ _ h => h) (Or.inl ⟨by rfl, ?_⟩) hS0 ?_
              rotate_left
              · (intro w hSw; (try dsimp only at hSw); go_simp; try with_reducible rfl)
              simp only [List.getElem_toArray, List.getElem_cons_zero, List.getElem_cons_succ, Act.put, List.setIfInBounds_toArray, List.set_cons_zero, List.set_cons_succ]
              refine wpAnyH_take (i := 6) (v := ?_) rfl (by kernel_rfl) (by kernel_rfl) (by kernel_rfl) (fun _ _ _ h => h) (Or.inl ⟨by rfl, ?_⟩) hS0 ?_
              rotate_left
              · (intro w hSw; (try dsimp only at hSw); go_simp; try with_reducible rfl)
              simp only [List.getElem_toArray, List.getElem_cons_zero, List.getElem_cons_succ, Act.put, List.setIfInBounds_toArray, List.set_cons_zero, List.set_cons_succ]
              refine wpAnyH_take (i := 7) (v := ?_) rfl (by kernel_rfl) (by kernel_rfl) (by kernel_rfl) (fun _ _ _ h => h) (Or.inl ⟨by rfl, ?_⟩) hS0 ?_
              rotate_left
              · (intro w hSw; (try dsimp only at hSw); go_simp; try with_reducible rfl)
              simp only [List.getElem_toArray, List.getElem_cons_zero, List.getElem_cons_succ, Act.put, List.setIfInBounds_toArray, List.set_cons_zero, List.set_cons_succ]
              refine wpAnyH_ready (rs := [8, 12]) (by kernel_rfl) (by simp) ?_
              refine AllReadyH.cons rfl (fun K hK => ?_) ?_
              · -- call 8
                go_simp
                refine (hmk _ hS0.1).mono ?_
                rintro e v1 ⟨g, rfl, hRW, hge, hb1⟩
                (try have hgg : gf < g := Nat.lt_of_lt_of_le (Blk.lt hf) hge)
                (try go_simp)
                refine hK.out _ _ ⟨(by first | exact hS0.1.below hb1 hS0.1.lt | exact hS0.1.trans (hb1.mono hS0.1.size) | exact hS0.1.trans (hb1.mono (by have := hS0.1.size; omega)) | exact (hb1.cell (cell_lt hS0.1)).trans hS0.1 | exact hS0.1.below hb1 (Nat.le_refl _) | exact hS0.1.low hb1 | exact hS0.1.below hb1 | exact hS0.1.trans (Only.of hb1)), (by first | exact hS0.2.1.below hb1 hS0.2.1.lt | exact hS0.2.1.trans (hb1.mono hS0.2.1.size) | exact hS0.2.1.trans (hb1.mono (by have := hS0.2.1.size; omega)) | exact (hb1.cell (cell_lt hS0.2.1)).trans hS0.2.1 | exact hS0.2.1.below hb1 (Nat.le_refl _) | exact hS0.2.1.low hb1 | exact hS0.2.1.below hb1 | exact hS0.2.1.trans (Only.of hb1)), (by first | exact hS0.2.2.below hb1 hS0.2.2.lt | exact hS0.2.2.trans (hb1.mono hS0.2.2.size) | exact hS0.2.2.trans (hb1.mono (by have := hS0.2.2.size; omega)) | exact (hb1.cell (cell_lt hS0.2.2)).trans hS0.2.2 | exact hS0.2.2.below hb1 (Nat.le_refl _) | exact hS0.2.2.low hb1 | exact hS0.2.2.below hb1 | exact hS0.2.2.trans (Only.of hb1))⟩ (fun hS1 => ?_)
                clear hK K
                have hT : Below wr.heap.size wr v1 ∧ v1.cell? ⟨r, 0, none⟩ = some (.int .i64 (p : Int)) ∧ v1.cell? ⟨r, 2, none⟩ = some (.slice po T.ps.length pc) ∧ Blk v1 g 5 (rowN (p * 8192) (romF T.ps)) := ⟨hS1.1, hS1.2.1, hS1.2.2, hRW⟩
                refine wpAnyH_mono (S' := fun W => Below wr.heap.size wr W ∧ W.cell? ⟨r, 0, none⟩ = some (.int .i64 (p : Int)) ∧ W.cell? ⟨r, 2, none⟩ = some (.slice po T.ps.length pc) ∧ Blk W g 5 (rowN (p * 8192) (romF T.ps))) (fun _ h => ⟨h.1, h.2.1, h.2.2.1⟩) ?_
                clear hS1
                have hS1 := hT
                clear hT
                clear hb1 hS0
                simp only [List.getElem_toArray, List.getElem_cons_zero, List.getElem_cons_succ, Act.put, List.setIfInBounds_toArray, List.set_cons_zero, List.set_cons_succ]
                refine wpAnyH_take (i := 9) (v := ?_) rfl (by kernel_rfl) (by kernel_rfl) (by kernel_rfl) (fun _ _ _ h => h) (Or.inl ⟨by rfl, ?_⟩) hS1 ?_
                rotate_left
                · (intro w hSw; (try dsimp only at hSw); go_simp; try with_reducible rfl)
                simp only [List.getElem_toArray, List.getElem_cons_zero, List.getElem_cons_succ, Act.put, List.setIfInBounds_toArray, List.set_cons_zero, List.set_cons_succ]
                refine wpAnyH_take (i := 10) (v := ?_) rfl (by kernel_rfl) (by kernel_rfl) (by kernel_rfl) (fun _ _ _ h => h) (Or.inl ⟨by rfl, ?_⟩) hS1 ?_
                rotate_left
                · (intro w hSw; (try dsimp only at hSw); go_simp; try with_reducible rfl)
                simp only [List.getElem_toArray, List.getElem_cons_zero, List.getElem_cons_succ, Act.put, List.setIfInBounds_toArray, List.set_cons_zero, List.set_cons_succ]
                refine wpAnyH_take (i := 11) (v := ?_) rfl (by kernel_rfl) (by kernel_rfl) (by kernel_rfl) (fun _ _ _ h => h) (Or.inl ⟨by rfl, ?_⟩) hS1 ?_
                rotate_left
                · (intro w hSw; (try dsimp only at hSw); go_simp; try with_reducible rfl)
                simp only [List.getElem_toArray, List.getElem_cons_zero, List.getElem_cons_succ, Act.put, List.setIfInBounds_toArray, List.set_cons_zero, List.set_cons_succ]
                refine wpAnyH_ready (rs := [12]) (by kernel_rfl) (by simp) ?_
                refine AllReadyH.cons rfl (fun K hK => ?_) AllReadyH.nil
                go_simp
                have hb2 : Below v1.heap.size v1 (v1.alloc (.cells #[Value.int .i64 0, .int .i64 0] 34)) := Bl.alloc (Below.refl _ _) _
                refine hK.out _ _ ⟨(by first | exact hS1.1.below hb2 hS1.1.lt | exact hS1.1.trans (hb2.mono hS1.1.size) | exact hS1.1.trans (hb2.mono (by have := hS1.1.size; omega)) | exact (hb2.cell (cell_lt hS1.1)).trans hS1.1 | exact hS1.1.below hb2 (Nat.le_refl _) | exact hS1.1.low hb2 | exact hS1.1.below hb2 | exact hS1.1.trans (Only.of hb2)), (by first | exact hS1.2.1.below hb2 hS1.2.1.lt | exact hS1.2.1.trans (hb2.mono hS1.2.1.size) | exact hS1.2.1.trans (hb2.mono (by have := hS1.2.1.size; omega)) | exact (hb2.cell (cell_lt hS1.2.1)).trans hS1.2.1 | exact hS1.2.1.below hb2 (Nat.le_refl _) | exact hS1.2.1.low hb2 | exact hS1.2.1.below hb2 | exact hS1.2.1.trans (Only.of hb2)), (by first | exact hS1.2.2.1.below hb2 hS1.2.2.1.lt | exact hS1.2.2.1.trans (hb2.mono hS1.2.2.1.size) | exact hS1.2.2.1.trans (hb2.mono (by have := hS1.2.2.1.size; omega)) | exact (hb2.cell (cell_lt hS1.2.2.1)).trans hS1.2.2.1 | exact hS1.2.2.1.below hb2 (Nat.le_refl _) | exact hS1.2.2.1.low hb2 | exact hS1.2.2.1.below hb2 | exact hS1.2.2.1.trans (Only.of hb2)), (by first | exact hS1.2.2.2.below hb2 hS1.2.2.2.lt | exact hS1.2.2.2.trans (hb2.mono hS1.2.2.2.size) | exact hS1.2.2.2.trans (hb2.mono (by have := hS1.2.2.2.size; omega)) | exact (hb2.cell (cell_lt hS1.2.2.2)).trans hS1.2.2.2 | exact hS1.2.2.2.below hb2 (Nat.le_refl _) | exact hS1.2.2.2.low hb2 | exact hS1.2.2.2.below hb2 | exact hS1.2.2.2.trans (Only.of hb2))⟩ (fun hS2 => ?_)
                clear hK K
                have hf_2 : Blk (v1.alloc (.cells #[Value.int .i64 0, .int .i64 0] 34)) v1.heap.size 34 #[Value.int .i64 0, .int .i64 0] := Blk.new _ _ _
                have hlt_hRW_hf := hS1.2.2.2.lt
                have hge_gf := hS1.1.size
                clear hb2 hS1
                generalize v1.alloc (.cells #[Value.int .i64 0, .int .i64 0] 34) = v2 at *
                generalize v1.heap.size = gf at *
                simp only [List.getElem_toArray, List.getElem_cons_zero, List.getElem_cons_succ, Act.put, List.setIfInBounds_toArray, List.set_cons_zero, List.set_cons_succ]
                refine wpAnyH_take (i := 13) (v := ?_) rfl (by kernel_rfl) (by kernel_rfl) (by kernel_rfl) (fun _ _ _ h => h) (Or.inl ⟨by rfl, ?_⟩) hS2 ?_
                rotate_left
                · (intro w hSw; (try dsimp only at hSw); go_simp; try with_reducible rfl)
                simp only [List.getElem_toArray, List.getElem_cons_zero, List.getElem_cons_succ, Act.put, List.setIfInBounds_toArray, List.set_cons_zero, List.set_cons_succ]
                refine wpAnyH_ready (rs := [14]) (by kernel_rfl) (by simp) ?_
                refine AllReadyH.cons rfl (fun K hK => ?_) AllReadyH.nil
                rw [if_pos (show Region.wanted _ _ = true from by rfl)]
                refine wp_store_row 34 _ _ rfl gf #[Value.int .i64 0, .int .i64 0] rfl rfl 34 _ hf_2 (by kernel_rfl) rfl (by kernel_rfl) ?_
                refine hK.out _ _ ⟨(by first | exact below_setRow hS2.1 (by omega) _ | exact hS2.1.setRow_far (by omega) _ | exact (World.cell?_of_block (setRow_block _ _ _ _ (by first | omega | (dsimp only; omega)))).trans hS2.1 | exact hS2.1.only (only_setRow _ _ _) (fun k e => by (have e : k = _ := e); omega)), (by first | exact below_setRow hS2.2.1 (by omega) _ | exact hS2.2.1.setRow_far (by omega) _ | exact (World.cell?_of_block (setRow_block _ _ _ _ (by first | omega | (dsimp only; omega)))).trans hS2.2.1 | exact hS2.2.1.only (only_setRow _ _ _) (fun k e => by (have e : k = _ := e); omega)), (by first | exact below_setRow hS2.2.2.1 (by omega) _ | exact hS2.2.2.1.setRow_far (by omega) _ | exact (World.cell?_of_block (setRow_block _ _ _ _ (by first | omega | (dsimp only; omega)))).trans hS2.2.2.1 | exact hS2.2.2.1.only (only_setRow _ _ _) (fun k e => by (have e : k = _ := e); omega)), (by first | exact below_setRow hS2.2.2.2 (by omega) _ | exact hS2.2.2.2.setRow_far (by omega) _ | exact (World.cell?_of_block (setRow_block _ _ _ _ (by first | omega | (dsimp only; omega)))).trans hS2.2.2.2 | exact hS2.2.2.2.only (only_setRow _ _ _) (fun k e => by (have e : k = _ := e); omega))⟩ (fun hS3 => ?_)
                clear hK K
                have hf_3 := hf_2.setRow #[Value.int .i64 0, .int .i64 0]
                clear hS2
                generalize v2.setRow gf #[Value.int .i64 0, .int .i64 0] = v3 at *
                simp only [List.getElem_toArray, List.getElem_cons_zero, List.getElem_cons_succ, Act.put, List.setIfInBounds_toArray, List.set_cons_zero, List.set_cons_succ]
                refine wpAnyH_done (by kernel_rfl) ?_ _
                have hww := hS3.1
                have c0 := hS3.2.1
                have c2 := hS3.2.2.1
                have hRW := hS3.2.2.2
                clear hS3
                have hf := hf_3
                generalize v3 = wa at *
                clear hmk c0 c2
                have kf : wa.cell? ⟨gf, 0, none⟩ = some (.int .i64 0) := hf.cell 0
                obtain ⟨o0, x0, rfl, n0, q0⟩ := row_nums HS.out.r0
                obtain ⟨o1, x1, rfl, n1, q1⟩ := row_nums HS.out.r1
                obtain ⟨o2, x2, rfl, n2, q2⟩ := row_nums HS.out.r2
                obtain ⟨oe, xe, rfl, nE, hsp⟩ := row_edges HS.out.re
                replace hsp : CapS oe T x0 x1 x2 := ⟨hsp, q0.2, q1.2, q2.2⟩
                clear q0 q1 q2
                have hBa := HB.out.below hww hrl
                have k1 : wa.cell? ⟨r, 1, none⟩ = some (.int .i64 (b : Int)) := (hww.cell (cell_lt c1)).trans c1
                have k6 : wa.cell? ⟨r, 6, none⟩ = some (.slice oe T.ed.length xe) := hBa.cell 6
                have hmd : MD wa r 3 (.slice o0 T.f0.length x0) (.slice o1 T.f1.length x1) (.slice o2 T.f2.length x2) := MD.of hBa rfl rfl rfl
                have hra : r < wa.heap.size := hBa.lt
                have hwb : Below wa.heap.size wa wa := Below.refl _ _
                have NN : Hid (NumsAt wr .u8 o0 T.f0.length (byF T.f0) ∧ NumsAt wr .u8 o1 T.f1.length (byF T.f1) ∧ NumsAt wr .u8 o2 T.f2.length (byF T.f2) ∧ EdgB wr oe T.ed.length (edSt T.ed) (edLn T.ed) (edUp T.ed) wr.heap.size ∧ CapS oe T x0 x1 x2 ∧ Blk wa g 5 (rowN (p * 8192) (romF T.ps))) := ⟨n0, n1, n2, nE, hsp, hRW⟩
                have HWW := hide hww
                clear c1 hf hRW hww hZ hF8 n0 n1 n2 nE hsp hBa
                go_wp2_with fail
                refine wp_region_held_drew (S := fun W => Below wa.heap.size wa W ∧ W.cell? ⟨r, 1, none⟩ = some (.int .i64 (b : Int)) ∧ W.cell? ⟨r, 6, none⟩ = some (.slice oe T.ed.length xe) ∧ MD W r 3 (.slice o0 T.f0.length x0) (.slice o1 T.f1.length x1) (.slice o2 T.f2.length x2)) (by kernel_rfl) ⟨(by first | exact hwb.drew | exact hwb | exact Below.drew hwb), (by first | exact k1.drew | exact k1 | exact Below.drew k1), (by first | exact k6.drew | exact k6 | exact Below.drew k6), (by first | exact hmd.drew | exact hmd | exact Below.drew hmd)⟩ (fun hS0 => ?_)
                clear hwb k1 k6 hmd
                change wpAnyH _ _ _ _ _ 16 #[false, false, false, false, false, false, false, false, false, false, false, false, false, false, false, false] _ _
                generalize wa.drew = v0 at *
                refine wpAnyH_take (i := 0) (v := ?_) rfl (by kernel_rfl) (by kernel_rfl) (by kernel_rfl) (fun _ _ _ h => h) (Or.inl ⟨by rfl, ?_⟩) hS0 ?_
                rotate_left
                · (intro w hSw; (try dsimp only at hSw); go_simp; try with_reducible rfl)
                simp only [List.getElem_toArray, List.getElem_cons_zero, List.getElem_cons_succ, Act.put, List.setIfInBounds_toArray, List.set_cons_zero, List.set_cons_succ]
                refine wpAnyH_take (i := 1) (v := ?_) rfl (by kernel_rfl) (by kernel_rfl) (by kernel_rfl) (fun _ _ _ h => h) (Or.inl ⟨by rfl, ?_⟩) hS0 ?_
                rotate_left
                · (intro w hSw; (try dsimp only at hSw); go_simp; try with_reducible rfl)
                simp only [List.getElem_toArray, List.getElem_cons_zero, List.getElem_cons_succ, Act.put, List.setIfInBounds_toArray, List.set_cons_zero, List.set_cons_succ]
                refine wpAnyH_take (i := 2) (v := ?_) rfl (by kernel_rfl) (by kernel_rfl) (by kernel_rfl) (fun _ _ _ h => h) (Or.inl ⟨by rfl, ?_⟩) hS0 ?_
                rotate_left
                · (intro w hSw; (try dsimp only at hSw); go_simp; try with_reducible rfl)
                simp only [List.getElem_toArray, List.getElem_cons_zero, List.getElem_cons_succ, Act.put, List.setIfInBounds_toArray, List.set_cons_zero, List.set_cons_succ]
                refine wpAnyH_take (i := 3) (v := ?_) rfl (by kernel_rfl) (by kernel_rfl) (by kernel_rfl) (fun _ _ _ h => h) (Or.inl ⟨by rfl, ?_⟩) hS0 ?_
                rotate_left
                · (intro w hSw; (try dsimp only at hSw); go_simp; try with_reducible rfl)
                simp only [List.getElem_toArray, List.getElem_cons_zero, List.getElem_cons_succ, Act.put, List.setIfInBounds_toArray, List.set_cons_zero, List.set_cons_succ]
                refine wpAnyH_take (i := 4) (v := .agg ([Value.slice o0 T.f0.length x0, Value.slice o1 T.f1.length x1, Value.slice o2 T.f2.length x2] : List Value).toArray) rfl (by kernel_rfl) (by kernel_rfl) (by kernel_rfl) (fun _ _ _ h => h) (yieldsIf_load_mid (by rfl) 24 _ rfl r 3 rfl [Value.slice o0 T.f0.length x0, Value.slice o1 T.f1.length x1, Value.slice o2 T.f2.length x2] _ (fun _ h => (h.2.2.2).1) Tryd.underlying24 rfl (by kernel_rfl)) hS0 ?_
                simp only [List.getElem_toArray, List.getElem_cons_zero, List.getElem_cons_succ, Act.put, List.setIfInBounds_toArray, List.set_cons_zero, List.set_cons_succ]
                refine wpAnyH_take (i := 5) (v := ?_) rfl (by kernel_rfl) (by kernel_rfl) (by kernel_rfl) (fun _ _ _ h => h) (Or.inl ⟨by rfl, ?_⟩) hS0 ?_
                rotate_left
                · (intro w hSw; (try dsimp only at hSw); go_simp; try with_reducible rfl)
                simp only [List.getElem_toArray, List.getElem_cons_zero, List.getElem_cons_succ, Act.put, List.setIfInBounds_toArray, List.set_cons_zero, List.set_cons_succ]
                refine wpAnyH_take (i := 6) (v := ?_) rfl (by kernel_rfl) (by kernel_rfl) (by kernel_rfl) (fun _ _ _ h => h) (Or.inl ⟨by rfl, ?_⟩) hS0 ?_
                rotate_left
                · (intro w hSw; (try dsimp only at hSw); go_simp; try with_reducible rfl)
                simp only [List.getElem_toArray, List.getElem_cons_zero, List.getElem_cons_succ, Act.put, List.setIfInBounds_toArray, List.set_cons_zero, List.set_cons_succ]
                refine wpAnyH_take (i := 7) (v := ?_) rfl (by kernel_rfl) (by kernel_rfl) (by kernel_rfl) (fun _ _ _ h => h) (Or.inl ⟨by rfl, ?_⟩) hS0 ?_
                rotate_left
                · (intro w hSw; (try dsimp only at hSw); go_simp; try with_reducible rfl)
                simp only [List.getElem_toArray, List.getElem_cons_zero, List.getElem_cons_succ, Act.put, List.setIfInBounds_toArray, List.set_cons_zero, List.set_cons_succ]
                refine wpAnyH_take (i := 8) (v := ?_) rfl (by kernel_rfl) (by kernel_rfl) (by kernel_rfl) (fun _ _ _ h => h) (Or.inl ⟨by rfl, ?_⟩) hS0 ?_
                rotate_left
                · (intro w hSw; (try dsimp only at hSw); go_simp; try with_reducible rfl)
                simp only [List.getElem_toArray, List.getElem_cons_zero, List.getElem_cons_succ, Act.put, List.setIfInBounds_toArray, List.set_cons_zero, List.set_cons_succ]
                refine wpAnyH_take (i := 9) (v := ?_) rfl (by kernel_rfl) (by kernel_rfl) (by kernel_rfl) (fun _ _ _ h => h) (Or.inl ⟨by rfl, ?_⟩) hS0 ?_
                rotate_left
                · (intro w hSw; (try dsimp only at hSw); go_simp; try with_reducible rfl)
                simp only [List.getElem_toArray, List.getElem_cons_zero, List.getElem_cons_succ, Act.put, List.setIfInBounds_toArray, List.set_cons_zero, List.set_cons_succ]
                refine wpAnyH_take (i := 10) (v := ?_) rfl (by kernel_rfl) (by kernel_rfl) (by kernel_rfl) (fun _ _ _ h => h) (Or.inl ⟨by rfl, ?_⟩) hS0 ?_
                rotate_left
                · (intro w hSw; (try dsimp only at hSw); go_simp; try with_reducible rfl)
                simp only [List.getElem_toArray, List.getElem_cons_zero, List.getElem_cons_succ, Act.put, List.setIfInBounds_toArray, List.set_cons_zero, List.set_cons_succ]
                refine wpAnyH_take (i := 11) (v := ?_) rfl (by kernel_rfl) (by kernel_rfl) (by kernel_rfl) (fun _ _ _ h => h) (Or.inl ⟨by rfl, ?_⟩) hS0 ?_
                rotate_left
                · (intro w hSw; (try dsimp only at hSw); go_simp; try with_reducible rfl)
                simp only [List.getElem_toArray, List.getElem_cons_zero, List.getElem_cons_succ, Act.put, List.setIfInBounds_toArray, List.set_cons_zero, List.set_cons_succ]
                refine wpAnyH_take (i := 12) (v := ?_) rfl (by kernel_rfl) (by kernel_rfl) (by kernel_rfl) (fun _ _ _ h => h) (Or.inl ⟨by rfl, ?_⟩) hS0 ?_
                rotate_left
                · (intro w hSw; (try dsimp only at hSw); go_simp; try with_reducible rfl)
                simp only [List.getElem_toArray, List.getElem_cons_zero, List.getElem_cons_succ, Act.put, List.setIfInBounds_toArray, List.set_cons_zero, List.set_cons_succ]
                refine wpAnyH_take (i := 13) (v := ?_) rfl (by kernel_rfl) (by kernel_rfl) (by kernel_rfl) (fun _ _ _ h => h) (Or.inl ⟨by rfl, ?_⟩) hS0 ?_
                rotate_left
                · (intro w hSw; (try dsimp only at hSw); go_simp; try with_reducible rfl)
                simp only [List.getElem_toArray, List.getElem_cons_zero, List.getElem_cons_succ, Act.put, List.setIfInBounds_toArray, List.set_cons_zero, List.set_cons_succ]
                refine wpAnyH_ready (rs := [14]) (by kernel_rfl) (by simp) ?_
                refine AllReadyH.cons rfl (fun K hK => ?_) AllReadyH.nil
                go_simp
                have hb1 : Below v0.heap.size v0 (v0.alloc (.cells #[Value.slice none 0 0, .slice none 0 0, .slice none 0 0, .slice none 0 0, .slice none 0 0, .int .i64 0] 27)) := Bl.alloc (Below.refl _ _) _
                refine hK.out _ _ ⟨(by first | exact hS0.1.below hb1 hS0.1.lt | exact hS0.1.trans (hb1.mono hS0.1.size) | exact hS0.1.trans (hb1.mono (by have := hS0.1.size; omega)) | exact (hb1.cell (cell_lt hS0.1)).trans hS0.1 | exact hS0.1.below hb1 (Nat.le_refl _) | exact hS0.1.low hb1 | exact hS0.1.below hb1 | exact hS0.1.trans (Only.of hb1)), (by first | exact hS0.2.1.below hb1 hS0.2.1.lt | exact hS0.2.1.trans (hb1.mono hS0.2.1.size) | exact hS0.2.1.trans (hb1.mono (by have := hS0.2.1.size; omega)) | exact (hb1.cell (cell_lt hS0.2.1)).trans hS0.2.1 | exact hS0.2.1.below hb1 (Nat.le_refl _) | exact hS0.2.1.low hb1 | exact hS0.2.1.below hb1 | exact hS0.2.1.trans (Only.of hb1)), (by first | exact hS0.2.2.1.below hb1 hS0.2.2.1.lt | exact hS0.2.2.1.trans (hb1.mono hS0.2.2.1.size) | exact hS0.2.2.1.trans (hb1.mono (by have := hS0.2.2.1.size; omega)) | exact (hb1.cell (cell_lt hS0.2.2.1)).trans hS0.2.2.1 | exact hS0.2.2.1.below hb1 (Nat.le_refl _) | exact hS0.2.2.1.low hb1 | exact hS0.2.2.1.below hb1 | exact hS0.2.2.1.trans (Only.of hb1)), (by first | exact hS0.2.2.2.below hb1 hS0.2.2.2.lt | exact hS0.2.2.2.trans (hb1.mono hS0.2.2.2.size) | exact hS0.2.2.2.trans (hb1.mono (by have := hS0.2.2.2.size; omega)) | exact (hb1.cell (cell_lt hS0.2.2.2)).trans hS0.2.2.2 | exact hS0.2.2.2.below hb1 (Nat.le_refl _) | exact hS0.2.2.2.low hb1 | exact hS0.2.2.2.below hb1 | exact hS0.2.2.2.trans (Only.of hb1))⟩ (fun hS1 => ?_)
                clear hK K
                have hs_1 : Blk (v0.alloc (.cells #[Value.slice none 0 0, .slice none 0 0, .slice none 0 0, .slice none 0 0, .slice none 0 0, .int .i64 0] 27)) v0.heap.size 27 #[Value.slice none 0 0, .slice none 0 0, .slice none 0 0, .slice none 0 0, .slice none 0 0, .int .i64 0] := Blk.new _ _ _
                have hge_gs := hS0.1.size
                clear hb1 hS0
                generalize v0.alloc (.cells #[Value.slice none 0 0, .slice none 0 0, .slice none 0 0, .slice none 0 0, .slice none 0 0, .int .i64 0] 27) = v1 at *
                generalize v0.heap.size = gs at *
                simp only [List.getElem_toArray, List.getElem_cons_zero, List.getElem_cons_succ, Act.put, List.setIfInBounds_toArray, List.set_cons_zero, List.set_cons_succ]
                refine wpAnyH_ready (rs := [15]) (by kernel_rfl) (by simp) ?_
                refine AllReadyH.cons rfl (fun K hK => ?_) AllReadyH.nil
                rw [if_pos (show Region.wanted _ _ = true from by rfl)]
                refine wp_store_row 27 _ _ rfl gs #[Value.slice (some ⟨g, 0, none⟩) (p * 8192) (p * 8192), Value.slice o0 T.f0.length x0, Value.slice o1 T.f1.length x1, Value.slice o2 T.f2.length x2, Value.slice oe T.ed.length xe, Value.int .i64 (b : Int)] rfl rfl 27 _ hs_1 (by kernel_rfl) rfl (by kernel_rfl) ?_
                refine hK.out _ _ ⟨(by first | exact below_setRow hS1.1 (by omega) _ | exact hS1.1.setRow_far (by omega) _ | exact (World.cell?_of_block (setRow_block _ _ _ _ (by first | omega | (dsimp only; omega)))).trans hS1.1 | exact hS1.1.only (only_setRow _ _ _) (fun k e => by (have e : k = _ := e); omega)), (by first | exact below_setRow hS1.2.1 (by omega) _ | exact hS1.2.1.setRow_far (by omega) _ | exact (World.cell?_of_block (setRow_block _ _ _ _ (by first | omega | (dsimp only; omega)))).trans hS1.2.1 | exact hS1.2.1.only (only_setRow _ _ _) (fun k e => by (have e : k = _ := e); omega)), (by first | exact below_setRow hS1.2.2.1 (by omega) _ | exact hS1.2.2.1.setRow_far (by omega) _ | exact (World.cell?_of_block (setRow_block _ _ _ _ (by first | omega | (dsimp only; omega)))).trans hS1.2.2.1 | exact hS1.2.2.1.only (only_setRow _ _ _) (fun k e => by (have e : k = _ := e); omega)), (by first | exact below_setRow hS1.2.2.2 (by omega) _ | exact hS1.2.2.2.setRow_far (by omega) _ | exact (World.cell?_of_block (setRow_block _ _ _ _ (by first | omega | (dsimp only; omega)))).trans hS1.2.2.2 | exact hS1.2.2.2.only (only_setRow _ _ _) (fun k e => by (have e : k = _ := e); omega))⟩ (fun hS2 => ?_)
                clear hK K
                have hs_2 := hs_1.setRow #[Value.slice (some ⟨g, 0, none⟩) (p * 8192) (p * 8192), Value.slice o0 T.f0.length x0, Value.slice o1 T.f1.length x1, Value.slice o2 T.f2.length x2, Value.slice oe T.ed.length xe, Value.int .i64 (b : Int)]
                clear hS1
                generalize v1.setRow gs #[Value.slice (some ⟨g, 0, none⟩) (p * 8192) (p * 8192), Value.slice o0 T.f0.length x0, Value.slice o1 T.f1.length x1, Value.slice o2 T.f2.length x2, Value.slice oe T.ed.length xe, Value.int .i64 (b : Int)] = v2 at *
                simp only [List.getElem_toArray, List.getElem_cons_zero, List.getElem_cons_succ, Act.put, List.setIfInBounds_toArray, List.set_cons_zero, List.set_cons_succ]
                refine wpAnyH_done (by kernel_rfl) ?_ _
                have hwb := hS2.1
                have k1 := hS2.2.1
                have k6 := hS2.2.2.1
                have hmd := hS2.2.2.2
                clear hS2
                have hs := hs_2
                generalize v2 = wb at *
                have hbw : Below wr.heap.size wr wb := HWW.out.trans (hwb.mono HWW.out.size)
                have hE := (NN.out.2.2.2.1.low hbw).mono hbw.size
                have hpm : p * 8192 ≤ maxLen := by have := HPR.out; unfold maxLen; omega
                have hck : Calls Tryd.prog 10 #[.agg #[Value.slice (some ⟨g, 0, none⟩) (p * 8192) (p * 8192), Value.slice o0 T.f0.length x0, Value.slice o1 T.f1.length x1, Value.slice o2 T.f2.length x2, Value.slice oe T.ed.length xe, Value.int .i64 (b : Int)]] wb fun e w' => e = .returned (.agg #[.int .i64 ((chkT T p b).1 : Int), .int .i64 ((chkT T p b).2 : Int)]) ∧ Below wb.heap.size wb w' := rsCheck_calls (some ⟨g, 0, none⟩) o0 o1 o2 oe (p * 8192) (p * 8192) T.f0.length x0 T.f1.length x1 T.f2.length x2 T.ed.length xe (b : Int) (edSt T.ed) (edLn T.ed) (edUp T.ed) wb hpm hE
                generalize chkT T p b = C at *
                have hfd := run_field_flt
                have HSB := hide hs
                clear hE k1 k6 hmd hpm kf
                go_wp2_with (first | (refine wpList_load_row rfl 27 _ rfl gs rfl _ #[Value.slice (some ⟨g, 0, none⟩) (p * 8192) (p * 8192), Value.slice o0 T.f0.length x0, Value.slice o1 T.f1.length x1, Value.slice o2 T.f2.length x2, Value.slice oe T.ed.length xe, Value.int .i64 (b : Int)] (0, 0) _ hs Tryd.underlying27 rfl (by kernel_rfl) ?_))
                refine hck.mono ?_
                clear hck hs
                rintro e w5 ⟨rfl, hb5⟩
                have hb05 := hbw.trans (hb5.mono hbw.size)
                have hZ5 := HZ.out.below hb05 HZ.out.lt
                have hF50 := HF.out.below hb05 HF.out.lt
                have hs5 := HSB.out.below hb5 HSB.out.lt
                have hz5 : Below z w w5 := HB0.out.trans (hb05.mono (by have := HB0.out.size; omega))
                have HZ5 := hide hz5
                have HWA : Hid (Below wa.heap.size wa w5) := hwb.trans (hb5.mono hwb.size)
                clear hbw hwb hb5 hz5
                by_cases hC : C.1 = 0
                · have q1 : ((C.1 : Int) != 0) = false := by rw [hC]; rfl
                  have HC := hide hC
                  have hF5 := hF50.setRow_far (g' := z) (by omega) #[Value.slice (some ⟨g, 0, none⟩) (p * 8192) (p * 8192), Value.slice o0 T.f0.length x0, Value.slice o1 T.f1.length x1, Value.slice o2 T.f2.length x2, Value.slice oe T.ed.length xe, Value.int .i64 (b : Int)]
                  have hO1 := only_setRowB w5 z #[Value.slice (some ⟨g, 0, none⟩) (p * 8192) (p * 8192), Value.slice o0 T.f0.length x0, Value.slice o1 T.f1.length x1, Value.slice o2 T.f2.length x2, Value.slice oe T.ed.length xe, Value.int .i64 (b : Int)]
                  have hO2 := only_setRowB (w5.setRow z #[Value.slice (some ⟨g, 0, none⟩) (p * 8192) (p * 8192), Value.slice o0 T.f0.length x0, Value.slice o1 T.f1.length x1, Value.slice o2 T.f2.length x2, Value.slice oe T.ed.length xe, Value.int .i64 (b : Int)]) (z + 1) #[Value.int .i64 0, .int .i64 0]
                  have noZ : ∀ x, Value.int .u8 x ∉ (#[Value.slice none 0 0, .slice none 0 0, .slice none 0 0, .slice none 0 0, .slice none 0 0, .int .i64 0] : Array Value).toList := by simp
                  have noF : ∀ x, Value.int .u8 x ∉ (#[Value.int .i64 0, .int .i64 0] : Array Value).toList := by simp
                  have FIN : Hid (NumsAt ((w5.setRow z #[Value.slice (some ⟨g, 0, none⟩) (p * 8192) (p * 8192), Value.slice o0 T.f0.length x0, Value.slice o1 T.f1.length x1, Value.slice o2 T.f2.length x2, Value.slice oe T.ed.length xe, Value.int .i64 (b : Int)]).setRow (z + 1) #[Value.int .i64 0, .int .i64 0]) .u8 o0 T.f0.length (byF T.f0) ∧ NumsAt ((w5.setRow z #[Value.slice (some ⟨g, 0, none⟩) (p * 8192) (p * 8192), Value.slice o0 T.f0.length x0, Value.slice o1 T.f1.length x1, Value.slice o2 T.f2.length x2, Value.slice oe T.ed.length xe, Value.int .i64 (b : Int)]).setRow (z + 1) #[Value.int .i64 0, .int .i64 0]) .u8 o1 T.f1.length (byF T.f1) ∧ NumsAt ((w5.setRow z #[Value.slice (some ⟨g, 0, none⟩) (p * 8192) (p * 8192), Value.slice o0 T.f0.length x0, Value.slice o1 T.f1.length x1, Value.slice o2 T.f2.length x2, Value.slice oe T.ed.length xe, Value.int .i64 (b : Int)]).setRow (z + 1) #[Value.int .i64 0, .int .i64 0]) .u8 o2 T.f2.length (byF T.f2) ∧ EdgB ((w5.setRow z #[Value.slice (some ⟨g, 0, none⟩) (p * 8192) (p * 8192), Value.slice o0 T.f0.length x0, Value.slice o1 T.f1.length x1, Value.slice o2 T.f2.length x2, Value.slice oe T.ed.length xe, Value.int .i64 (b : Int)]).setRow (z + 1) #[Value.int .i64 0, .int .i64 0]) oe T.ed.length (edSt T.ed) (edLn T.ed) (edUp T.ed) ((w5.setRow z #[Value.slice (some ⟨g, 0, none⟩) (p * 8192) (p * 8192), Value.slice o0 T.f0.length x0, Value.slice o1 T.f1.length x1, Value.slice o2 T.f2.length x2, Value.slice oe T.ed.length xe, Value.int .i64 (b : Int)]).setRow (z + 1) #[Value.int .i64 0, .int .i64 0]).heap.size ∧ NumsAt ((w5.setRow z #[Value.slice (some ⟨g, 0, none⟩) (p * 8192) (p * 8192), Value.slice o0 T.f0.length x0, Value.slice o1 T.f1.length x1, Value.slice o2 T.f2.length x2, Value.slice oe T.ed.length xe, Value.int .i64 (b : Int)]).setRow (z + 1) #[Value.int .i64 0, .int .i64 0]) .u8 (some ⟨g, 0, none⟩) (p * 8192) (romF T.ps)) := by
                    obtain ⟨n0, n1, n2, nE, hsp, hR⟩ := NN.out
                    have le := Nat.le_refl wr.heap.size
                    have hR5 : NumsAt w5 .u8 (some ⟨g, 0, none⟩) (p * 8192) (romF T.ps) := RW.nums (w := w5) (Blk.below hR HWA.out (Blk.lt hR))
                    exact ⟨nums_apart (nums_apart (n0.below hb05 le) hZ5 noZ hO1) hF5 noF hO2, nums_apart (nums_apart (n1.below hb05 le) hZ5 noZ hO1) hF5 noF hO2, nums_apart (nums_apart (n2.below hb05 le) hZ5 noZ hO1) hF5 noF hO2, (edg_apart (edg_apart (nE.low hb05) hZ5 noZ hO1) hF5 noF hO2).mono (Nat.le_trans hb05.size (Nat.le_trans hO1.size hO2.size)), nums_apart (nums_apart hR5 hZ5 noZ hO1) hF5 noF hO2⟩
                  clear hC hO1 hO2 noZ noF hb05 hF50
                  go_wp2_with (first | (refine wpList_load_row rfl 27 _ rfl gs rfl _ #[Value.slice (some ⟨g, 0, none⟩) (p * 8192) (p * 8192), Value.slice o0 T.f0.length x0, Value.slice o1 T.f1.length x1, Value.slice o2 T.f2.length x2, Value.slice oe T.ed.length xe, Value.int .i64 (b : Int)] (0, 0) _ hs5 Tryd.underlying27 rfl (by kernel_rfl) ?_) | (refine wpList_store_row rfl 27 _ _ rfl z #[Value.slice (some ⟨g, 0, none⟩) (p * 8192) (p * 8192), Value.slice o0 T.f0.length x0, Value.slice o1 T.f1.length x1, Value.slice o2 T.f2.length x2, Value.slice oe T.ed.length xe, Value.int .i64 (b : Int)] rfl rfl 27 _ hZ5 (by kernel_rfl) rfl (by kernel_rfl) ?_) | (refine wpList_store_row rfl 34 _ _ rfl (z + 1) #[Value.int .i64 0, .int .i64 0] rfl rfl 34 _ hF5 (by kernel_rfl) rfl (by kernel_rfl) ?_))
                  refine bodyPost_ret (results_cc rfl rfl ((hZ5.setRow #[Value.slice (some ⟨g, 0, none⟩) (p * 8192) (p * 8192), Value.slice o0 T.f0.length x0, Value.slice o1 T.f1.length x1, Value.slice o2 T.f2.length x2, Value.slice oe T.ed.length xe, Value.int .i64 (b : Int)]).setRow_far (by omega) _) Tryd.underlying27 rfl (by kernel_rfl) rfl (hF5.setRow _) Tryd.underlying34 rfl (by kernel_rfl)) rfl ?_
                  rw [← hG2.out]
                  refine ⟨by rw [hzz]; exact below_setRow (below_setRow HZ5.out (Nat.le_refl _) _) (by omega) _, fun e0 => absurd rfl e0, fun _ => ?_⟩
                  dsimp only
                  rw [EW.out, if_neg (by have := HC.out; omega)]
                  obtain ⟨y0, y1, y2, y3, y4⟩ := FIN.out
                  have hpm : p * 8192 ≤ maxLen := by have := HPR.out; unfold maxLen; omega
                  exact ⟨_, _, _, _, _, _, _, _, _, _, rfl, y4, y0, y1, y2, y3, NN.out.2.2.2.2.1, Nat.le_refl _, hpm⟩
                · have q1 : ((C.1 : Int) != 0) = true := by rw [bne_iff_ne]; omega
                  have HC := hide hC
                  have hF5 := hF50.setRow_far (g' := z) (by omega) #[Value.slice none 0 0, .slice none 0 0, .slice none 0 0, .slice none 0 0, .slice none 0 0, .int .i64 0]
                  clear hC hF50 hs5
                  go_wp2_with (first | (refine wpList_store_row rfl 27 _ _ rfl z #[Value.slice none 0 0, .slice none 0 0, .slice none 0 0, .slice none 0 0, .slice none 0 0, .int .i64 0] rfl rfl 27 _ hZ5 (by kernel_rfl) rfl (by kernel_rfl) ?_) | (refine wpList_store_row rfl 34 _ _ rfl (z + 1) #[Value.int .i64 (C.1 : Int), .int .i64 0] rfl rfl 34 _ hF5 (by kernel_rfl) rfl (by kernel_rfl) ?_))
                  refine bodyPost_ret (results_cc rfl rfl ((hZ5.setRow #[Value.slice none 0 0, .slice none 0 0, .slice none 0 0, .slice none 0 0, .slice none 0 0, .int .i64 0]).setRow_far (by omega) _) Tryd.underlying27 rfl (by kernel_rfl) rfl (hF5.setRow _) Tryd.underlying34 rfl (by kernel_rfl)) rfl ?_
                  rw [← hG2.out]
                  refine ⟨by rw [hzz]; exact below_setRow (below_setRow HZ5.out (Nat.le_refl _) _) (by omega) _, fun e0 => absurd rfl e0, fun _ => ?_⟩
                  dsimp only
                  rw [EW.out, if_pos HC.out]
                  rfl
              refine AllReadyH.cons rfl (fun K hK => ?_) ?_
              · -- alloc 12
                go_simp
                have hb1 : Below v0.heap.size v0 (v0.alloc (.cells #[Value.int .i64 0, .int .i64 0] 34)) := Bl.alloc (Below.refl _ _) _
                refine hK.out _ _ ⟨(by first | exact hS0.1.below hb1 hS0.1.lt | exact hS0.1.trans (hb1.mono hS0.1.size) | exact hS0.1.trans (hb1.mono (by have := hS0.1.size; omega)) | exact (hb1.cell (cell_lt hS0.1)).trans hS0.1 | exact hS0.1.below hb1 (Nat.le_refl _) | exact hS0.1.low hb1 | exact hS0.1.below hb1 | exact hS0.1.trans (Only.of hb1)), (by first | exact hS0.2.1.below hb1 hS0.2.1.lt | exact hS0.2.1.trans (hb1.mono hS0.2.1.size) | exact hS0.2.1.trans (hb1.mono (by have := hS0.2.1.size; omega)) | exact (hb1.cell (cell_lt hS0.2.1)).trans hS0.2.1 | exact hS0.2.1.below hb1 (Nat.le_refl _) | exact hS0.2.1.low hb1 | exact hS0.2.1.below hb1 | exact hS0.2.1.trans (Only.of hb1)), (by first | exact hS0.2.2.below hb1 hS0.2.2.lt | exact hS0.2.2.trans (hb1.mono hS0.2.2.size) | exact hS0.2.2.trans (hb1.mono (by have := hS0.2.2.size; omega)) | exact (hb1.cell (cell_lt hS0.2.2)).trans hS0.2.2 | exact hS0.2.2.below hb1 (Nat.le_refl _) | exact hS0.2.2.low hb1 | exact hS0.2.2.below hb1 | exact hS0.2.2.trans (Only.of hb1))⟩ (fun hS1 => ?_)
                clear hK K
                have hf_1 : Blk (v0.alloc (.cells #[Value.int .i64 0, .int .i64 0] 34)) v0.heap.size 34 #[Value.int .i64 0, .int .i64 0] := Blk.new _ _ _
                have hge_gf := hS0.1.size
                clear hb1 hS0
                generalize v0.alloc (.cells #[Value.int .i64 0, .int .i64 0] 34) = v1 at *
                generalize v0.heap.size = gf at *
                simp only [List.getElem_toArray, List.getElem_cons_zero, List.getElem_cons_succ, Act.put, List.setIfInBounds_toArray, List.set_cons_zero, List.set_cons_succ]
                refine wpAnyH_ready (rs := [8]) (by kernel_rfl) (by simp) ?_
                refine AllReadyH.cons rfl (fun K hK => ?_) AllReadyH.nil
                go_simp
                refine (hmk _ hS1.1).mono ?_
                rintro e v2 ⟨g, rfl, hRW, hge, hb2⟩
                (try have hgg : gf < g := Nat.lt_of_lt_of_le (Blk.lt hf_1) hge)
                (try go_simp)
                refine hK.out _ _ ⟨(by first | exact hS1.1.below hb2 hS1.1.lt | exact hS1.1.trans (hb2.mono hS1.1.size) | exact hS1.1.trans (hb2.mono (by have := hS1.1.size; omega)) | exact (hb2.cell (cell_lt hS1.1)).trans hS1.1 | exact hS1.1.below hb2 (Nat.le_refl _) | exact hS1.1.low hb2 | exact hS1.1.below hb2 | exact hS1.1.trans (Only.of hb2)), (by first | exact hS1.2.1.below hb2 hS1.2.1.lt | exact hS1.2.1.trans (hb2.mono hS1.2.1.size) | exact hS1.2.1.trans (hb2.mono (by have := hS1.2.1.size; omega)) | exact (hb2.cell (cell_lt hS1.2.1)).trans hS1.2.1 | exact hS1.2.1.below hb2 (Nat.le_refl _) | exact hS1.2.1.low hb2 | exact hS1.2.1.below hb2 | exact hS1.2.1.trans (Only.of hb2)), (by first | exact hS1.2.2.below hb2 hS1.2.2.lt | exact hS1.2.2.trans (hb2.mono hS1.2.2.size) | exact hS1.2.2.trans (hb2.mono (by have := hS1.2.2.size; omega)) | exact (hb2.cell (cell_lt hS1.2.2)).trans hS1.2.2 | exact hS1.2.2.below hb2 (Nat.le_refl _) | exact hS1.2.2.low hb2 | exact hS1.2.2.below hb2 | exact hS1.2.2.trans (Only.of hb2))⟩ (fun hS2 => ?_)
                clear hK K
                have hf_2 := hf_1.below hb2 hf_1.lt
                have hT : Below wr.heap.size wr v2 ∧ v2.cell? ⟨r, 0, none⟩ = some (.int .i64 (p : Int)) ∧ v2.cell? ⟨r, 2, none⟩ = some (.slice po T.ps.length pc) ∧ Blk v2 g 5 (rowN (p * 8192) (romF T.ps)) := ⟨hS2.1, hS2.2.1, hS2.2.2, hRW⟩
                refine wpAnyH_mono (S' := fun W => Below wr.heap.size wr W ∧ W.cell? ⟨r, 0, none⟩ = some (.int .i64 (p : Int)) ∧ W.cell? ⟨r, 2, none⟩ = some (.slice po T.ps.length pc) ∧ Blk W g 5 (rowN (p * 8192) (romF T.ps))) (fun _ h => ⟨h.1, h.2.1, h.2.2.1⟩) ?_
                clear hS2
                have hS2 := hT
                clear hT
                clear hb2 hS1
                simp only [List.getElem_toArray, List.getElem_cons_zero, List.getElem_cons_succ, Act.put, List.setIfInBounds_toArray, List.set_cons_zero, List.set_cons_succ]
                refine wpAnyH_take (i := 9) (v := ?_) rfl (by kernel_rfl) (by kernel_rfl) (by kernel_rfl) (fun _ _ _ h => h) (Or.inl ⟨by rfl, ?_⟩) hS2 ?_
                rotate_left
                · (intro w hSw; (try dsimp only at hSw); go_simp; try with_reducible rfl)
                simp only [List.getElem_toArray, List.getElem_cons_zero, List.getElem_cons_succ, Act.put, List.setIfInBounds_toArray, List.set_cons_zero, List.set_cons_succ]
                refine wpAnyH_take (i := 10) (v := ?_) rfl (by kernel_rfl) (by kernel_rfl) (by kernel_rfl) (fun _ _ _ h => h) (Or.inl ⟨by rfl, ?_⟩) hS2 ?_
                rotate_left
                · (intro w hSw; (try dsimp only at hSw); go_simp; try with_reducible rfl)
                simp only [List.getElem_toArray, List.getElem_cons_zero, List.getElem_cons_succ, Act.put, List.setIfInBounds_toArray, List.set_cons_zero, List.set_cons_succ]
                refine wpAnyH_take (i := 11) (v := ?_) rfl (by kernel_rfl) (by kernel_rfl) (by kernel_rfl) (fun _ _ _ h => h) (Or.inl ⟨by rfl, ?_⟩) hS2 ?_
                rotate_left
                · (intro w hSw; (try dsimp only at hSw); go_simp; try with_reducible rfl)
                simp only [List.getElem_toArray, List.getElem_cons_zero, List.getElem_cons_succ, Act.put, List.setIfInBounds_toArray, List.set_cons_zero, List.set_cons_succ]
                refine wpAnyH_take (i := 13) (v := ?_) rfl (by kernel_rfl) (by kernel_rfl) (by kernel_rfl) (fun _ _ _ h => h) (Or.inl ⟨by rfl, ?_⟩) hS2 ?_
                rotate_left
                · (intro w hSw; (try dsimp only at hSw); go_simp; try with_reducible rfl)
                simp only [List.getElem_toArray, List.getElem_cons_zero, List.getElem_cons_succ, Act.put, List.setIfInBounds_toArray, List.set_cons_zero, List.set_cons_succ]
                refine wpAnyH_ready (rs := [14]) (by kernel_rfl) (by simp) ?_
                refine AllReadyH.cons rfl (fun K hK => ?_) AllReadyH.nil
                rw [if_pos (show Region.wanted _ _ = true from by rfl)]
                refine wp_store_row 34 _ _ rfl gf #[Value.int .i64 0, .int .i64 0] rfl rfl 34 _ hf_2 (by kernel_rfl) rfl (by kernel_rfl) ?_
                refine hK.out _ _ ⟨(by first | exact below_setRow hS2.1 (by omega) _ | exact hS2.1.setRow_far (by omega) _ | exact (World.cell?_of_block (setRow_block _ _ _ _ (by first | omega | (dsimp only; omega)))).trans hS2.1 | exact hS2.1.only (only_setRow _ _ _) (fun k e => by (have e : k = _ := e); omega)), (by first | exact below_setRow hS2.2.1 (by omega) _ | exact hS2.2.1.setRow_far (by omega) _ | exact (World.cell?_of_block (setRow_block _ _ _ _ (by first | omega | (dsimp only; omega)))).trans hS2.2.1 | exact hS2.2.1.only (only_setRow _ _ _) (fun k e => by (have e : k = _ := e); omega)), (by first | exact below_setRow hS2.2.2.1 (by omega) _ | exact hS2.2.2.1.setRow_far (by omega) _ | exact (World.cell?_of_block (setRow_block _ _ _ _ (by first | omega | (dsimp only; omega)))).trans hS2.2.2.1 | exact hS2.2.2.1.only (only_setRow _ _ _) (fun k e => by (have e : k = _ := e); omega)), (by first | exact below_setRow hS2.2.2.2 (by omega) _ | exact hS2.2.2.2.setRow_far (by omega) _ | exact (World.cell?_of_block (setRow_block _ _ _ _ (by first | omega | (dsimp only; omega)))).trans hS2.2.2.2 | exact hS2.2.2.2.only (only_setRow _ _ _) (fun k e => by (have e : k = _ := e); omega))⟩ (fun hS3 => ?_)
                clear hK K
                have hf_3 := hf_2.setRow #[Value.int .i64 0, .int .i64 0]
                clear hS2
                generalize v2.setRow gf #[Value.int .i64 0, .int .i64 0] = v3 at *
                simp only [List.getElem_toArray, List.getElem_cons_zero, List.getElem_cons_succ, Act.put, List.setIfInBounds_toArray, List.set_cons_zero, List.set_cons_succ]
                refine wpAnyH_done (by kernel_rfl) ?_ _
                have hww := hS3.1
                have c0 := hS3.2.1
                have c2 := hS3.2.2.1
                have hRW := hS3.2.2.2
                clear hS3
                have hf := hf_3
                generalize v3 = wa at *
                clear hmk c0 c2
                have kf : wa.cell? ⟨gf, 0, none⟩ = some (.int .i64 0) := hf.cell 0
                obtain ⟨o0, x0, rfl, n0, q0⟩ := row_nums HS.out.r0
                obtain ⟨o1, x1, rfl, n1, q1⟩ := row_nums HS.out.r1
                obtain ⟨o2, x2, rfl, n2, q2⟩ := row_nums HS.out.r2
                obtain ⟨oe, xe, rfl, nE, hsp⟩ := row_edges HS.out.re
                replace hsp : CapS oe T x0 x1 x2 := ⟨hsp, q0.2, q1.2, q2.2⟩
                clear q0 q1 q2
                have hBa := HB.out.below hww hrl
                have k1 : wa.cell? ⟨r, 1, none⟩ = some (.int .i64 (b : Int)) := (hww.cell (cell_lt c1)).trans c1
                have k6 : wa.cell? ⟨r, 6, none⟩ = some (.slice oe T.ed.length xe) := hBa.cell 6
                have hmd : MD wa r 3 (.slice o0 T.f0.length x0) (.slice o1 T.f1.length x1) (.slice o2 T.f2.length x2) := MD.of hBa rfl rfl rfl
                have hra : r < wa.heap.size := hBa.lt
                have hwb : Below wa.heap.size wa wa := Below.refl _ _
                have NN : Hid (NumsAt wr .u8 o0 T.f0.length (byF T.f0) ∧ NumsAt wr .u8 o1 T.f1.length (byF T.f1) ∧ NumsAt wr .u8 o2 T.f2.length (byF T.f2) ∧ EdgB wr oe T.ed.length (edSt T.ed) (edLn T.ed) (edUp T.ed) wr.heap.size ∧ CapS oe T x0 x1 x2 ∧ Blk wa g 5 (rowN (p * 8192) (romF T.ps))) := ⟨n0, n1, n2, nE, hsp, hRW⟩
                have HWW := hide hww
                clear c1 hf hRW hww hZ hF8 n0 n1 n2 nE hsp hBa
                go_wp2_with fail
                refine wp_region_held_drew (S := fun W => Below wa.heap.size wa W ∧ W.cell? ⟨r, 1, none⟩ = some (.int .i64 (b : Int)) ∧ W.cell? ⟨r, 6, none⟩ = some (.slice oe T.ed.length xe) ∧ MD W r 3 (.slice o0 T.f0.length x0) (.slice o1 T.f1.length x1) (.slice o2 T.f2.length x2)) (by kernel_rfl) ⟨(by first | exact hwb.drew | exact hwb | exact Below.drew hwb), (by first | exact k1.drew | exact k1 | exact Below.drew k1), (by first | exact k6.drew | exact k6 | exact Below.drew k6), (by first | exact hmd.drew | exact hmd | exact Below.drew hmd)⟩ (fun hS0 => ?_)
                clear hwb k1 k6 hmd
                change wpAnyH _ _ _ _ _ 16 #[false, false, false, false, false, false, false, false, false, false, false, false, false, false, false, false] _ _
                generalize wa.drew = v0 at *
                refine wpAnyH_take (i := 0) (v := ?_) rfl (by kernel_rfl) (by kernel_rfl) (by kernel_rfl) (fun _ _ _ h => h) (Or.inl ⟨by rfl, ?_⟩) hS0 ?_
                rotate_left
                · (intro w hSw; (try dsimp only at hSw); go_simp; try with_reducible rfl)
                simp only [List.getElem_toArray, List.getElem_cons_zero, List.getElem_cons_succ, Act.put, List.setIfInBounds_toArray, List.set_cons_zero, List.set_cons_succ]
                refine wpAnyH_take (i := 1) (v := ?_) rfl (by kernel_rfl) (by kernel_rfl) (by kernel_rfl) (fun _ _ _ h => h) (Or.inl ⟨by rfl, ?_⟩) hS0 ?_
                rotate_left
                · (intro w hSw; (try dsimp only at hSw); go_simp; try with_reducible rfl)
                simp only [List.getElem_toArray, List.getElem_cons_zero, List.getElem_cons_succ, Act.put, List.setIfInBounds_toArray, List.set_cons_zero, List.set_cons_succ]
                refine wpAnyH_take (i := 2) (v := ?_) rfl (by kernel_rfl) (by kernel_rfl) (by kernel_rfl) (fun _ _ _ h => h) (Or.inl ⟨by rfl, ?_⟩) hS0 ?_
                rotate_left
                · (intro w hSw; (try dsimp only at hSw); go_simp; try with_reducible rfl)
                simp only [List.getElem_toArray, List.getElem_cons_zero, List.getElem_cons_succ, Act.put, List.setIfInBounds_toArray, List.set_cons_zero, List.set_cons_succ]
                refine wpAnyH_take (i := 3) (v := ?_) rfl (by kernel_rfl) (by kernel_rfl) (by kernel_rfl) (fun _ _ _ h => h) (Or.inl ⟨by rfl, ?_⟩) hS0 ?_
                rotate_left
                · (intro w hSw; (try dsimp only at hSw); go_simp; try with_reducible rfl)
                simp only [List.getElem_toArray, List.getElem_cons_zero, List.getElem_cons_succ, Act.put, List.setIfInBounds_toArray, List.set_cons_zero, List.set_cons_succ]
                refine wpAnyH_take (i := 4) (v := .agg ([Value.slice o0 T.f0.length x0, Value.slice o1 T.f1.length x1, Value.slice o2 T.f2.length x2] : List Value).toArray) rfl (by kernel_rfl) (by kernel_rfl) (by kernel_rfl) (fun _ _ _ h => h) (yieldsIf_load_mid (by rfl) 24 _ rfl r 3 rfl [Value.slice o0 T.f0.length x0, Value.slice o1 T.f1.length x1, Value.slice o2 T.f2.length x2] _ (fun _ h => (h.2.2.2).1) Tryd.underlying24 rfl (by kernel_rfl)) hS0 ?_
                simp only [List.getElem_toArray, List.getElem_cons_zero, List.getElem_cons_succ, Act.put, List.setIfInBounds_toArray, List.set_cons_zero, List.set_cons_succ]
                refine wpAnyH_take (i := 5) (v := ?_) rfl (by kernel_rfl) (by kernel_rfl) (by kernel_rfl) (fun _ _ _ h => h) (Or.inl ⟨by rfl, ?_⟩) hS0 ?_
                rotate_left
                · (intro w hSw; (try dsimp only at hSw); go_simp; try with_reducible rfl)
                simp only [List.getElem_toArray, List.getElem_cons_zero, List.getElem_cons_succ, Act.put, List.setIfInBounds_toArray, List.set_cons_zero, List.set_cons_succ]
                refine wpAnyH_take (i := 6) (v := ?_) rfl (by kernel_rfl) (by kernel_rfl) (by kernel_rfl) (fun _ _ _ h => h) (Or.inl ⟨by rfl, ?_⟩) hS0 ?_
                rotate_left
                · (intro w hSw; (try dsimp only at hSw); go_simp; try with_reducible rfl)
                simp only [List.getElem_toArray, List.getElem_cons_zero, List.getElem_cons_succ, Act.put, List.setIfInBounds_toArray, List.set_cons_zero, List.set_cons_succ]
                refine wpAnyH_take (i := 7) (v := ?_) rfl (by kernel_rfl) (by kernel_rfl) (by kernel_rfl) (fun _ _ _ h => h) (Or.inl ⟨by rfl, ?_⟩) hS0 ?_
                rotate_left
                · (intro w hSw; (try dsimp only at hSw); go_simp; try with_reducible rfl)
                simp only [List.getElem_toArray, List.getElem_cons_zero, List.getElem_cons_succ, Act.put, List.setIfInBounds_toArray, List.set_cons_zero, List.set_cons_succ]
                refine wpAnyH_take (i := 8) (v := ?_) rfl (by kernel_rfl) (by kernel_rfl) (by kernel_rfl) (fun _ _ _ h => h) (Or.inl ⟨by rfl, ?_⟩) hS0 ?_
                rotate_left
                · (intro w hSw; (try dsimp only at hSw); go_simp; try with_reducible rfl)
                simp only [List.getElem_toArray, List.getElem_cons_zero, List.getElem_cons_succ, Act.put, List.setIfInBounds_toArray, List.set_cons_zero, List.set_cons_succ]
                refine wpAnyH_take (i := 9) (v := ?_) rfl (by kernel_rfl) (by kernel_rfl) (by kernel_rfl) (fun _ _ _ h => h) (Or.inl ⟨by rfl, ?_⟩) hS0 ?_
                rotate_left
                · (intro w hSw; (try dsimp only at hSw); go_simp; try with_reducible rfl)
                simp only [List.getElem_toArray, List.getElem_cons_zero, List.getElem_cons_succ, Act.put, List.setIfInBounds_toArray, List.set_cons_zero, List.set_cons_succ]
                refine wpAnyH_take (i := 10) (v := ?_) rfl (by kernel_rfl) (by kernel_rfl) (by kernel_rfl) (fun _ _ _ h => h) (Or.inl ⟨by rfl, ?_⟩) hS0 ?_
                rotate_left
                · (intro w hSw; (try dsimp only at hSw); go_simp; try with_reducible rfl)
                simp only [List.getElem_toArray, List.getElem_cons_zero, List.getElem_cons_succ, Act.put, List.setIfInBounds_toArray, List.set_cons_zero, List.set_cons_succ]
                refine wpAnyH_take (i := 11) (v := ?_) rfl (by kernel_rfl) (by kernel_rfl) (by kernel_rfl) (fun _ _ _ h => h) (Or.inl ⟨by rfl, ?_⟩) hS0 ?_
                rotate_left
                · (intro w hSw; (try dsimp only at hSw); go_simp; try with_reducible rfl)
                simp only [List.getElem_toArray, List.getElem_cons_zero, List.getElem_cons_succ, Act.put, List.setIfInBounds_toArray, List.set_cons_zero, List.set_cons_succ]
                refine wpAnyH_take (i := 12) (v := ?_) rfl (by kernel_rfl) (by kernel_rfl) (by kernel_rfl) (fun _ _ _ h => h) (Or.inl ⟨by rfl, ?_⟩) hS0 ?_
                rotate_left
                · (intro w hSw; (try dsimp only at hSw); go_simp; try with_reducible rfl)
                simp only [List.getElem_toArray, List.getElem_cons_zero, List.getElem_cons_succ, Act.put, List.setIfInBounds_toArray, List.set_cons_zero, List.set_cons_succ]
                refine wpAnyH_take (i := 13) (v := ?_) rfl (by kernel_rfl) (by kernel_rfl) (by kernel_rfl) (fun _ _ _ h => h) (Or.inl ⟨by rfl, ?_⟩) hS0 ?_
                rotate_left
                · (intro w hSw; (try dsimp only at hSw); go_simp; try with_reducible rfl)
                simp only [List.getElem_toArray, List.getElem_cons_zero, List.getElem_cons_succ, Act.put, List.setIfInBounds_toArray, List.set_cons_zero, List.set_cons_succ]
                refine wpAnyH_ready (rs := [14]) (by kernel_rfl) (by simp) ?_
                refine AllReadyH.cons rfl (fun K hK => ?_) AllReadyH.nil
                go_simp
                have hb1 : Below v0.heap.size v0 (v0.alloc (.cells #[Value.slice none 0 0, .slice none 0 0, .slice none 0 0, .slice none 0 0, .slice none 0 0, .int .i64 0] 27)) := Bl.alloc (Below.refl _ _) _
                refine hK.out _ _ ⟨(by first | exact hS0.1.below hb1 hS0.1.lt | exact hS0.1.trans (hb1.mono hS0.1.size) | exact hS0.1.trans (hb1.mono (by have := hS0.1.size; omega)) | exact (hb1.cell (cell_lt hS0.1)).trans hS0.1 | exact hS0.1.below hb1 (Nat.le_refl _) | exact hS0.1.low hb1 | exact hS0.1.below hb1 | exact hS0.1.trans (Only.of hb1)), (by first | exact hS0.2.1.below hb1 hS0.2.1.lt | exact hS0.2.1.trans (hb1.mono hS0.2.1.size) | exact hS0.2.1.trans (hb1.mono (by have := hS0.2.1.size; omega)) | exact (hb1.cell (cell_lt hS0.2.1)).trans hS0.2.1 | exact hS0.2.1.below hb1 (Nat.le_refl _) | exact hS0.2.1.low hb1 | exact hS0.2.1.below hb1 | exact hS0.2.1.trans (Only.of hb1)), (by first | exact hS0.2.2.1.below hb1 hS0.2.2.1.lt | exact hS0.2.2.1.trans (hb1.mono hS0.2.2.1.size) | exact hS0.2.2.1.trans (hb1.mono (by have := hS0.2.2.1.size; omega)) | exact (hb1.cell (cell_lt hS0.2.2.1)).trans hS0.2.2.1 | exact hS0.2.2.1.below hb1 (Nat.le_refl _) | exact hS0.2.2.1.low hb1 | exact hS0.2.2.1.below hb1 | exact hS0.2.2.1.trans (Only.of hb1)), (by first | exact hS0.2.2.2.below hb1 hS0.2.2.2.lt | exact hS0.2.2.2.trans (hb1.mono hS0.2.2.2.size) | exact hS0.2.2.2.trans (hb1.mono (by have := hS0.2.2.2.size; omega)) | exact (hb1.cell (cell_lt hS0.2.2.2)).trans hS0.2.2.2 | exact hS0.2.2.2.below hb1 (Nat.le_refl _) | exact hS0.2.2.2.low hb1 | exact hS0.2.2.2.below hb1 | exact hS0.2.2.2.trans (Only.of hb1))⟩ (fun hS1 => ?_)
                clear hK K
                have hs_1 : Blk (v0.alloc (.cells #[Value.slice none 0 0, .slice none 0 0, .slice none 0 0, .slice none 0 0, .slice none 0 0, .int .i64 0] 27)) v0.heap.size 27 #[Value.slice none 0 0, .slice none 0 0, .slice none 0 0, .slice none 0 0, .slice none 0 0, .int .i64 0] := Blk.new _ _ _
                have hge_gs := hS0.1.size
                clear hb1 hS0
                generalize v0.alloc (.cells #[Value.slice none 0 0, .slice none 0 0, .slice none 0 0, .slice none 0 0, .slice none 0 0, .int .i64 0] 27) = v1 at *
                generalize v0.heap.size = gs at *
                simp only [List.getElem_toArray, List.getElem_cons_zero, List.getElem_cons_succ, Act.put, List.setIfInBounds_toArray, List.set_cons_zero, List.set_cons_succ]
                refine wpAnyH_ready (rs := [15]) (by kernel_rfl) (by simp) ?_
                refine AllReadyH.cons rfl (fun K hK => ?_) AllReadyH.nil
                rw [if_pos (show Region.wanted _ _ = true from by rfl)]
                refine wp_store_row 27 _ _ rfl gs #[Value.slice (some ⟨g, 0, none⟩) (p * 8192) (p * 8192), Value.slice o0 T.f0.length x0, Value.slice o1 T.f1.length x1, Value.slice o2 T.f2.length x2, Value.slice oe T.ed.length xe, Value.int .i64 (b : Int)] rfl rfl 27 _ hs_1 (by kernel_rfl) rfl (by kernel_rfl) ?_
                refine hK.out _ _ ⟨(by first | exact below_setRow hS1.1 (by omega) _ | exact hS1.1.setRow_far (by omega) _ | exact (World.cell?_of_block (setRow_block _ _ _ _ (by first | omega | (dsimp only; omega)))).trans hS1.1 | exact hS1.1.only (only_setRow _ _ _) (fun k e => by (have e : k = _ := e); omega)), (by first | exact below_setRow hS1.2.1 (by omega) _ | exact hS1.2.1.setRow_far (by omega) _ | exact (World.cell?_of_block (setRow_block _ _ _ _ (by first | omega | (dsimp only; omega)))).trans hS1.2.1 | exact hS1.2.1.only (only_setRow _ _ _) (fun k e => by (have e : k = _ := e); omega)), (by first | exact below_setRow hS1.2.2.1 (by omega) _ | exact hS1.2.2.1.setRow_far (by omega) _ | exact (World.cell?_of_block (setRow_block _ _ _ _ (by first | omega | (dsimp only; omega)))).trans hS1.2.2.1 | exact hS1.2.2.1.only (only_setRow _ _ _) (fun k e => by (have e : k = _ := e); omega)), (by first | exact below_setRow hS1.2.2.2 (by omega) _ | exact hS1.2.2.2.setRow_far (by omega) _ | exact (World.cell?_of_block (setRow_block _ _ _ _ (by first | omega | (dsimp only; omega)))).trans hS1.2.2.2 | exact hS1.2.2.2.only (only_setRow _ _ _) (fun k e => by (have e : k = _ := e); omega))⟩ (fun hS2 => ?_)
                clear hK K
                have hs_2 := hs_1.setRow #[Value.slice (some ⟨g, 0, none⟩) (p * 8192) (p * 8192), Value.slice o0 T.f0.length x0, Value.slice o1 T.f1.length x1, Value.slice o2 T.f2.length x2, Value.slice oe T.ed.length xe, Value.int .i64 (b : Int)]
                clear hS1
                generalize v1.setRow gs #[Value.slice (some ⟨g, 0, none⟩) (p * 8192) (p * 8192), Value.slice o0 T.f0.length x0, Value.slice o1 T.f1.length x1, Value.slice o2 T.f2.length x2, Value.slice oe T.ed.length xe, Value.int .i64 (b : Int)] = v2 at *
                simp only [List.getElem_toArray, List.getElem_cons_zero, List.getElem_cons_succ, Act.put, List.setIfInBounds_toArray, List.set_cons_zero, List.set_cons_succ]
                refine wpAnyH_done (by kernel_rfl) ?_ _
                have hwb := hS2.1
                have k1 := hS2.2.1
                have k6 := hS2.2.2.1
                have hmd := hS2.2.2.2
                clear hS2
                have hs := hs_2
                generalize v2 = wb at *
                have hbw : Below wr.heap.size wr wb := HWW.out.trans (hwb.mono HWW.out.size)
                have hE := (NN.out.2.2.2.1.low hbw).mono hbw.size
                have hpm : p * 8192 ≤ maxLen := by have := HPR.out; unfold maxLen; omega
                have hck : Calls Tryd.prog 10 #[.agg #[Value.slice (some ⟨g, 0, none⟩) (p * 8192) (p * 8192), Value.slice o0 T.f0.length x0, Value.slice o1 T.f1.length x1, Value.slice o2 T.f2.length x2, Value.slice oe T.ed.length xe, Value.int .i64 (b : Int)]] wb fun e w' => e = .returned (.agg #[.int .i64 ((chkT T p b).1 : Int), .int .i64 ((chkT T p b).2 : Int)]) ∧ Below wb.heap.size wb w' := rsCheck_calls (some ⟨g, 0, none⟩) o0 o1 o2 oe (p * 8192) (p * 8192) T.f0.length x0 T.f1.length x1 T.f2.length x2 T.ed.length xe (b : Int) (edSt T.ed) (edLn T.ed) (edUp T.ed) wb hpm hE
                generalize chkT T p b = C at *
                have hfd := run_field_flt
                have HSB := hide hs
                clear hE k1 k6 hmd hpm kf
                go_wp2_with (first | (refine wpList_load_row rfl 27 _ rfl gs rfl _ #[Value.slice (some ⟨g, 0, none⟩) (p * 8192) (p * 8192), Value.slice o0 T.f0.length x0, Value.slice o1 T.f1.length x1, Value.slice o2 T.f2.length x2, Value.slice oe T.ed.length xe, Value.int .i64 (b : Int)] (0, 0) _ hs Tryd.underlying27 rfl (by kernel_rfl) ?_))
                refine hck.mono ?_
                clear hck hs
                rintro e w5 ⟨rfl, hb5⟩
                have hb05 := hbw.trans (hb5.mono hbw.size)
                have hZ5 := HZ.out.below hb05 HZ.out.lt
                have hF50 := HF.out.below hb05 HF.out.lt
                have hs5 := HSB.out.below hb5 HSB.out.lt
                have hz5 : Below z w w5 := HB0.out.trans (hb05.mono (by have := HB0.out.size; omega))
                have HZ5 := hide hz5
                have HWA : Hid (Below wa.heap.size wa w5) := hwb.trans (hb5.mono hwb.size)
                clear hbw hwb hb5 hz5
                by_cases hC : C.1 = 0
                · have q1 : ((C.1 : Int) != 0) = false := by rw [hC]; rfl
                  have HC := hide hC
                  have hF5 := hF50.setRow_far (g' := z) (by omega) #[Value.slice (some ⟨g, 0, none⟩) (p * 8192) (p * 8192), Value.slice o0 T.f0.length x0, Value.slice o1 T.f1.length x1, Value.slice o2 T.f2.length x2, Value.slice oe T.ed.length xe, Value.int .i64 (b : Int)]
                  have hO1 := only_setRowB w5 z #[Value.slice (some ⟨g, 0, none⟩) (p * 8192) (p * 8192), Value.slice o0 T.f0.length x0, Value.slice o1 T.f1.length x1, Value.slice o2 T.f2.length x2, Value.slice oe T.ed.length xe, Value.int .i64 (b : Int)]
                  have hO2 := only_setRowB (w5.setRow z #[Value.slice (some ⟨g, 0, none⟩) (p * 8192) (p * 8192), Value.slice o0 T.f0.length x0, Value.slice o1 T.f1.length x1, Value.slice o2 T.f2.length x2, Value.slice oe T.ed.length xe, Value.int .i64 (b : Int)]) (z + 1) #[Value.int .i64 0, .int .i64 0]
                  have noZ : ∀ x, Value.int .u8 x ∉ (#[Value.slice none 0 0, .slice none 0 0, .slice none 0 0, .slice none 0 0, .slice none 0 0, .int .i64 0] : Array Value).toList := by simp
                  have noF : ∀ x, Value.int .u8 x ∉ (#[Value.int .i64 0, .int .i64 0] : Array Value).toList := by simp
                  have FIN : Hid (NumsAt ((w5.setRow z #[Value.slice (some ⟨g, 0, none⟩) (p * 8192) (p * 8192), Value.slice o0 T.f0.length x0, Value.slice o1 T.f1.length x1, Value.slice o2 T.f2.length x2, Value.slice oe T.ed.length xe, Value.int .i64 (b : Int)]).setRow (z + 1) #[Value.int .i64 0, .int .i64 0]) .u8 o0 T.f0.length (byF T.f0) ∧ NumsAt ((w5.setRow z #[Value.slice (some ⟨g, 0, none⟩) (p * 8192) (p * 8192), Value.slice o0 T.f0.length x0, Value.slice o1 T.f1.length x1, Value.slice o2 T.f2.length x2, Value.slice oe T.ed.length xe, Value.int .i64 (b : Int)]).setRow (z + 1) #[Value.int .i64 0, .int .i64 0]) .u8 o1 T.f1.length (byF T.f1) ∧ NumsAt ((w5.setRow z #[Value.slice (some ⟨g, 0, none⟩) (p * 8192) (p * 8192), Value.slice o0 T.f0.length x0, Value.slice o1 T.f1.length x1, Value.slice o2 T.f2.length x2, Value.slice oe T.ed.length xe, Value.int .i64 (b : Int)]).setRow (z + 1) #[Value.int .i64 0, .int .i64 0]) .u8 o2 T.f2.length (byF T.f2) ∧ EdgB ((w5.setRow z #[Value.slice (some ⟨g, 0, none⟩) (p * 8192) (p * 8192), Value.slice o0 T.f0.length x0, Value.slice o1 T.f1.length x1, Value.slice o2 T.f2.length x2, Value.slice oe T.ed.length xe, Value.int .i64 (b : Int)]).setRow (z + 1) #[Value.int .i64 0, .int .i64 0]) oe T.ed.length (edSt T.ed) (edLn T.ed) (edUp T.ed) ((w5.setRow z #[Value.slice (some ⟨g, 0, none⟩) (p * 8192) (p * 8192), Value.slice o0 T.f0.length x0, Value.slice o1 T.f1.length x1, Value.slice o2 T.f2.length x2, Value.slice oe T.ed.length xe, Value.int .i64 (b : Int)]).setRow (z + 1) #[Value.int .i64 0, .int .i64 0]).heap.size ∧ NumsAt ((w5.setRow z #[Value.slice (some ⟨g, 0, none⟩) (p * 8192) (p * 8192), Value.slice o0 T.f0.length x0, Value.slice o1 T.f1.length x1, Value.slice o2 T.f2.length x2, Value.slice oe T.ed.length xe, Value.int .i64 (b : Int)]).setRow (z + 1) #[Value.int .i64 0, .int .i64 0]) .u8 (some ⟨g, 0, none⟩) (p * 8192) (romF T.ps)) := by
                    obtain ⟨n0, n1, n2, nE, hsp, hR⟩ := NN.out
                    have le := Nat.le_refl wr.heap.size
                    have hR5 : NumsAt w5 .u8 (some ⟨g, 0, none⟩) (p * 8192) (romF T.ps) := RW.nums (w := w5) (Blk.below hR HWA.out (Blk.lt hR))
                    exact ⟨nums_apart (nums_apart (n0.below hb05 le) hZ5 noZ hO1) hF5 noF hO2, nums_apart (nums_apart (n1.below hb05 le) hZ5 noZ hO1) hF5 noF hO2, nums_apart (nums_apart (n2.below hb05 le) hZ5 noZ hO1) hF5 noF hO2, (edg_apart (edg_apart (nE.low hb05) hZ5 noZ hO1) hF5 noF hO2).mono (Nat.le_trans hb05.size (Nat.le_trans hO1.size hO2.size)), nums_apart (nums_apart hR5 hZ5 noZ hO1) hF5 noF hO2⟩
                  clear hC hO1 hO2 noZ noF hb05 hF50
                  go_wp2_with (first | (refine wpList_load_row rfl 27 _ rfl gs rfl _ #[Value.slice (some ⟨g, 0, none⟩) (p * 8192) (p * 8192), Value.slice o0 T.f0.length x0, Value.slice o1 T.f1.length x1, Value.slice o2 T.f2.length x2, Value.slice oe T.ed.length xe, Value.int .i64 (b : Int)] (0, 0) _ hs5 Tryd.underlying27 rfl (by kernel_rfl) ?_) | (refine wpList_store_row rfl 27 _ _ rfl z #[Value.slice (some ⟨g, 0, none⟩) (p * 8192) (p * 8192), Value.slice o0 T.f0.length x0, Value.slice o1 T.f1.length x1, Value.slice o2 T.f2.length x2, Value.slice oe T.ed.length xe, Value.int .i64 (b : Int)] rfl rfl 27 _ hZ5 (by kernel_rfl) rfl (by kernel_rfl) ?_) | (refine wpList_store_row rfl 34 _ _ rfl (z + 1) #[Value.int .i64 0, .int .i64 0] rfl rfl 34 _ hF5 (by kernel_rfl) rfl (by kernel_rfl) ?_))
                  refine bodyPost_ret (results_cc rfl rfl ((hZ5.setRow #[Value.slice (some ⟨g, 0, none⟩) (p * 8192) (p * 8192), Value.slice o0 T.f0.length x0, Value.slice o1 T.f1.length x1, Value.slice o2 T.f2.length x2, Value.slice oe T.ed.length xe, Value.int .i64 (b : Int)]).setRow_far (by omega) _) Tryd.underlying27 rfl (by kernel_rfl) rfl (hF5.setRow _) Tryd.underlying34 rfl (by kernel_rfl)) rfl ?_
                  rw [← hG2.out]
                  refine ⟨by rw [hzz]; exact below_setRow (below_setRow HZ5.out (Nat.le_refl _) _) (by omega) _, fun e0 => absurd rfl e0, fun _ => ?_⟩
                  dsimp only
                  rw [EW.out, if_neg (by have := HC.out; omega)]
                  obtain ⟨y0, y1, y2, y3, y4⟩ := FIN.out
                  have hpm : p * 8192 ≤ maxLen := by have := HPR.out; unfold maxLen; omega
                  exact ⟨_, _, _, _, _, _, _, _, _, _, rfl, y4, y0, y1, y2, y3, NN.out.2.2.2.2.1, Nat.le_refl _, hpm⟩
                · have q1 : ((C.1 : Int) != 0) = true := by rw [bne_iff_ne]; omega
                  have HC := hide hC
                  have hF5 := hF50.setRow_far (g' := z) (by omega) #[Value.slice none 0 0, .slice none 0 0, .slice none 0 0, .slice none 0 0, .slice none 0 0, .int .i64 0]
                  clear hC hF50 hs5
                  go_wp2_with (first | (refine wpList_store_row rfl 27 _ _ rfl z #[Value.slice none 0 0, .slice none 0 0, .slice none 0 0, .slice none 0 0, .slice none 0 0, .int .i64 0] rfl rfl 27 _ hZ5 (by kernel_rfl) rfl (by kernel_rfl) ?_) | (refine wpList_store_row rfl 34 _ _ rfl (z + 1) #[Value.int .i64 (C.1 : Int), .int .i64 0] rfl rfl 34 _ hF5 (by kernel_rfl) rfl (by kernel_rfl) ?_))
                  refine bodyPost_ret (results_cc rfl rfl ((hZ5.setRow #[Value.slice none 0 0, .slice none 0 0, .slice none 0 0, .slice none 0 0, .slice none 0 0, .int .i64 0]).setRow_far (by omega) _) Tryd.underlying27 rfl (by kernel_rfl) rfl (hF5.setRow _) Tryd.underlying34 rfl (by kernel_rfl)) rfl ?_
                  rw [← hG2.out]
                  refine ⟨by rw [hzz]; exact below_setRow (below_setRow HZ5.out (Nat.le_refl _) _) (by omega) _, fun e0 => absurd rfl e0, fun _ => ?_⟩
                  dsimp only
                  rw [EW.out, if_pos HC.out]
                  rfl
              exact AllReadyH.nil
            · have hmk := fun W (h : Below wr.heap.size wr W) => rk_no p (p * 8192) po T.ps.length pc (psA T.ps) pO (psN T.ps) pCp (psB T.ps) W hpr rfl hnp ((hPB.below h (Nat.le_refl _)).mono h.size) hfit
              have EW : Hid (parW T = .inl (1, 0)) := by unfold Hid parW; rw [hp, hbd]; dsimp only; rw [if_neg hfit]
              clear hp hbd hfit hPB hnp hpr
              go_wp2_with fail
              refine wp_region_held_drew (S := fun W => Below wr.heap.size wr W ∧ W.cell? ⟨r, 0, none⟩ = some (.int .i64 (p : Int)) ∧ W.cell? ⟨r, 2, none⟩ = some (.slice po T.ps.length pc)) (by kernel_rfl) ⟨(by first | exact hww.drew | exact hww | exact Below.drew hww), (by first | exact c0.drew | exact c0 | exact Below.drew c0), (by first | exact c2.drew | exact c2 | exact Below.drew c2)⟩ (fun hS0 => ?_)
              clear hww c0 c2
              change wpAnyH _ _ _ _ _ 15 #[false, false, false, false, false, false, false, false, false, false, false, false, false, false, false] _ _
              generalize wr.drew = v0 at *
              refine wpAnyH_take (i := 0) (v := ?_) rfl (by kernel_rfl) (by kernel_rfl) (by kernel_rfl) (fun _ _ _ h => h) (Or.inl ⟨by rfl, ?_⟩) hS0 ?_
              rotate_left
              · (intro w hSw; (try dsimp only at hSw); go_simp; try with_reducible rfl)
              simp only [List.getElem_toArray, List.getElem_cons_zero, List.getElem_cons_succ, Act.put, List.setIfInBounds_toArray, List.set_cons_zero, List.set_cons_succ]
              refine wpAnyH_take (i := 1) (v := ?_) rfl (by kernel_rfl) (by kernel_rfl) (by kernel_rfl) (fun _ _ _ h => h) (Or.inl ⟨by rfl, ?_⟩) hS0 ?_
              rotate_left
              · (intro w hSw; (try dsimp only at hSw); go_simp; try with_reducible rfl)
              simp only [List.getElem_toArray, List.getElem_cons_zero, List.getElem_cons_succ, Act.put, List.setIfInBounds_toArray, List.set_cons_zero, List.set_cons_succ]
              refine wpAnyH_take (i := 2) (v := ?_) rfl (by kernel_rfl) (by kernel_rfl) (by kernel_rfl) (fun _ _ _ h => h) (Or.inl ⟨by rfl, ?_⟩) hS0 ?_
              rotate_left
              · (intro w hSw; (try dsimp only at hSw); go_simp; try with_reducible rfl)
              simp only [List.getElem_toArray, List.getElem_cons_zero, List.getElem_cons_succ, Act.put, List.setIfInBounds_toArray, List.set_cons_zero, List.set_cons_succ]
              refine wpAnyH_take (i := 3) (v := ?_) rfl (by kernel_rfl) (by kernel_rfl) (by kernel_rfl) (fun _ _ _ h => h) (Or.inl ⟨by rfl, ?_⟩) hS0 ?_
              rotate_left
              · (intro w hSw; (try dsimp only at hSw); go_simp; try with_reducible rfl)
              simp only [List.getElem_toArray, List.getElem_cons_zero, List.getElem_cons_succ, Act.put, List.setIfInBounds_toArray, List.set_cons_zero, List.set_cons_succ]
              refine wpAnyH_take (i := 4) (v := ?_) rfl (by kernel_rfl) (by kernel_rfl) (by kernel_rfl) (fun _ _ _ h => h) (Or.inl ⟨by rfl, ?_⟩) hS0 ?_
              rotate_left
              · (intro w hSw; (try dsimp only at hSw); go_simp; try with_reducible rfl)
              simp only [List.getElem_toArray, List.getElem_cons_zero, List.getElem_cons_succ, Act.put, List.setIfInBounds_toArray, List.set_cons_zero, List.set_cons_succ]
              refine wpAnyH_take (i := 5) (v := ?_) rfl (by kernel_rfl) (by kernel_rfl) (by kernel_rfl) (fun _ _ _ h => h) (Or.inl ⟨by rfl, ?_⟩) hS0 ?_
              rotate_left
              · (intro w hSw; (try dsimp only at hSw); go_simp; try with_reducible rfl)
              simp only [List.getElem_toArray, List.getElem_cons_zero, List.getElem_cons_succ, Act.put, List.setIfInBounds_toArray, List.set_cons_zero, List.set_cons_succ]
              refine wpAnyH_take (i := 6) (v := ?_) rfl (by kernel_rfl) (by kernel_rfl) (by kernel_rfl) (fun _ _ _ h => h) (Or.inl ⟨by rfl, ?_⟩) hS0 ?_
              rotate_left
              · (intro w hSw; (try dsimp only at hSw); go_simp; try with_reducible rfl)
              simp only [List.getElem_toArray, List.getElem_cons_zero, List.getElem_cons_succ, Act.put, List.setIfInBounds_toArray, List.set_cons_zero, List.set_cons_succ]
              refine wpAnyH_take (i := 7) (v := ?_) rfl (by kernel_rfl) (by kernel_rfl) (by kernel_rfl) (fun _ _ _ h => h) (Or.inl ⟨by rfl, ?_⟩) hS0 ?_
              rotate_left
              · (intro w hSw; (try dsimp only at hSw); go_simp; try with_reducible rfl)
              simp only [List.getElem_toArray, List.getElem_cons_zero, List.getElem_cons_succ, Act.put, List.setIfInBounds_toArray, List.set_cons_zero, List.set_cons_succ]
              refine wpAnyH_ready (rs := [8, 12]) (by kernel_rfl) (by simp) ?_
              refine AllReadyH.cons rfl (fun K hK => ?_) ?_
              · -- call 8
                go_simp
                refine (hmk _ hS0.1).mono ?_
                rintro e v1 ⟨q, rfl, hb1⟩
                (try go_simp)
                refine hK.out _ _ ⟨(by first | exact hS0.1.below hb1 hS0.1.lt | exact hS0.1.trans (hb1.mono hS0.1.size) | exact hS0.1.trans (hb1.mono (by have := hS0.1.size; omega)) | exact (hb1.cell (cell_lt hS0.1)).trans hS0.1 | exact hS0.1.below hb1 (Nat.le_refl _) | exact hS0.1.low hb1 | exact hS0.1.below hb1 | exact hS0.1.trans (Only.of hb1)), (by first | exact hS0.2.1.below hb1 hS0.2.1.lt | exact hS0.2.1.trans (hb1.mono hS0.2.1.size) | exact hS0.2.1.trans (hb1.mono (by have := hS0.2.1.size; omega)) | exact (hb1.cell (cell_lt hS0.2.1)).trans hS0.2.1 | exact hS0.2.1.below hb1 (Nat.le_refl _) | exact hS0.2.1.low hb1 | exact hS0.2.1.below hb1 | exact hS0.2.1.trans (Only.of hb1)), (by first | exact hS0.2.2.below hb1 hS0.2.2.lt | exact hS0.2.2.trans (hb1.mono hS0.2.2.size) | exact hS0.2.2.trans (hb1.mono (by have := hS0.2.2.size; omega)) | exact (hb1.cell (cell_lt hS0.2.2)).trans hS0.2.2 | exact hS0.2.2.below hb1 (Nat.le_refl _) | exact hS0.2.2.low hb1 | exact hS0.2.2.below hb1 | exact hS0.2.2.trans (Only.of hb1))⟩ (fun hS1 => ?_)
                clear hK K
                clear hb1 hS0
                simp only [List.getElem_toArray, List.getElem_cons_zero, List.getElem_cons_succ, Act.put, List.setIfInBounds_toArray, List.set_cons_zero, List.set_cons_succ]
                refine wpAnyH_take (i := 9) (v := ?_) rfl (by kernel_rfl) (by kernel_rfl) (by kernel_rfl) (fun _ _ _ h => h) (Or.inl ⟨by rfl, ?_⟩) hS1 ?_
                rotate_left
                · (intro w hSw; (try dsimp only at hSw); go_simp; try with_reducible rfl)
                simp only [List.getElem_toArray, List.getElem_cons_zero, List.getElem_cons_succ, Act.put, List.setIfInBounds_toArray, List.set_cons_zero, List.set_cons_succ]
                refine wpAnyH_take (i := 10) (v := ?_) rfl (by kernel_rfl) (by kernel_rfl) (by kernel_rfl) (fun _ _ _ h => h) (Or.inl ⟨by rfl, ?_⟩) hS1 ?_
                rotate_left
                · (intro w hSw; (try dsimp only at hSw); go_simp; try with_reducible rfl)
                simp only [List.getElem_toArray, List.getElem_cons_zero, List.getElem_cons_succ, Act.put, List.setIfInBounds_toArray, List.set_cons_zero, List.set_cons_succ]
                refine wpAnyH_take (i := 11) (v := ?_) rfl (by kernel_rfl) (by kernel_rfl) (by kernel_rfl) (fun _ _ _ h => h) (Or.inl ⟨by rfl, ?_⟩) hS1 ?_
                rotate_left
                · (intro w hSw; (try dsimp only at hSw); go_simp; try with_reducible rfl)
                simp only [List.getElem_toArray, List.getElem_cons_zero, List.getElem_cons_succ, Act.put, List.setIfInBounds_toArray, List.set_cons_zero, List.set_cons_succ]
                refine wpAnyH_ready (rs := [12]) (by kernel_rfl) (by simp) ?_
                refine AllReadyH.cons rfl (fun K hK => ?_) AllReadyH.nil
                go_simp
                have hb2 : Below v1.heap.size v1 (v1.alloc (.cells #[Value.int .i64 0, .int .i64 0] 34)) := Bl.alloc (Below.refl _ _) _
                refine hK.out _ _ ⟨(by first | exact hS1.1.below hb2 hS1.1.lt | exact hS1.1.trans (hb2.mono hS1.1.size) | exact hS1.1.trans (hb2.mono (by have := hS1.1.size; omega)) | exact (hb2.cell (cell_lt hS1.1)).trans hS1.1 | exact hS1.1.below hb2 (Nat.le_refl _) | exact hS1.1.low hb2 | exact hS1.1.below hb2 | exact hS1.1.trans (Only.of hb2)), (by first | exact hS1.2.1.below hb2 hS1.2.1.lt | exact hS1.2.1.trans (hb2.mono hS1.2.1.size) | exact hS1.2.1.trans (hb2.mono (by have := hS1.2.1.size; omega)) | exact (hb2.cell (cell_lt hS1.2.1)).trans hS1.2.1 | exact hS1.2.1.below hb2 (Nat.le_refl _) | exact hS1.2.1.low hb2 | exact hS1.2.1.below hb2 | exact hS1.2.1.trans (Only.of hb2)), (by first | exact hS1.2.2.below hb2 hS1.2.2.lt | exact hS1.2.2.trans (hb2.mono hS1.2.2.size) | exact hS1.2.2.trans (hb2.mono (by have := hS1.2.2.size; omega)) | exact (hb2.cell (cell_lt hS1.2.2)).trans hS1.2.2 | exact hS1.2.2.below hb2 (Nat.le_refl _) | exact hS1.2.2.low hb2 | exact hS1.2.2.below hb2 | exact hS1.2.2.trans (Only.of hb2))⟩ (fun hS2 => ?_)
                clear hK K
                have hf_2 : Blk (v1.alloc (.cells #[Value.int .i64 0, .int .i64 0] 34)) v1.heap.size 34 #[Value.int .i64 0, .int .i64 0] := Blk.new _ _ _
                have hge_gf := hS1.1.size
                clear hb2 hS1
                generalize v1.alloc (.cells #[Value.int .i64 0, .int .i64 0] 34) = v2 at *
                generalize v1.heap.size = gf at *
                simp only [List.getElem_toArray, List.getElem_cons_zero, List.getElem_cons_succ, Act.put, List.setIfInBounds_toArray, List.set_cons_zero, List.set_cons_succ]
                refine wpAnyH_take (i := 13) (v := ?_) rfl (by kernel_rfl) (by kernel_rfl) (by kernel_rfl) (fun _ _ _ h => h) (Or.inl ⟨by rfl, ?_⟩) hS2 ?_
                rotate_left
                · (intro w hSw; (try dsimp only at hSw); go_simp; try with_reducible rfl)
                simp only [List.getElem_toArray, List.getElem_cons_zero, List.getElem_cons_succ, Act.put, List.setIfInBounds_toArray, List.set_cons_zero, List.set_cons_succ]
                refine wpAnyH_ready (rs := [14]) (by kernel_rfl) (by simp) ?_
                refine AllReadyH.cons rfl (fun K hK => ?_) AllReadyH.nil
                rw [if_pos (show Region.wanted _ _ = true from by rfl)]
                refine wp_store_row 34 _ _ rfl gf #[Value.int .i64 1, .int .i64 (q : Int)] rfl rfl 34 _ hf_2 (by kernel_rfl) rfl (by kernel_rfl) ?_
                refine hK.out _ _ ⟨(by first | exact below_setRow hS2.1 (by omega) _ | exact hS2.1.setRow_far (by omega) _ | exact (World.cell?_of_block (setRow_block _ _ _ _ (by first | omega | (dsimp only; omega)))).trans hS2.1 | exact hS2.1.only (only_setRow _ _ _) (fun k e => by (have e : k = _ := e); omega)), (by first | exact below_setRow hS2.2.1 (by omega) _ | exact hS2.2.1.setRow_far (by omega) _ | exact (World.cell?_of_block (setRow_block _ _ _ _ (by first | omega | (dsimp only; omega)))).trans hS2.2.1 | exact hS2.2.1.only (only_setRow _ _ _) (fun k e => by (have e : k = _ := e); omega)), (by first | exact below_setRow hS2.2.2 (by omega) _ | exact hS2.2.2.setRow_far (by omega) _ | exact (World.cell?_of_block (setRow_block _ _ _ _ (by first | omega | (dsimp only; omega)))).trans hS2.2.2 | exact hS2.2.2.only (only_setRow _ _ _) (fun k e => by (have e : k = _ := e); omega))⟩ (fun hS3 => ?_)
                clear hK K
                have hf_3 := hf_2.setRow #[Value.int .i64 1, .int .i64 (q : Int)]
                clear hS2
                generalize v2.setRow gf #[Value.int .i64 1, .int .i64 (q : Int)] = v3 at *
                simp only [List.getElem_toArray, List.getElem_cons_zero, List.getElem_cons_succ, Act.put, List.setIfInBounds_toArray, List.set_cons_zero, List.set_cons_succ]
                refine wpAnyH_done (by kernel_rfl) ?_ _
                have hww := hS3.1
                have c0 := hS3.2.1
                have c2 := hS3.2.2
                clear hS3
                have hf := hf_3
                generalize v3 = wa at *
                clear hmk c0 c1 c2
                have kf : wa.cell? ⟨gf, 0, none⟩ = some (.int .i64 1) := hf.cell 0
                have hZa := HZ.out.below hww HZ.out.lt
                have hF8a := (HF.out.below hww HF.out.lt).setRow_far (g' := z) (by omega) #[Value.slice none 0 0, .slice none 0 0, .slice none 0 0, .slice none 0 0, .slice none 0 0, .int .i64 0]
                have hbw : Hid (Below z w ((wa.setRow z #[Value.slice none 0 0, .slice none 0 0, .slice none 0 0, .slice none 0 0, .slice none 0 0, .int .i64 0]).setRow (z + 1) #[Value.int .i64 1, .int .i64 0])) := below_setRow (below_setRow (HB0.out.trans (hww.mono (by have := HB0.out.size; omega))) (Nat.le_refl _) _) (by omega) _
                clear hf hww hZ hF8
                go_wp2_with (first | (refine wpList_store_row rfl 27 _ _ rfl z #[Value.slice none 0 0, .slice none 0 0, .slice none 0 0, .slice none 0 0, .slice none 0 0, .int .i64 0] rfl rfl 27 _ hZa (by kernel_rfl) rfl (by kernel_rfl) ?_) | (refine wpList_store_row rfl 34 _ _ rfl (z + 1) #[Value.int .i64 1, .int .i64 0] rfl rfl 34 _ hF8a (by kernel_rfl) rfl (by kernel_rfl) ?_))
                refine bodyPost_ret (results_cc rfl rfl ((hZa.setRow #[Value.slice none 0 0, .slice none 0 0, .slice none 0 0, .slice none 0 0, .slice none 0 0, .int .i64 0]).setRow_far (by omega) _) Tryd.underlying27 rfl (by kernel_rfl) rfl (hF8a.setRow _) Tryd.underlying34 rfl (by kernel_rfl)) rfl ?_
                rw [← hG2.out]
                refine ⟨by rw [hzz]; exact hbw.out, fun e0 => absurd rfl e0, fun _ => ?_⟩
                rw [EW.out]
                rfl
              refine AllReadyH.cons rfl (fun K hK => ?_) ?_
              · -- alloc 12
                go_simp
                have hb1 : Below v0.heap.size v0 (v0.alloc (.cells #[Value.int .i64 0, .int .i64 0] 34)) := Bl.alloc (Below.refl _ _) _
                refine hK.out _ _ ⟨(by first | exact hS0.1.below hb1 hS0.1.lt | exact hS0.1.trans (hb1.mono hS0.1.size) | exact hS0.1.trans (hb1.mono (by have := hS0.1.size; omega)) | exact (hb1.cell (cell_lt hS0.1)).trans hS0.1 | exact hS0.1.below hb1 (Nat.le_refl _) | exact hS0.1.low hb1 | exact hS0.1.below hb1 | exact hS0.1.trans (Only.of hb1)), (by first | exact hS0.2.1.below hb1 hS0.2.1.lt | exact hS0.2.1.trans (hb1.mono hS0.2.1.size) | exact hS0.2.1.trans (hb1.mono (by have := hS0.2.1.size; omega)) | exact (hb1.cell (cell_lt hS0.2.1)).trans hS0.2.1 | exact hS0.2.1.below hb1 (Nat.le_refl _) | exact hS0.2.1.low hb1 | exact hS0.2.1.below hb1 | exact hS0.2.1.trans (Only.of hb1)), (by first | exact hS0.2.2.below hb1 hS0.2.2.lt | exact hS0.2.2.trans (hb1.mono hS0.2.2.size) | exact hS0.2.2.trans (hb1.mono (by have := hS0.2.2.size; omega)) | exact (hb1.cell (cell_lt hS0.2.2)).trans hS0.2.2 | exact hS0.2.2.below hb1 (Nat.le_refl _) | exact hS0.2.2.low hb1 | exact hS0.2.2.below hb1 | exact hS0.2.2.trans (Only.of hb1))⟩ (fun hS1 => ?_)
                clear hK K
                have hf_1 : Blk (v0.alloc (.cells #[Value.int .i64 0, .int .i64 0] 34)) v0.heap.size 34 #[Value.int .i64 0, .int .i64 0] := Blk.new _ _ _
                have hge_gf := hS0.1.size
                clear hb1 hS0
                generalize v0.alloc (.cells #[Value.int .i64 0, .int .i64 0] 34) = v1 at *
                generalize v0.heap.size = gf at *
                simp only [List.getElem_toArray, List.getElem_cons_zero, List.getElem_cons_succ, Act.put, List.setIfInBounds_toArray, List.set_cons_zero, List.set_cons_succ]
                refine wpAnyH_ready (rs := [8]) (by kernel_rfl) (by simp) ?_
                refine AllReadyH.cons rfl (fun K hK => ?_) AllReadyH.nil
                go_simp
                refine (hmk _ hS1.1).mono ?_
                rintro e v2 ⟨q, rfl, hb2⟩
                (try go_simp)
                refine hK.out _ _ ⟨(by first | exact hS1.1.below hb2 hS1.1.lt | exact hS1.1.trans (hb2.mono hS1.1.size) | exact hS1.1.trans (hb2.mono (by have := hS1.1.size; omega)) | exact (hb2.cell (cell_lt hS1.1)).trans hS1.1 | exact hS1.1.below hb2 (Nat.le_refl _) | exact hS1.1.low hb2 | exact hS1.1.below hb2 | exact hS1.1.trans (Only.of hb2)), (by first | exact hS1.2.1.below hb2 hS1.2.1.lt | exact hS1.2.1.trans (hb2.mono hS1.2.1.size) | exact hS1.2.1.trans (hb2.mono (by have := hS1.2.1.size; omega)) | exact (hb2.cell (cell_lt hS1.2.1)).trans hS1.2.1 | exact hS1.2.1.below hb2 (Nat.le_refl _) | exact hS1.2.1.low hb2 | exact hS1.2.1.below hb2 | exact hS1.2.1.trans (Only.of hb2)), (by first | exact hS1.2.2.below hb2 hS1.2.2.lt | exact hS1.2.2.trans (hb2.mono hS1.2.2.size) | exact hS1.2.2.trans (hb2.mono (by have := hS1.2.2.size; omega)) | exact (hb2.cell (cell_lt hS1.2.2)).trans hS1.2.2 | exact hS1.2.2.below hb2 (Nat.le_refl _) | exact hS1.2.2.low hb2 | exact hS1.2.2.below hb2 | exact hS1.2.2.trans (Only.of hb2))⟩ (fun hS2 => ?_)
                clear hK K
                have hf_2 := hf_1.below hb2 hf_1.lt
                clear hb2 hS1
                simp only [List.getElem_toArray, List.getElem_cons_zero, List.getElem_cons_succ, Act.put, List.setIfInBounds_toArray, List.set_cons_zero, List.set_cons_succ]
                refine wpAnyH_take (i := 9) (v := ?_) rfl (by kernel_rfl) (by kernel_rfl) (by kernel_rfl) (fun _ _ _ h => h) (Or.inl ⟨by rfl, ?_⟩) hS2 ?_
                rotate_left
                · (intro w hSw; (try dsimp only at hSw); go_simp; try with_reducible rfl)
                simp only [List.getElem_toArray, List.getElem_cons_zero, List.getElem_cons_succ, Act.put, List.setIfInBounds_toArray, List.set_cons_zero, List.set_cons_succ]
                refine wpAnyH_take (i := 10) (v := ?_) rfl (by kernel_rfl) (by kernel_rfl) (by kernel_rfl) (fun _ _ _ h => h) (Or.inl ⟨by rfl, ?_⟩) hS2 ?_
                rotate_left
                · (intro w hSw; (try dsimp only at hSw); go_simp; try with_reducible rfl)
                simp only [List.getElem_toArray, List.getElem_cons_zero, List.getElem_cons_succ, Act.put, List.setIfInBounds_toArray, List.set_cons_zero, List.set_cons_succ]
                refine wpAnyH_take (i := 11) (v := ?_) rfl (by kernel_rfl) (by kernel_rfl) (by kernel_rfl) (fun _ _ _ h => h) (Or.inl ⟨by rfl, ?_⟩) hS2 ?_
                rotate_left
                · (intro w hSw; (try dsimp only at hSw); go_simp; try with_reducible rfl)
                simp only [List.getElem_toArray, List.getElem_cons_zero, List.getElem_cons_succ, Act.put, List.setIfInBounds_toArray, List.set_cons_zero, List.set_cons_succ]
                refine wpAnyH_take (i := 13) (v := ?_) rfl (by kernel_rfl) (by kernel_rfl) (by kernel_rfl) (fun _ _ _ h => h) (Or.inl ⟨by rfl, ?_⟩) hS2 ?_
                rotate_left
                · (intro w hSw; (try dsimp only at hSw); go_simp; try with_reducible rfl)
                simp only [List.getElem_toArray, List.getElem_cons_zero, List.getElem_cons_succ, Act.put, List.setIfInBounds_toArray, List.set_cons_zero, List.set_cons_succ]
                refine wpAnyH_ready (rs := [14]) (by kernel_rfl) (by simp) ?_
                refine AllReadyH.cons rfl (fun K hK => ?_) AllReadyH.nil
                rw [if_pos (show Region.wanted _ _ = true from by rfl)]
                refine wp_store_row 34 _ _ rfl gf #[Value.int .i64 1, .int .i64 (q : Int)] rfl rfl 34 _ hf_2 (by kernel_rfl) rfl (by kernel_rfl) ?_
                refine hK.out _ _ ⟨(by first | exact below_setRow hS2.1 (by omega) _ | exact hS2.1.setRow_far (by omega) _ | exact (World.cell?_of_block (setRow_block _ _ _ _ (by first | omega | (dsimp only; omega)))).trans hS2.1 | exact hS2.1.only (only_setRow _ _ _) (fun k e => by (have e : k = _ := e); omega)), (by first | exact below_setRow hS2.2.1 (by omega) _ | exact hS2.2.1.setRow_far (by omega) _ | exact (World.cell?_of_block (setRow_block _ _ _ _ (by first | omega | (dsimp only; omega)))).trans hS2.2.1 | exact hS2.2.1.only (only_setRow _ _ _) (fun k e => by (have e : k = _ := e); omega)), (by first | exact below_setRow hS2.2.2 (by omega) _ | exact hS2.2.2.setRow_far (by omega) _ | exact (World.cell?_of_block (setRow_block _ _ _ _ (by first | omega | (dsimp only; omega)))).trans hS2.2.2 | exact hS2.2.2.only (only_setRow _ _ _) (fun k e => by (have e : k = _ := e); omega))⟩ (fun hS3 => ?_)
                clear hK K
                have hf_3 := hf_2.setRow #[Value.int .i64 1, .int .i64 (q : Int)]
                clear hS2
                generalize v2.setRow gf #[Value.int .i64 1, .int .i64 (q : Int)] = v3 at *
                simp only [List.getElem_toArray, List.getElem_cons_zero, List.getElem_cons_succ, Act.put, List.setIfInBounds_toArray, List.set_cons_zero, List.set_cons_succ]
                refine wpAnyH_done (by kernel_rfl) ?_ _
                have hww := hS3.1
                have c0 := hS3.2.1
                have c2 := hS3.2.2
                clear hS3
                have hf := hf_3
                generalize v3 = wa at *
                clear hmk c0 c1 c2
                have kf : wa.cell? ⟨gf, 0, none⟩ = some (.int .i64 1) := hf.cell 0
                have hZa := HZ.out.below hww HZ.out.lt
                have hF8a := (HF.out.below hww HF.out.lt).setRow_far (g' := z) (by omega) #[Value.slice none 0 0, .slice none 0 0, .slice none 0 0, .slice none 0 0, .slice none 0 0, .int .i64 0]
                have hbw : Hid (Below z w ((wa.setRow z #[Value.slice none 0 0, .slice none 0 0, .slice none 0 0, .slice none 0 0, .slice none 0 0, .int .i64 0]).setRow (z + 1) #[Value.int .i64 1, .int .i64 0])) := below_setRow (below_setRow (HB0.out.trans (hww.mono (by have := HB0.out.size; omega))) (Nat.le_refl _) _) (by omega) _
                clear hf hww hZ hF8
                go_wp2_with (first | (refine wpList_store_row rfl 27 _ _ rfl z #[Value.slice none 0 0, .slice none 0 0, .slice none 0 0, .slice none 0 0, .slice none 0 0, .int .i64 0] rfl rfl 27 _ hZa (by kernel_rfl) rfl (by kernel_rfl) ?_) | (refine wpList_store_row rfl 34 _ _ rfl (z + 1) #[Value.int .i64 1, .int .i64 0] rfl rfl 34 _ hF8a (by kernel_rfl) rfl (by kernel_rfl) ?_))
                refine bodyPost_ret (results_cc rfl rfl ((hZa.setRow #[Value.slice none 0 0, .slice none 0 0, .slice none 0 0, .slice none 0 0, .slice none 0 0, .int .i64 0]).setRow_far (by omega) _) Tryd.underlying27 rfl (by kernel_rfl) rfl (hF8a.setRow _) Tryd.underlying34 rfl (by kernel_rfl)) rfl ?_
                rw [← hG2.out]
                refine ⟨by rw [hzz]; exact hbw.out, fun e0 => absurd rfl e0, fun _ => ?_⟩
                rw [EW.out]
                rfl
              exact AllReadyH.nil
      · rw [if_neg (by rw [decide_eq_true_iff]; exact hfe)] at hG
        have f1 : (f : Int) < (i : Int) := by omega
        have hG2 := hide hG
        clear hel hG hfe hbn hpg hT hb hb8 H
        go_wp2_with (first | (refine wpList_store_row rfl 27 _ _ rfl z #[Value.slice none 0 0, .slice none 0 0, .slice none 0 0, .slice none 0 0, .slice none 0 0, .int .i64 0] rfl rfl 27 _ hZ (by kernel_rfl) rfl (by kernel_rfl) ?_) | (refine wpList_store_row rfl 34 _ _ rfl (z + 1) #[Value.int .i64 3, .int .i64 ((m : Int) + 1)] rfl rfl 34 _ hF8 (by kernel_rfl) rfl (by kernel_rfl) ?_))
        refine bodyPost_ret (results_cc rfl rfl ((hZ.setRow #[Value.slice none 0 0, .slice none 0 0, .slice none 0 0, .slice none 0 0, .slice none 0 0, .int .i64 0]).setRow_far (by omega) _) Tryd.underlying27 rfl (by kernel_rfl) rfl (hF8.setRow _) Tryd.underlying34 rfl (by kernel_rfl)) rfl ?_
        rw [← hG2.out]
        exact ⟨by rw [hzz]; exact HB8.out _, fun _ => rfl, fun e0 => absurd e0 (show ¬ (3 : Nat) = 0 by decide)⟩
end Go.Proofs.YtdhdknjefjolpaaDoor
end
section
/-
  gannetref33.Parse, any text; the map of what was met.
-/
namespace Go.Proofs.YtdhdknjefjolpaaDoor
set_option linter.unusedSimpArgs false
set_option linter.unusedVariables false
set_option maxRecDepth 10000
open Go.RowKit Go.Shelf Go.ChangeMaps Go.MapKept Pl
set_option maxRecDepth 100000 in
set_option maxHeartbeats 16000000 in
theorem rparse_big (l : List UInt8) (w : World) (hl : 200000 < l.length) (_hm : l.length ≤ maxLen) :
    Calls Tryd.prog 13 #[.string ⟨l.toArray⟩] w fun e w' => Below w.heap.size w w' ∧ ParErr (2, 0) e := by
  have hZ : Blk ((w.alloc (.cells #[Value.slice none 0 0, .slice none 0 0, .slice none 0 0, .slice none 0 0, .slice none 0 0, .int .i64 0] 27)).alloc (.cells #[Value.int .i64 0, .int .i64 0] 34)) w.heap.size 27 #[Value.slice none 0 0, .slice none 0 0, .slice none 0 0, .slice none 0 0, .slice none 0 0, .int .i64 0] := (Blk.new w _ _).alloc _
  have hF : Blk ((w.alloc (.cells #[Value.slice none 0 0, .slice none 0 0, .slice none 0 0, .slice none 0 0, .slice none 0 0, .int .i64 0] 27)).alloc (.cells #[Value.int .i64 0, .int .i64 0] 34)) (w.heap.size + 1) 34 #[Value.int .i64 0, .int .i64 0] := Blk.newAt (by simp)
  have hb2 : Below w.heap.size w ((w.alloc (.cells #[Value.slice none 0 0, .slice none 0 0, .slice none 0 0, .slice none 0 0, .slice none 0 0, .int .i64 0] 27)).alloc (.cells #[Value.int .i64 0, .int .i64 0] 34)) := Bl.alloc (Bl.alloc (Below.refl _ _) _) _
  have hSl : (⟨l.toArray⟩ : ByteArray).data.toList = l := rfl
  have hSn := ba_len ⟨l.toArray⟩
  rw [hSl] at hSn
  generalize (⟨l.toArray⟩ : ByteArray) = S at *
  obtain ⟨n, hn⟩ : ∃ n, l.length = n := ⟨_, rfl⟩
  rw [hn] at hl hSn
  have hSn2 : S.size = n := hSn.symm
  clear hSn
  have k1 : (200000 : Int) < (n : Int) := by omega
  have hF8 := hF.setRow_far (g' := w.heap.size) (by omega) #[Value.slice none 0 0, .slice none 0 0, .slice none 0 0, .slice none 0 0, .slice none 0 0, .int .i64 0]
  have HB := hide hb2
  have HZ := hide hZ
  clear hb2
  go_enter Tryd.func13, Tryd.ntmps13
  go_wp2_with (first | (refine wpList_store_row rfl 27 _ _ rfl w.heap.size #[Value.slice none 0 0, .slice none 0 0, .slice none 0 0, .slice none 0 0, .slice none 0 0, .int .i64 0] rfl rfl 27 _ hZ (by kernel_rfl) rfl (by kernel_rfl) ?_) | (refine wpList_store_row rfl 34 _ _ rfl (w.heap.size + 1) #[Value.int .i64 2, .int .i64 0] rfl rfl 34 _ hF8 (by kernel_rfl) rfl (by kernel_rfl) ?_))
  refine bodyPost_ret (results_cc rfl rfl ((hZ.setRow #[Value.slice none 0 0, .slice none 0 0, .slice none 0 0, .slice none 0 0, .slice none 0 0, .int .i64 0]).setRow_far (by omega) _) Tryd.underlying27 rfl (by kernel_rfl) rfl (hF8.setRow _) Tryd.underlying34 rfl (by kernel_rfl)) rfl ?_
  exact ⟨below_setRow (below_setRow HB.out (Nat.le_refl _) _) (by omega) _, rfl⟩
/-- A text, as a script: the document's answer. -/
theorem rParse_calls (l : List UInt8) (w : World) (hm : l.length ≤ maxLen) :
    Calls Tryd.prog 13 #[.string ⟨l.toArray⟩] w fun e w' => Below w.heap.size w w' ∧ ParOut (parV l) e w' := by
  by_cases hl : 200000 < l.length
  · refine (rparse_big l w hl hm).mono ?_
    rintro e w' ⟨h1, h2⟩
    refine ⟨h1, ?_⟩
    unfold parV
    rw [if_pos hl]
    exact h2
  · refine (rparse_calls l w (by omega)).mono ?_
    rintro e w' ⟨h1, h2, h3⟩
    refine ⟨h1, ?_⟩
    unfold parV
    rw [if_neg hl]
    by_cases h0 : (parG T0 0 [] l).1 = 0
    · rw [if_pos h0]
      exact h3 h0
    · rw [if_neg h0]
      exact h2 h0
/-! ### the map -/
noncomputable abbrev elI (v : Value) : Option (DataW Unit × List MemPlace) := plainElem Tryd.prog 2 v
def metD (pg bd : Option Nat) : DataW Unit := .map ((match bd with | some b => [(Lit.string wBudget, DataW.lit (.int .i64 (b : Int)))] | none => []) ++ (match pg with | some p => [(Lit.string wPages, DataW.lit (.int .i64 (p : Int)))] | none => []))
theorem met_put_pg (bd : Option Nat) (p : Nat) : (metD none bd).put (.string wPages) (.lit (.int .i64 (p : Int))) = metD (some p) bd := by cases bd <;> rfl
theorem met_put_bd (pg : Option Nat) (b : Nat) : (metD pg none).put (.string wBudget) (.lit (.int .i64 (b : Int))) = metD pg (some b) := by cases pg <;> rfl
theorem met_has_pg (pg bd : Option Nat) : Maps.has (metD pg bd) (.string wPages) = pg.isSome := by cases pg <;> cases bd <;> rfl
theorem met_has_bd (pg bd : Option Nat) : Maps.has (metD pg bd) (.string wBudget) = bd.isSome := by cases pg <;> cases bd <;> rfl
theorem met_at_pg (pg bd : Option Nat) (z : DataW Unit) : (metD pg bd).atKey (.string wPages) z = match pg with | some p => .lit (.int .i64 (p : Int)) | none => z := by cases pg <;> cases bd <;> rfl
theorem met_at_bd (pg bd : Option Nat) (z : DataW Unit) : (metD pg bd).atKey (.string wBudget) z = match bd with | some p => .lit (.int .i64 (p : Int)) | none => z := by cases pg <;> cases bd <;> rfl
def cntO : Option Nat → Nat | some _ => 1 | none => 0
def MetB (W : World) (m : Nat) (pg bd : Option Nat) : Prop := W.ownsMap Tryd.prog 9 elI m (cntO pg + cntO bd) (metD pg bd)
theorem keyed_str : Maps.Keyed Tryd.prog 9 := Maps.string_keyed Tryd.underlying9
theorem key_pages : keyOf Tryd.prog 9 (.string ⟨#[112, 97, 103, 101, 115]⟩) = some (.string wPages) := WideMaps.keyOf_string_mk Tryd.underlying9 (by decide)
theorem key_budget : keyOf Tryd.prog 9 (.string ⟨#[98, 117, 100, 103, 101, 116]⟩) = some (.string wBudget) := WideMaps.keyOf_string_mk Tryd.underlying9 (by decide)
theorem elI_nat (a : Nat) (h : a ≤ 9223372036854775807) : elI (.int .i64 (a : Int)) = some (.lit (.int .i64 (a : Int)), []) := plainElem_int Tryd.underlying2 (by
    show (decide ((-9223372036854775808 : Int) ≤ (a : Int)) && decide ((a : Int) ≤ 9223372036854775807)) = true
    rw [decide_eq_true (by omega), decide_eq_true (by omega)]
    rfl)
end Go.Proofs.YtdhdknjefjolpaaDoor
end
