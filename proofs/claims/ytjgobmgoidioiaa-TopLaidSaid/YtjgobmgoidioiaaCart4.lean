/-
  Runs of bytes that aren't 0; pieces that a call owns.
-/
import Derived.Test.YtjgobmgoidioiaaCart3
import Derived.Deep.AppendLies
namespace Go.Proofs.Ytjgobmgoidioiaa
open Go.RowKit

/-! ### plain -/
def extL (ps : List (Nat × Nat)) (e : Nat) : List (Nat × Nat) := ps.dropLast ++ [((ps.getLast?.getD (0, 0)).1, e)]
theorem extL_snoc (ps : List (Nat × Nat)) (x : Nat × Nat) (e : Nat) : extL (ps ++ [x]) e = ps ++ [(x.1, e)] := by simp [extL]
/-- The runs of bytes that aren't 0, of the first i. -/
def runsP (F : Nat → Int) : Nat → List (Nat × Nat)
  | 0 => []
  | i + 1 => if F i = 0 then runsP F i else if 0 < i ∧ F (i - 1) ≠ 0 then extL (runsP F i) (i + 1) else runsP F i ++ [(i, i + 1)]
theorem runs_last {F : Nat → Int} : ∀ i, 0 < i → F (i - 1) ≠ 0 → ∃ ps f, runsP F i = ps ++ [(f, i)] ∧ f < i
  | 0, h, _ => absurd h (by omega)
  | i + 1, _, h => by
    have h : F i ≠ 0 := h
    unfold runsP
    rw [if_neg h]
    by_cases h2 : 0 < i ∧ F (i - 1) ≠ 0
    · rw [if_pos h2]
      obtain ⟨ps, f, e, hf⟩ := runs_last i h2.1 h2.2
      exact ⟨ps, f, by rw [e, extL_snoc], by omega⟩
    · rw [if_neg h2]
      exact ⟨_, _, rfl, by omega⟩
theorem runs_le {F : Nat → Int} : ∀ i, ∀ x ∈ runsP F i, x.1 < x.2 ∧ x.2 ≤ i
  | 0, x, h => by cases h
  | i + 1, x, h => by
    unfold runsP at h
    by_cases h1 : F i = 0
    · rw [if_pos h1] at h
      have := runs_le i x h
      omega
    · rw [if_neg h1] at h
      by_cases h2 : 0 < i ∧ F (i - 1) ≠ 0
      · rw [if_pos h2] at h
        obtain ⟨ps, f, e, hf⟩ := runs_last i h2.1 h2.2
        rw [e, extL_snoc] at h
        rcases List.mem_append.1 h with h | h
        · have := runs_le i x (by rw [e]; exact List.mem_append_left _ h)
          omega
        · simp at h; subst h; simp only; omega
      · rw [if_neg h2] at h
        rcases List.mem_append.1 h with h | h
        · have := runs_le i x h
          omega
        · simp at h; subst h; simp only; omega
theorem runs_len {F : Nat → Int} : ∀ i, (runsP F i).length ≤ i
  | 0 => Nat.le_refl _
  | i + 1 => by
    have ih := runs_len (F := F) i
    unfold runsP
    by_cases h1 : F i = 0
    · rw [if_pos h1]; omega
    · rw [if_neg h1]
      by_cases h2 : 0 < i ∧ F (i - 1) ≠ 0
      · rw [if_pos h2]
        obtain ⟨ps, f, e, hf⟩ := runs_last i h2.1 h2.2
        rw [e] at ih
        rw [e, extL_snoc]
        simp at ih ⊢
        omega
      · rw [if_neg h2]
        simp
        omega
theorem runs_zero {F : Nat → Int} {i : Nat} : ∀ k, (∀ j, i ≤ j → j < i + k → F j = 0) → runsP F (i + k) = runsP F i
  | 0, _ => rfl
  | k + 1, h => by
    have ih := runs_zero k (fun j h1 h2 => h j h1 (by omega))
    show (if F (i + k) = 0 then runsP F (i + k) else _) = _
    rw [if_pos (h (i + k) (by omega) (by omega)), ih]
theorem runs_run {F : Nat → Int} {f : Nat} (h0 : f = 0 ∨ F (f - 1) = 0) : ∀ k, (∀ j, f ≤ j → j < f + k + 1 → F j ≠ 0) → runsP F (f + k + 1) = runsP F f ++ [(f, f + k + 1)]
  | 0, h => by
    show (if F f = 0 then _ else if 0 < f ∧ F (f - 1) ≠ 0 then _ else runsP F f ++ [(f, f + 1)]) = _
    rw [if_neg (h f (by omega) (by omega)), if_neg (fun x => h0.elim (fun h1 => absurd x.1 (by omega)) x.2)]
  | k + 1, h => by
    have ih := runs_run h0 k (fun j h1 h2 => h j h1 (by omega))
    show (if F (f + k + 1) = 0 then _ else if 0 < f + k + 1 ∧ F (f + k + 1 - 1) ≠ 0 then extL (runsP F (f + k + 1)) (f + k + 1 + 1) else _) = _
    rw [if_neg (h (f + k + 1) (by omega) (by omega)), if_pos ⟨by omega, h (f + k) (by omega) (by omega)⟩, ih, extL_snoc]
    rfl
theorem nzA_spec {F : Nat → Int} : ∀ m i, i ≤ nzA F m i ∧ nzA F m i ≤ i + m ∧ (∀ j, i ≤ j → j < nzA F m i → F j = 0) ∧ (nzA F m i < i + m → F (nzA F m i) ≠ 0)
  | 0, i => ⟨Nat.le_refl _, Nat.le_refl _, fun j h1 h2 => by have h2 : j < i := h2; omega, fun h => by have h : i < i + 0 := h; omega⟩
  | m + 1, i => by
    unfold nzA
    by_cases h : F i = 0
    · rw [if_pos h]
      obtain ⟨h1, h2, h3, h4⟩ := nzA_spec (F := F) m (i + 1)
      refine ⟨by omega, by omega, fun j h5 h6 => ?_, fun h5 => h4 (by omega)⟩
      by_cases e : j = i
      · rw [e]; exact h
      · exact h3 j (by omega) h6
    · rw [if_neg h]
      exact ⟨Nat.le_refl _, by omega, fun j h1 h2 => by omega, fun _ => h⟩
theorem ezA_spec {F : Nat → Int} : ∀ m i, i ≤ ezA F m i ∧ ezA F m i ≤ i + m ∧ (∀ j, i ≤ j → j < ezA F m i → F j ≠ 0) ∧ (ezA F m i < i + m → F (ezA F m i) = 0)
  | 0, i => ⟨Nat.le_refl _, Nat.le_refl _, fun j h1 h2 => by have h2 : j < i := h2; omega, fun h => by have h : i < i + 0 := h; omega⟩
  | m + 1, i => by
    unfold ezA
    by_cases h : F i = 0
    · rw [if_pos h]
      exact ⟨Nat.le_refl _, by omega, fun j h1 h2 => by omega, fun _ => h⟩
    · rw [if_neg h]
      obtain ⟨h1, h2, h3, h4⟩ := ezA_spec (F := F) m (i + 1)
      refine ⟨by omega, by omega, fun j h5 h6 => ?_, fun h5 => h4 (by omega)⟩
      by_cases e : j = i
      · rw [e]; exact h
      · exact h3 j (by omega) h6
def mkL (F : Nat → Int) (ps : List (Nat × Nat)) : Nat → Int := ps.foldl (fun G x => layF G x.1 (x.2 - x.1) (fun j => F (x.1 + j))) (fun _ => 0)
theorem mkL_snoc (F : Nat → Int) (ps : List (Nat × Nat)) (x : Nat × Nat) : mkL F (ps ++ [x]) = layF (mkL F ps) x.1 (x.2 - x.1) (fun j => F (x.1 + j)) := by
  unfold mkL
  rw [List.foldl_append]
  rfl
/-- The runs, laid, are the bytes. -/
theorem mkL_runs (F : Nat → Int) : ∀ i, mkL F (runsP F i) = fun j => if j < i then F j else 0
  | 0 => by funext j; rw [if_neg (by omega)]; rfl
  | i + 1 => by
    have ih := mkL_runs F i
    unfold runsP
    funext j
    by_cases h1 : F i = 0
    · rw [if_pos h1, ih]
      dsimp only
      by_cases e : j = i
      · rw [e, if_neg (by omega), if_pos (by omega), h1]
      · by_cases e2 : j < i
        · rw [if_pos e2, if_pos (by omega)]
        · rw [if_neg e2, if_neg (by omega)]
    · rw [if_neg h1]
      by_cases h2 : 0 < i ∧ F (i - 1) ≠ 0
      · rw [if_pos h2]
        obtain ⟨ps, f, e, hf⟩ := runs_last i h2.1 h2.2
        rw [e, mkL_snoc] at ih
        rw [e, extL_snoc, mkL_snoc]
        have ihj := congrFun ih j
        unfold layF at ihj ⊢
        dsimp only at ihj ⊢
        by_cases e1 : j = i
        · subst e1
          rw [if_pos (by omega), if_pos (by omega), show f + (j - f) = j from by omega]
        · by_cases e2 : j < i
          · rw [if_pos e2] at ihj
            rw [if_pos (show j < i + 1 by omega), ← ihj]
            by_cases e3 : f ≤ j
            · rw [if_pos (by omega), if_pos (by omega)]
            · rw [if_neg (by omega), if_neg (by omega)]
          · rw [if_neg e2, if_neg (by omega)] at ihj
            rw [if_neg (by omega), if_neg (by omega)]
            exact ihj
      · rw [if_neg h2, mkL_snoc, ih]
        unfold layF
        dsimp only
        by_cases e1 : j = i
        · subst e1
          rw [if_pos (by omega), if_pos (by omega), show j + (j - j) = j from by omega]
        · rw [if_neg (by omega)]
          by_cases e2 : j < i
          · rw [if_pos e2, if_pos (by omega)]
          · rw [if_neg e2, if_neg (by omega)]
def pA (ps : List (Nat × Nat)) (i : Nat) : Nat := (ps.getD i (0, 0)).1
def pN (ps : List (Nat × Nat)) (i : Nat) : Nat := (ps.getD i (0, 0)).2 - (ps.getD i (0, 0)).1
def pB (F : Nat → Int) (ps : List (Nat × Nat)) (i : Nat) : Nat → Int := fun j => F (pA ps i + j)
theorem getD_old (ps : List (Nat × Nat)) (x : Nat × Nat) {i : Nat} (h : i < ps.length) : (ps ++ [x]).getD i (0, 0) = ps.getD i (0, 0) := by
  simp [List.getD, List.getElem?_append, h]
theorem getD_new (ps : List (Nat × Nat)) (x : Nat × Nat) : (ps ++ [x]).getD ps.length (0, 0) = x := by
  simp [List.getD, List.getElem?_append]
theorem mkF_take (F : Nat → Int) (ps : List (Nat × Nat)) : ∀ k, k ≤ ps.length → mkF (fun i => (pA ps i : Int)) (pN ps) (pB F ps) k = mkL F (ps.take k)
  | 0, _ => rfl
  | k + 1, h => by
    have hk : k < ps.length := h
    have e : ps.take (k + 1) = ps.take k ++ [ps.getD k (0, 0)] := by
      rw [List.take_add_one]
      simp [List.getD, hk]
    rw [e, mkL_snoc, ← mkF_take F ps k (by omega)]
    show layF _ ((pA ps k : Int)).toNat _ _ = _
    rw [Int.toNat_natCast]
    rfl
theorem mkF_runs (F : Nat → Int) (n : Nat) : mkF (fun i => (pA (runsP F n) i : Int)) (pN (runsP F n)) (pB F (runsP F n)) (runsP F n).length = fun j => if j < n then F j else 0 := by
  rw [mkF_take _ _ _ (Nat.le_refl _), List.take_length, mkL_runs]
theorem fits_runs (F : Nat → Int) (n i : Nat) (h : i < (runsP F n).length) : Fits n (pA (runsP F n) i : Int) (pN (runsP F n) i) := by
  have h1 : (runsP F n).getD i (0, 0) = (runsP F n)[i] := by simp [List.getD, h]
  have h2 := runs_le n _ (List.getElem_mem h)
  unfold Fits pA pN
  rw [h1]
  omega
theorem pN_pos (F : Nat → Int) (n i : Nat) (h : i < (runsP F n).length) : pA (runsP F n) i + pN (runsP F n) i ≤ n ∧ 0 < pN (runsP F n) i := by
  have h1 : (runsP F n).getD i (0, 0) = (runsP F n)[i] := by simp [List.getD, h]
  have h2 := runs_le n _ (List.getElem_mem h)
  unfold pA pN
  rw [h1]
  omega

/-! ### in memory -/
theorem infoPie : (Try.prog.info? 48).map (fun i => (i.zero, i.size, i.bytes)) = some (some (.agg #[.int .i64 0, .slice none 0 0]), 2, 32) := by kernel_rfl
def pieV (ps : List (Nat × Nat)) (bs cp : Nat → Nat) (j : Nat) : Value := if j % 2 = 0 then .int .i64 (pA ps (j / 2) : Int) else .slice (some ⟨bs (j / 2), 0, none⟩) (pN ps (j / 2)) (cp (j / 2))
def lstP (ps : List (Nat × Nat)) (bs cp : Nat → Nat) : List Value := (List.range (ps.length * 2)).map (pieV ps bs cp)
theorem lstP_length (ps : List (Nat × Nat)) (bs cp : Nat → Nat) : (lstP ps bs cp).length = ps.length * 2 := by simp [lstP]
theorem lstP_get (ps : List (Nat × Nat)) (bs cp : Nat → Nat) (j : Nat) : (lstP ps bs cp)[j]? = if j < ps.length * 2 then some (pieV ps bs cp j) else none := by
  unfold lstP
  by_cases h : j < ps.length * 2
  · simp [h]
  · simp [h]
theorem lstP_snoc (ps : List (Nat × Nat)) (x : Nat × Nat) (bs cp : Nat → Nat) (b c : Nat) :
    lstP (ps ++ [x]) (fun i => if i = ps.length then b else bs i) (fun i => if i = ps.length then c else cp i) = lstP ps bs cp ++ [.int .i64 (x.1 : Int), .slice (some ⟨b, 0, none⟩) (x.2 - x.1) c] := by
  apply List.ext_getElem?
  intro j
  rw [List.getElem?_append, lstP_get, lstP_get, lstP_length, List.length_append, List.length_singleton]
  unfold pieV pA pN
  by_cases h : j < ps.length * 2
  · have hne : j / 2 ≠ ps.length := by omega
    rw [if_pos (by omega), if_pos h, if_pos h, getD_old ps x (by omega)]
    dsimp only
    rw [if_neg hne, if_neg hne]
  · rw [if_neg h]
    by_cases h1 : j = ps.length * 2
    · rw [if_pos (by omega), if_pos (by omega), show j / 2 = ps.length from by omega, getD_new, show j - ps.length * 2 = 0 from by omega]
      rfl
    · by_cases h2 : j = ps.length * 2 + 1
      · rw [if_pos (by omega), if_neg (by omega), show j / 2 = ps.length from by omega, getD_new, show j - ps.length * 2 = 1 from by omega]
        dsimp only
        rw [if_pos rfl, if_pos rfl]
        rfl
      · rw [if_neg (by omega)]
        rw [List.getElem?_eq_none (by simp; omega)]
theorem own_keep {w w' : World} {base n size : Nat} {e : TypeId} {v : Value} {xs : List Value} (h : w.ownsRow base e size v n xs) (hk : ∀ g, v.ownBlock = some g → w'.heap[g]? = w.heap[g]?) : w'.ownsRow base e size v n xs := by
  obtain ⟨hl, h⟩ := h
  refine ⟨hl, ?_⟩
  rcases h with h | ⟨g, cap, cur, rfl, hb, hh, r⟩
  · exact Or.inl h
  · exact Or.inr ⟨g, cap, cur, rfl, hb, (hk g rfl).trans hh, r⟩
theorem own_set {w : World} {base n size g i cap : Nat} {e : TypeId} {xs : List Value} (h : w.ownsRow base e size (.slice (some ⟨g, 0, none⟩) n cap) n xs) (hi : i < n * size) (u : Value) :
    (w.setCell ⟨g, i, none⟩ u).ownsRow base e size (.slice (some ⟨g, 0, none⟩) n cap) n (xs.set i u) := by
  obtain ⟨hl, h⟩ := h
  refine ⟨by simpa using hl, ?_⟩
  rcases h with ⟨h, _⟩ | ⟨g', cap', cur, hv, hb, hh, h1, h2, h3, h4⟩
  · cases h
  · cases hv
    refine Or.inr ⟨g, cap, cur.setIfInBounds i u, rfl, hb, ?_, h1, h2, by simpa using h3, ?_⟩
    · exact Blk.set_ (t := e) (cs := cur) hh i u
    · rw [Array.toList_setIfInBounds, List.take_set, h4]
theorem own_blk {w : World} {base n size g : Nat} {e : TypeId} {v : Value} {xs : List Value} (h : w.ownsRow base e size v n xs) (hg : v.ownBlock = some g) : base ≤ g ∧ ∃ cur, w.heap[g]? = some (.cells cur e (0, 0)) := by
  rcases h.2 with ⟨rfl, _⟩ | ⟨g', cap, cur, rfl, hb, hh, _⟩
  · cases hg
  · cases hg
    exact ⟨hb, cur, hh⟩
theorem own_type {w : World} {b1 b2 n1 n2 s1 s2 g : Nat} {e1 e2 : TypeId} {v1 v2 : Value} {x1 x2 : List Value} (h1 : w.ownsRow b1 e1 s1 v1 n1 x1) (h2 : w.ownsRow b2 e2 s2 v2 n2 x2) (he : e1 ≠ e2) (hg : v1.ownBlock = some g) : some g ≠ v2.ownBlock := fun hx => by
  obtain ⟨_, c1, k1⟩ := own_blk h1 hg
  obtain ⟨_, c2, k2⟩ := own_blk h2 hx.symm
  rw [k1] at k2
  cases k2
  exact he rfl
theorem own_lt {w : World} {base n size g : Nat} {e : TypeId} {v : Value} {xs : List Value} (h : w.ownsRow base e size v n xs) (hg : v.ownBlock = some g) : g < w.heap.size := by
  obtain ⟨_, c, k⟩ := own_blk h hg
  rcases Nat.lt_or_ge g w.heap.size with hlt | hge
  · exact hlt
  · rw [Array.getElem?_eq_none hge] at k; cases k
/-- Pieces that a call owns, the bytes of each in a block of its own. -/
def PL (w : World) (base : Nat) (v : Value) (ps : List (Nat × Nat)) (F : Nat → Int) : Prop :=
  ∃ bs cp : Nat → Nat, w.ownsRow base 48 2 v ps.length (lstP ps bs cp) ∧
    (∀ i, i < ps.length → w.ownsRow base 5 1 (.slice (some ⟨bs i, 0, none⟩) (pN ps i) (cp i)) (pN ps i) (lst (pN ps i) (pB F ps i))) ∧ ∀ i j, i < j → j < ps.length → bs i ≠ bs j
theorem PL.nil (w : World) (base : Nat) (F : Nat → Int) : PL w base (.slice none 0 0) [] F :=
  ⟨fun _ => 0, fun _ => 0, World.ownsRow_nil _ _ _ _, fun i hi => absurd hi (by simp), fun i j _ hj => absurd hj (by simp)⟩
theorem PL.keep {w w' : World} {base : Nat} {v : Value} {ps : List (Nat × Nat)} {F : Nat → Int} (h : PL w base v ps F) (hk : ∀ g, base ≤ g → g < w.heap.size → w'.heap[g]? = w.heap[g]?) : PL w' base v ps F := by
  obtain ⟨bs, cp, h1, h2, h3⟩ := h
  exact ⟨bs, cp, own_keep h1 (fun g hg => hk g (own_blk h1 hg).1 (own_lt h1 hg)), fun i hi => own_keep (h2 i hi) (fun g hg => hk g (own_blk (h2 i hi) hg).1 (own_lt (h2 i hi) hg)), h3⟩
theorem PL.below {w w' : World} {base m : Nat} {v : Value} {ps : List (Nat × Nat)} {F : Nat → Int} (h : PL w base v ps F) (hb : Below m w w') (hm : w.heap.size ≤ m) : PL w' base v ps F := h.keep fun g _ hg => hb.block g (by omega)
theorem PL.slice {w : World} {base : Nat} {v : Value} {ps : List (Nat × Nat)} {F : Nat → Int} (h : PL w base v ps F) : ∃ a c, v = .slice a ps.length c := by
  obtain ⟨bs, cp, ⟨_, h1⟩, _⟩ := h
  rcases h1 with ⟨rfl, h0⟩ | ⟨g, cap, cur, rfl, _⟩
  · exact ⟨none, 0, by rw [h0]⟩
  · exact ⟨_, _, rfl⟩
/-- As pieces. -/
theorem PL.pieces {w : World} {base : Nat} {v : Value} {ps : List (Nat × Nat)} {F : Nat → Int} (h : PL w base v ps F) :
    ∃ a c O Cp, v = .slice a ps.length c ∧ PieB w a ps.length (fun i => (pA ps i : Int)) O (pN ps) Cp (pB F ps) w.heap.size := by
  obtain ⟨bs, cp, h1, h2, h3⟩ := h
  have hl := h1.1
  rcases h1.2 with ⟨rfl, h0⟩ | ⟨g, cap, cur, rfl, hb, hh, hn, hcap, hsz, htake⟩
  · exact ⟨none, 0, fun _ => none, fun _ => 0, by rw [h0], fun i hi => by omega⟩
  · have hlt : g < w.heap.size := own_lt h1 rfl
    have key : ∀ j, j < ps.length * 2 → w.cell? ⟨g, j, none⟩ = some (pieV ps bs cp j) := fun j hj => by
      rw [cell_of_row w g j cur 48 (0, 0) hh]
      have h1 : (cur.toList.take (ps.length * 2))[j]? = (lstP ps bs cp)[j]? := by rw [htake]
      rw [List.getElem?_take_of_lt hj, lstP_get, if_pos hj] at h1
      rw [← Array.getElem?_toList]
      exact h1
    refine ⟨_, _, fun i => some ⟨bs i, 0, none⟩, cp, rfl, fun i hi => ⟨g, 0, rfl, hlt, ?_, ?_, fun j hj => ?_⟩⟩
    · rw [Nat.zero_add, key _ (by omega)]
      unfold pieV
      rw [if_pos (by omega), show i * 2 / 2 = i from by omega]
    · rw [Nat.zero_add, key _ (by omega)]
      unfold pieV
      rw [if_neg (by omega), show (i * 2 + 1) / 2 = i from by omega]
    · have hr := h2 i hi
      have hbl := own_lt hr (g := bs i) rfl
      rcases hr.2 with ⟨hx, _⟩ | ⟨g', cap', cur', hv, _, hh', _, _, _, ht'⟩
      · cases hx
      · cases hv
        refine ⟨bs i, 0, rfl, hbl, ?_⟩
        rw [Nat.zero_add, cell_of_row w (bs i) j cur' 5 (0, 0) hh']
        have h5 : (cur'.toList.take (pN ps i * 1))[j]? = (lst (pN ps i) (pB F ps i))[j]? := by rw [ht']
        rw [List.getElem?_take_of_lt (by omega), lst_get, if_pos hj] at h5
        rw [← Array.getElem?_toList]
        exact h5
end Go.Proofs.Ytjgobmgoidioiaa
