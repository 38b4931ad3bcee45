/-
  gannetref04: Pieces.
-/
import Derived.Test.YtjgobmgoidioiaaCart5
namespace Go.Proofs.Ytjgobmgoidioiaa
open Go.RowKit

theorem lst_succ (n : Nat) (L : Nat → Int) : lst (n + 1) L = lst n L ++ [.int .u8 (L n)] := by
  unfold lst
  rw [List.range_succ, List.map_append]
  rfl
theorem lstP_ext (ps : List (Nat × Nat)) (f e e' : Nat) (bs cp : Nat → Nat) (b c : Nat) :
    (lstP (ps ++ [(f, e)]) bs cp).set (ps.length * 2 + 1) (.slice (some ⟨b, 0, none⟩) (e' - f) c) = lstP (ps ++ [(f, e')]) (fun i => if i = ps.length then b else bs i) (fun i => if i = ps.length then c else cp i) := by
  apply List.ext_getElem?
  intro j
  rw [List.getElem?_set, lstP_get, lstP_get, lstP_length, List.length_append, List.length_append, List.length_singleton, List.length_singleton]
  unfold pieV pA pN
  by_cases h1 : ps.length * 2 + 1 = j
  · rw [if_pos h1, if_pos (by omega), if_pos (by omega), if_neg (by omega), show j / 2 = ps.length from by omega, getD_new]
    dsimp only
    rw [if_pos rfl, if_pos rfl]
  · rw [if_neg h1]
    by_cases hj : j < (ps.length + 1) * 2
    · rw [if_pos hj, if_pos hj]
      by_cases h2 : j < ps.length * 2
      · have hne : j / 2 ≠ ps.length := by omega
        rw [getD_old ps _ (by omega), getD_old ps _ (by omega)]
        dsimp only
        rw [if_neg hne, if_neg hne]
      · rw [if_pos (show j % 2 = 0 by omega), if_pos (show j % 2 = 0 by omega), show j / 2 = ps.length from by omega, getD_new, getD_new]
    · rw [if_neg hj, if_neg hj]
theorem own_cell {w : World} {base n size g cap j : Nat} {e : TypeId} {xs : List Value} {u : Value} (h : w.ownsRow base e size (.slice (some ⟨g, 0, none⟩) n cap) n xs) (hj : xs[j]? = some u) : w.cell? ⟨g, j, none⟩ = some u ∧ w.frozen? ⟨g, j, none⟩ = false := by
  rcases h.2 with ⟨hx, _⟩ | ⟨g', cap', cur', hv, _, hh', _, _, _, ht'⟩
  · cases hx
  · cases hv
    refine ⟨?_, by simp [World.frozen?, hh']⟩
    rw [cell_of_row w g j cur' e (0, 0) hh', ← Array.getElem?_toList]
    rw [← ht'] at hj
    have hlt : j < n * size := by
      rcases Nat.lt_or_ge j (n * size) with hlt | hge
      · exact hlt
      · rw [List.getElem?_eq_none (Nat.le_trans (List.length_take_le _ _) hge)] at hj; cases hj
    rwa [List.getElem?_take_of_lt hlt] at hj
/-- The last piece goes on by one byte. -/
theorem PL.ext {w w2 w1 : World} {base ob gg cap c0 : Nat} {ps : List (Nat × Nat)} {f e : Nat} {F : Nat → Int} {bs cp : Nat → Nat}
    (h1 : w.ownsRow base 48 2 (.slice (some ⟨ob, 0, none⟩) (ps.length + 1) c0) (ps.length + 1) (lstP (ps ++ [(f, e)]) bs cp))
    (h2 : ∀ i, i < (ps ++ [(f, e)]).length → w.ownsRow base 5 1 (.slice (some ⟨bs i, 0, none⟩) (pN (ps ++ [(f, e)]) i) (cp i)) (pN (ps ++ [(f, e)]) i) (lst (pN (ps ++ [(f, e)]) i) (pB F (ps ++ [(f, e)]) i)))
    (h3 : ∀ i j, i < j → j < (ps ++ [(f, e)]).length → bs i ≠ bs j) (hfe : f < e) (hb : Below w.heap.size w w2)
    (hown : w1.ownsRow base 5 1 (.slice (some ⟨gg, 0, none⟩) (e - f + 1) cap) (e - f + 1) (lst (e - f) (fun j => F (f + j)) ++ [.int .u8 (F e)]))
    (hgrow : w2.grownBy w1 (some (bs ps.length))) (hat : bs ps.length = gg ∨ w.heap.size ≤ gg) :
    PL (w1.setCell ⟨ob, ps.length * 2 + 1, none⟩ (.slice (some ⟨gg, 0, none⟩) (e - f + 1) cap)) base (.slice (some ⟨ob, 0, none⟩) (ps.length + 1) c0) (ps ++ [(f, e + 1)]) F := by
  have hl : (ps ++ [(f, e + 1)]).length = ps.length + 1 := by simp
  have hl2 : (ps ++ [(f, e)]).length = ps.length + 1 := by simp
  have hlast := h2 ps.length (by omega)
  have hobk : some ob ≠ some (bs ps.length) := own_type h1 hlast (by decide) rfl
  have h1' : w1.ownsRow base 48 2 (.slice (some ⟨ob, 0, none⟩) (ps.length + 1) c0) (ps.length + 1) (lstP (ps ++ [(f, e)]) bs cp) :=
    own_keep h1 (fun g hg => by
      have hlt := own_lt h1 hg
      cases hg
      exact (hgrow.block ob (Nat.lt_of_lt_of_le hlt hb.size) hobk).trans (hb.block ob hlt))
  have hgo : some gg ≠ some ob := own_type hown h1' (by decide) rfl
  have hgo' : gg ≠ ob := fun e => hgo (by rw [e])
  have hee : e + 1 - f = e - f + 1 := by omega
  refine ⟨fun i => if i = ps.length then gg else bs i, fun i => if i = ps.length then cap else cp i, ?_, fun i hi => ?_, fun i j hij hj => ?_⟩
  · rw [hl, ← lstP_ext ps f e (e + 1) bs cp gg cap, hee]
    exact own_set h1' (by omega) _
  · by_cases ei : i = ps.length
    · subst ei
      unfold pN pB pA
      rw [getD_new]
      dsimp only
      rw [if_pos rfl, if_pos rfl, hee, lst_succ, show f + (e - f) = e from by omega]
      exact own_keep hown (fun g hg => by cases hg; exact Below.heap_setCell _ ⟨ob, _, none⟩ _ _ hgo')
    · have hi' : i < ps.length := by omega
      have h6 := h2 i (by omega)
      have hlt := own_lt h6 (g := bs i) rfl
      have hbo : some (bs i) ≠ some ob := own_type h6 h1 (by decide) rfl
      unfold pN pB pA at h6 ⊢
      rw [getD_old ps _ hi'] at h6 ⊢
      dsimp only
      rw [if_neg ei, if_neg ei]
      refine own_keep h6 (fun g hg => ?_)
      cases hg
      refine ((Below.heap_setCell _ ⟨ob, _, none⟩ _ _ (fun e => hbo (by rw [e]))).trans (hgrow.block _ (Nat.lt_of_lt_of_le hlt hb.size) (fun e => ?_))).trans (hb.block _ hlt)
      injection e with e
      exact h3 i ps.length hi' (by omega) e
  · dsimp only
    have hi : i ≠ ps.length := by omega
    rw [if_neg hi]
    by_cases ej : j = ps.length
    · rw [if_pos ej]
      have hlt := own_lt (h2 i (by omega)) (g := bs i) rfl
      rcases hat with hat | hat
      · rw [← hat]; exact h3 i ps.length (by omega) (by omega)
      · omega
    · rw [if_neg ej]
      exact h3 i j hij (by omega)
end Go.Proofs.Ytjgobmgoidioiaa
