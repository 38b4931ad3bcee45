/-
  Package phys: more, last, Span.
-/
import Derived.Test.YtmlkmaeihkgdlaaPhys
import Derived.Test.YtmlkmaeihkgdlaaBspan
import Derived.Test.YtmlkmaeihkgdlaaOpen
import Derived.Deep.RegionLaw
import Derived.Deep.AppendLies
import Derived.OwnWalk
import Derived.Laws.OwnMore
namespace Go.Proofs.Ytmlkmaeihkgdlaa
open Go.RowKit Pl

def flat (l : Rws) : List Value := l.flatMap fun p => [.int .u32 (p.1 : Int), .int .u32 (p.2 : Int)]
theorem flat_append (l m : Rws) : flat (l ++ m) = flat l ++ flat m := by simp [flat]
theorem flat_one (a m : Nat) : flat [(a, m)] = [.int .u32 (a : Int), .int .u32 (m : Int)] := rfl
theorem flat_len (l : Rws) : (flat l).length = l.length * 2 := by
  induction l with
  | nil => rfl
  | cons x l ih => simp only [flat, List.flatMap_cons, List.length_append] at ih ⊢; simp [flat] at ih ⊢; omega
theorem flat_get (l : Rws) (i : Nat) (h : i < l.length) : (flat l)[i * 2]? = some (.int .u32 (l[i].1 : Int)) ∧ (flat l)[i * 2 + 1]? = some (.int .u32 (l[i].2 : Int)) := by
  induction l generalizing i with
  | nil => simp at h
  | cons x l ih =>
    cases i with
    | zero => exact ⟨rfl, rfl⟩
    | succ i =>
      have := ih i (by simpa using h)
      rw [show (i + 1) * 2 = i * 2 + 1 + 1 from by omega]
      simpa [flat] using this
theorem own_slice {w : World} {base n size : Nat} {e : TypeId} {v : Value} {xs : List Value} (h : w.ownsRow base e size v n xs) : ∃ a c, v = .slice a n c := by
  obtain ⟨hl, hv | ⟨g, cap, cur, rfl, hb, hh, hn, hcap, hsz, htake⟩⟩ := h
  · obtain ⟨rfl, rfl⟩ := hv
    exact ⟨none, 0, rfl⟩
  · exact ⟨_, _, rfl⟩
theorem own_below {w w' : World} {base n size B : Nat} {e : TypeId} {v : Value} {xs : List Value} (h : w.ownsRow base e size v n xs) (hb : Below B w w') (hB : w.heap.size ≤ B) : w'.ownsRow base e size v n xs := by
  have hlt := h.lt
  obtain ⟨hl, hv | ⟨g, cap, cur, rfl, hb', hh, hn, hcap, hsz, htake⟩⟩ := h
  · exact ⟨hl, Or.inl hv⟩
  · have := (hlt g rfl).2
    exact ⟨hl, Or.inr ⟨g, cap, cur, rfl, hb', (hb.block g (by omega)).trans hh, hn, hcap, hsz, htake⟩⟩

theorem flat_set (l : Rws) (a m x : Nat) : (flat (l ++ [(a, m)])).set (l.length * 2 + 1) (.int .u32 (x : Int)) = flat (l ++ [(a, x)]) := by
  rw [flat_append, flat_append, flat_one, flat_one, List.set_append_right _ _ (by rw [flat_len]; omega), flat_len, show l.length * 2 + 1 - l.length * 2 = 1 from by omega]
  rfl
theorem two_int (x y : Int) : ∀ u ∈ [Value.int .u32 x, Value.int .u32 y], u.oneCell' = true := by
  intro u hu
  simp at hu
  rcases hu with rfl | rfl <;> rfl
/-- All blocks but one stay as they are. -/
def Keeps (w w' : World) (row : Option Nat) : Prop := w.heap.size ≤ w'.heap.size ∧ ∀ k, k < w.heap.size → some k ≠ row → w'.heap[k]? = w.heap[k]?
theorem Keeps.refl (w : World) (row : Option Nat) : Keeps w w row := ⟨Nat.le_refl _, fun _ _ _ => rfl⟩
theorem Keeps.below {w w1 w2 : World} {B : Nat} {row : Option Nat} (h : Keeps w w1 row) (hb : Below B w1 w2) (hB : w.heap.size ≤ B) : Keeps w w2 row :=
  ⟨Nat.le_trans h.1 hb.size, fun k hk hr => (hb.block k (by omega)).trans (h.2 k hk hr)⟩
theorem Keeps.grown {w w1 w2 : World} {row : Option Nat} (h : Keeps w w1 row) (hg : w1.grownBy w2 row) : Keeps w w2 row :=
  ⟨Nat.le_trans h.1 hg.size, fun k hk hr => (hg.block k (Nat.lt_of_lt_of_le hk h.1) hr).trans (h.2 k hk hr)⟩
theorem Keeps.set {w w1 : World} {g : Nat} (h : Keeps w w1 (some g)) (a : Addr) (ha : a.block = g) (u : Value) : Keeps w (w1.setCell a u) (some g) := by
  refine ⟨by simp [World.setCell, h.1], fun k hk hr => ?_⟩
  have hne : k ≠ a.block := fun e => hr (by rw [e, ha])
  exact (Below.heap_setCell w1 a u k hne).trans (h.2 k hk hr)
theorem Blk.keeps {w w' : World} {row : Option Nat} {g : Nat} {t : TypeId} {cs : Array Value} (h : Blk w g t cs) (hk : Keeps w w' row) (hne : some g ≠ row) : Blk w' g t cs := (hk.2 g h.lt hne).trans h
theorem lastL_yes (wh : Nat) (l : Rws) (n : Nat) (h : uWh (6 - n) = wh) : lastL wh l (n + 1) = moreL (lastL wh l n) (adr 255 (uFrom (6 - n))) (uEnd (6 - n) - uFrom (6 - n)) := if_pos h
theorem lastL_no (wh : Nat) (l : Rws) (n : Nat) (h : ¬ uWh (6 - n) = wh) : lastL wh l (n + 1) = lastL wh l n := if_neg h
end Go.Proofs.Ytmlkmaeihkgdlaa
