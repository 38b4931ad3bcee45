/-
  One value appended to a slice that the call owns: 'out = append(out, v)'.
-/
import Derived.Test.YtodimiffmmkndaaDoorOnly
import Derived.Deep.AppendLies
namespace Go.Proofs.YtodimiffmmkndaaDoor
set_option linter.unusedSimpArgs false
set_option linter.unusedVariables false
set_option maxRecDepth 10000
open Go.RowKit
section
variable {P : Program}
theorem own1_blk {w : World} {base n size g : Nat} {e : TypeId} {v : Value} {xs : List Value} (h : w.ownsRow base e size v n xs) (hg : v.ownBlock = some g) : base ≤ g ∧ ∃ cur, w.heap[g]? = some (.cells cur e (0, 0)) := by
  rcases h.2 with ⟨rfl, _⟩ | ⟨g', cap, cur, rfl, hb, hh, _⟩
  · cases hg
  · cases hg
    exact ⟨hb, cur, hh⟩
theorem own1_ne {w : World} {base n size g : Nat} {e t : TypeId} {v : Value} {xs : List Value} {cs : Array Value} (h : w.ownsRow base e size v n xs) (hb : w.heap[g]? = some (.cells cs t (0, 0))) (he : e ≠ t) : some g ≠ v.ownBlock := fun hx => by
  obtain ⟨_, c, k⟩ := own1_blk h hx.symm
  rw [hb] at k
  injection k with k
  injection k with _ k
  exact he k.symm
theorem own1_lt {w : World} {base n size g : Nat} {e : TypeId} {v : Value} {xs : List Value} (h : w.ownsRow base e size v n xs) (hg : v.ownBlock = some g) : g < w.heap.size := by
  obtain ⟨_, c, k⟩ := own1_blk h hg
  rcases Nat.lt_or_ge g w.heap.size with hlt | hge
  · exact hlt
  · rw [Array.getElem?_eq_none hge] at k; cases k
theorem own1_keep {w w' : World} {base n size : Nat} {e : TypeId} {v : Value} {xs : List Value} (h : w.ownsRow base e size v n xs) (hk : ∀ g, v.ownBlock = some g → w'.heap[g]? = w.heap[g]?) : w'.ownsRow base e size v n xs := by
  obtain ⟨hl, h⟩ := h
  refine ⟨hl, ?_⟩
  rcases h with h | ⟨g, cap, cur, rfl, hb, hh, r⟩
  · exact Or.inl h
  · exact Or.inr ⟨g, cap, cur, rfl, hb, (hk g rfl).trans hh, r⟩
/-- What an appended value leaves: what lay below, and what is of another type. -/
def AppKeeps (base : Nat) (e : TypeId) (w w' : World) : Prop :=
  Below base w w' ∧ ∀ (g : Nat) (t : TypeId) (cs : Array Value), e ≠ t → w.heap[g]? = some (.cells cs t (0, 0)) → w'.heap[g]? = some (.cells cs t (0, 0))
theorem app_keeps {w w' : World} {base n : Nat} {e : TypeId} {v : Value} {xs : List Value} (o : Obj) (hown : w.ownsRow base e 1 v n xs) (hbase : base ≤ w.heap.size) (hg : (w.alloc o).grownBy w' v.ownBlock) : AppKeeps base e w w' := by
  have hown2 := World.ownsRow.alloc hown o
  refine ⟨((Below.refl base w).alloc hbase o).grown hg (by simp; omega) (fun k hk => (own1_blk hown hk).1), fun g t cs he hb => ?_⟩
  have hb2 : (w.alloc o).heap[g]? = some (.cells cs t (0, 0)) := Blk.alloc (t := t) (cs := cs) hb o
  exact Blk.grown (t := t) (cs := cs) hb2 hg (own1_ne hown2 hb2 he)
theorem wpList_append_one {ops : Array Oper} {rest : List Oper} {o : Oper} {a : Act} {w : World} {Q : Exit → Act → World → Prop} (hgd : o.guard = none) (s x : Operand) (t : TypeId)
    (ho : o.op = .call { callee := .builtin .append, args := #[s, x], argTypes := #[t, t] })
    (base : Nat) (e : TypeId) (i : TypeInfo) (z : Value) (bytes : Nat) (ht : P.underlying t = some (.slice e)) (hi : P.info? e = some i) (hz : i.zero = some z)
    (hsize : i.size = 1) (hby : i.bytes = bytes) (hzs : z.cells.size = 1)
    (v : Value) (n : Nat) (xs : List Value) (hs : a.eval s = v) (hown : w.ownsRow base e 1 v n xs)
    (u : Value) (hx : a.eval x = .slice (some ⟨w.heap.size, 0, none⟩) 1 1) (h1 : u.oneCell' = true) (h63 : n + 1 ≤ maxLen) (hbytes : (n + 1) * bytes ≤ 140737488355328) (hbase : base ≤ w.heap.size)
    (h : ∀ g cap w', w'.ownsRow base e 1 (.slice (some ⟨g, 0, none⟩) (n + 1) cap) (n + 1) (xs ++ [u]) → AppKeeps base e w w' → wpList P ops Q rest (a.put o.dst (.slice (some ⟨g, 0, none⟩) (n + 1) cap)) w') : wpList P ops Q (o :: rest) a (w.alloc (.cells #[u] e)) := by
  refine wpList_append_lies _ hgd s x t ho base e i z 1 bytes ht hi hz hsize hby hzs (by decide) v n xs hs (World.ownsRow.alloc hown _) ⟨w.heap.size, 0, none⟩ 1 1 [u] hx rfl
    (World.news_of_block (cs := #[u]) (t := e) (fr := (0, 0)) (heap_alloc_new w _)) (by simpa using h1) (by decide) h63 hbytes (by simp; omega) _ rfl ?_
  intro g cap w' h2 h3 _ _
  exact h g cap w' h2 (app_keeps _ hown hbase h3)
end
end Go.Proofs.YtodimiffmmkndaaDoor
