/-
  irq.Choose.
-/
import Derived.Test.YtemfdkoipeedeaaIrq3
import Derived.Test.YtemfdkoipeedeaaObit
namespace Go.Proofs.Ytemfdkoipeedeaa
set_option linter.unusedSimpArgs false
set_option linter.unusedVariables false
set_option maxRecDepth 10000
open Go.RowKit Go.Shelf Pl
attribute [local go_sem] Oper.semAt_some

/-- Is this one let in? -/
def chK (r m u i j k : Bool) (d x : Nat) : Bool := lkB r m u i j x && (decide (x < 3) || (!k && !tb d (5 - (x : Int))))
def chF (r m u i j k : Bool) (d : Nat) : Kd → Bool := fun x => chK r m u i j k d x.1
/-- The first of a list that is let in. -/
def chL (f : Kd → Bool) (l : List Kd) : Nat := match l.find? f with | some x => x.1 | none => 0
theorem find_snoc {f : Kd → Bool} {l : List Kd} (x : Kd) (h : l.find? f = none) : (l ++ [x]).find? f = if f x then some x else none := by
  rw [List.find?_append, h]
  cases hf : f x <;> simp [hf]
theorem find_pre {f : Kd → Bool} {l t : List Kd} {x : Kd} (h : l.find? f = some x) (hp : l <+: t) : chL f t = chL f l := by
  obtain ⟨s, rfl⟩ := hp
  unfold chL
  rw [List.find?_append, h]
  rfl
theorem qv_own {β : Type} (o : Option Addr) (d : Nat) (u : Bool) : Own (fun (_ : β) W => QV W o d u) := fun s X Y row hs hg hrow => by
  rcases hs with h | ⟨g, e, h⟩
  · exact .inl h
  · exact .inr ⟨g, e, (blk_own g 106 (fun _ : β => #[.int .u8 (d : Int), .bool u])) s X Y row h hg hrow⟩
theorem results_cell1 {P : Program} {fn : Func} {p : Tmp} {ty : TypeId} {tmps : Array Value} {w : World} {g : Nat} {v : Value} (h : fn.results = #[.cell p ty]) (hp : tmps.getD p undef = .pointer (some ⟨g, 0, none⟩)) (hc : w.cell? ⟨g, 0, none⟩ = some v)
    (hag : ∀ w, (isAgg ty).run P w = .ok false w) : (results fn tmps).run P w = .ok v w := by
  have hp' : tmps[p]?.getD undef = .pointer (some ⟨g, 0, none⟩) := by simpa using hp
  simp [results, h, hp', asAddr, loadVar, Sem.run_bind, hag, Result.andThen, go_sem, hc]
theorem agg_u8 : ∀ w, (isAgg 5).run Try.prog w = .ok false w := fun w => by
  unfold isAgg
  rw [Sem.run_bind, run_underlying Try.underlying5 w]
  rfl
end Go.Proofs.Ytemfdkoipeedeaa
