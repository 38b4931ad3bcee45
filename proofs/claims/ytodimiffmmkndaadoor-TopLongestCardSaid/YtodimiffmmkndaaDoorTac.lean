/-
  Small laws for a walk that goes from call to call.
-/
import Derived.Test.YtodimiffmmkndaaDoorCore
import Derived.BigQuiet
import Derived.Deep.QuietTactic
namespace Go.Proofs.YtodimiffmmkndaaDoor
set_option linter.unusedSimpArgs false
set_option linter.unusedVariables false
set_option maxRecDepth 10000
open Go.RowKit

theorem Bl.chain {w v u : World} {m : Nat} (h : Below w.heap.size w v) (h2 : Below m v u) (hm : v.heap.size ≤ m) : Below w.heap.size w u := h.trans (h2.mono (Nat.le_trans h.size hm))
theorem Bl.alloc {w v : World} (h : Below w.heap.size w v) (o : Obj) : Below w.heap.size w (v.alloc o) := Below.alloc h h.size o
theorem Cl.p {P : Program} {f : FuncId} {a : Array Value} {w : World} {v : Ending} {Q : Ending → World → Prop} (h : Calls P f a w fun e w' => e = v ∧ w = w') (k : Q v w) : Calls P f a w Q :=
  h.mono fun _ _ h => by obtain ⟨rfl, rfl⟩ := h; exact k
theorem Cl.m {P : Program} {f : FuncId} {a : Array Value} {w : World} {v : Ending} {n : Nat} {Q : Ending → World → Prop} (h : Calls P f a w fun e w' => e = v ∧ Below n w w') (k : ∀ w', Below n w w' → Q v w') : Calls P f a w Q :=
  h.mono fun _ w' h => by obtain ⟨rfl, h2⟩ := h; exact k w' h2
/-- At a call in a region that only reads: the callee's contract says 'w = w''. -/
theorem quiet_left {P : Program} {f : FuncId} {args : Array Value} {w : World} {n : Nat} {v : Value}
    (h : Calls P f args (w.drewN n) fun e w' => e = .returned v ∧ w.drewN n = w') : Calls P f args (w.drewN n) fun e w'' => e = .returned v ∧ ∃ m, w'' = w.drewN m :=
  h.mono fun _ _ ⟨he, hm⟩ => ⟨he, n, hm.symm⟩
theorem quiet_add_left {P : Program} {f : FuncId} {args : Array Value} {w : World} {a n : Nat} {v : Value}
    (h : Calls P f args (w.drewN (a + n)) fun e w' => e = .returned v ∧ w.drewN (a + n) = w') :
    Calls P f args (w.drewN (a + n)) fun e w'' => e = .returned v ∧ ∃ m, w'' = w.drewN (a + m) :=
  h.mono fun _ _ ⟨he, hm⟩ => ⟨he, n, hm.symm⟩
end Go.Proofs.YtodimiffmmkndaaDoor
