/-
  lines: Clone; gannetref07: Up, Next, To, Copy.
-/
import Derived.Test.YtemfdkoipeedeaaLn4
namespace Go.Proofs.Ytemfdkoipeedeaa
set_option linter.unusedSimpArgs false
set_option linter.unusedVariables false
set_option maxRecDepth 10000
open Go.RowKit

theorem LB.below {w w' : World} {g : Nat} {o : Option Addr} {n c s : Nat} {Ln : Nat → Nat} {Up : Nat → Bool} {r : Bool} (h : LB w g o n c s Ln Up r) (hb : Below w.heap.size w w') : LB w' g o n c s Ln Up r := Blk.below h hb (Blk.lt h)
theorem LB.only {S : Nat → Prop} {w w' : World} {g : Nat} {o : Option Addr} {n c s : Nat} {Ln : Nat → Nat} {Up : Nat → Bool} {r : Bool} (h : LB w g o n c s Ln Up r) (ho : Only S w w') (hg : ¬ S g) : LB w' g o n c s Ln Up r := Blk.only h ho hg
end Go.Proofs.Ytemfdkoipeedeaa
