/-
  Package opcode: Of.
-/
import Derived.Test.YtodimiffmmkndaaDoorOpc3
namespace Go.Proofs.YtodimiffmmkndaaDoor
set_option linter.unusedSimpArgs false
set_option linter.unusedVariables false
set_option maxRecDepth 10000
open Go.RowKit Go.Shelf Pl
/-- The operations of a body's fourth part. -/
def ops4th (f : Func) : Array Oper := match f.body with | some (.seq _ (.seq _ (.seq _ (.seq (.region _ ops _) _)))) => ops | _ => #[]
/-- The text that a call is given first. -/
def argOf (o : Option Oper) : ByteArray := match o with | some o => (match o.op with | .call c => (match (c.args[0]? : Option Operand) with | some (Operand.const (Value.string s)) => s | _ => .empty) | _ => .empty) | none => .empty
/-- The letters of the modes, as they stand in the program. -/
noncomputable def lts : ByteArray := argOf (ops4th Tryd.f8)[1]?
/-- Where a byte's mode stands among them. -/
noncomputable def mdI (b : Nat) : Int := Lib.index lts.data.toList (mdB b).data.toList
theorem lts_size : lts.size = 40 := by decide +kernel
theorem mdI_all : ∀ b, b < 256 → 0 ≤ mdI b ∧ mdI b < 40 := by decide +kernel
end Go.Proofs.YtodimiffmmkndaaDoor
