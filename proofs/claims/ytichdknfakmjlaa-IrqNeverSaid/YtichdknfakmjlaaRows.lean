/-
  No cell of these rows narrows 'for every input' (looked for: loops, veiled, ifaces, maps, wideKeys, modest, calm, conditions, laid).
  DERIVED. THE GIVEN ROWS OF THIS SEAT. 3 by the template 'for every input the law returns true; each argument reads behind the call as it read before'; 0 by the template 'total and deterministic' (their statements: YtichdknfakmjlaaTotals.lean).
  GIVEN WITH THE SEED: the statements are not yours to turn. If you find one false, say at which input.
  Laid BY PROGRAM, IN A SANDBOX (cutbox-rows.mjs): the forced cells as the released guide's own fill.sh prints them over the translation 6ff1114ee68693ca… (all of the seat's roots in one cut). By AI agents, Wed Nov 11 2026. No macro, syntax, notation, axiom, sorry.
-/
import Derived.Test.YtichdknfakmjlaaChecked
import GoSem.Claim
import GoSem.ClaimJoined
import GoSem.ClaimMapViews
import Derived.JoinedTies
import Derived.KernelRfl
namespace Go.Proofs.Ytichdknfakmjlaa
/- THE CELL 'sum', in the pinned program and in every row, IS THE sha256 OF THE DUMP (.gsa) THAT YtichdknfakmjlaaProg.lean LOADS. Nothing in Lean hashes anything: it is a label: what it is worth is what the hold of that sum in a sandbox is worth. -/
noncomputable def Try.pinned : Pinned := { name := "ytichdknfakmjlaa", sum := "6ff1114ee68693cad213320da39f73aa7ee9ededa08e54b20bb80d7533b2a1b5", checked := Try.checked }
namespace Rows
def none {H : Type} : Left H := { results := [], args := [] }

/-- 'gannetlaw11.IrqChooses': WHATEVER THE INPUT: true; the input reads as it did. -/
def irqChoosesSpec : ChangeSpec := { name := "irqChooses", fn := fun _ => fun
  | [d1, d2] => { results := [.lit (.bool true)], args := [d1, d2] }
  | _ => none }
def irqChoosesRow : OpenClaim := { program := "ytichdknfakmjlaa", sum := "6ff1114ee68693cad213320da39f73aa7ee9ededa08e54b20bb80d7533b2a1b5", func := "gannet/gannetlaw11.IrqChooses", spec := "irqChooses", unfollowed := true, recurses := true, apart := false }
def IrqChoosesSaid : Prop := irqChoosesRow.holds Try.pinned (OpenSpec.ofChange irqChoosesSpec)

/-- ITS FALSE NEIGHBOUR: 'it returns false'. Refute it at one input. -/
def irqChoosesWrong : ChangeSpec := { name := "irqChooses", fn := fun _ => fun
  | [d1, d2] => { results := [.lit (.bool false)], args := [d1, d2] }
  | _ => none }
def IrqChoosesWrongFalsely : Prop := irqChoosesRow.holds Try.pinned (OpenSpec.ofChange irqChoosesWrong)

/-- 'gannetlaw11.IrqNever': WHATEVER THE INPUT: true; the input reads as it did. -/
def irqNeverSpec : ChangeSpec := { name := "irqNever", fn := fun _ => fun
  | [d1, d2, d3] => { results := [.lit (.bool true)], args := [d1, d2, d3] }
  | _ => none }
def irqNeverRow : OpenClaim := { program := "ytichdknfakmjlaa", sum := "6ff1114ee68693cad213320da39f73aa7ee9ededa08e54b20bb80d7533b2a1b5", func := "gannet/gannetlaw11.IrqNever", spec := "irqNever", unfollowed := true, recurses := true, apart := false }
def IrqNeverSaid : Prop := irqNeverRow.holds Try.pinned (OpenSpec.ofChange irqNeverSpec)

/-- ITS FALSE NEIGHBOUR: 'it returns false'. Refute it at one input. -/
def irqNeverWrong : ChangeSpec := { name := "irqNever", fn := fun _ => fun
  | [d1, d2, d3] => { results := [.lit (.bool false)], args := [d1, d2, d3] }
  | _ => none }
def IrqNeverWrongFalsely : Prop := irqNeverRow.holds Try.pinned (OpenSpec.ofChange irqNeverWrong)

/-- 'gannetlaw11.IrqKinds': WHATEVER THE INPUT: true; the input reads as it did. -/
def irqKindsSpec : ChangeSpec := { name := "irqKinds", fn := fun _ => fun
  | [d] => { results := [.lit (.bool true)], args := [d] }
  | _ => none }
def irqKindsRow : OpenClaim := { program := "ytichdknfakmjlaa", sum := "6ff1114ee68693cad213320da39f73aa7ee9ededa08e54b20bb80d7533b2a1b5", func := "gannet/gannetlaw11.IrqKinds", spec := "irqKinds", unfollowed := true, recurses := true, apart := false }
def IrqKindsSaid : Prop := irqKindsRow.holds Try.pinned (OpenSpec.ofChange irqKindsSpec)

/-- ITS FALSE NEIGHBOUR: 'it returns false'. Refute it at one input. -/
def irqKindsWrong : ChangeSpec := { name := "irqKinds", fn := fun _ => fun
  | [d] => { results := [.lit (.bool false)], args := [d] }
  | _ => none }
def IrqKindsWrongFalsely : Prop := irqKindsRow.holds Try.pinned (OpenSpec.ofChange irqKindsWrong)

/- THE SECOND FORM. 'bulk': how many values and letters a reading holds, each counted each time it is reached (what is shared counts as often as it is met; a slice's spare places count too). A statement '..UptoSaid' is the law's where the arguments, and the package variables that the reading takes, are together of bulk at most 1048576: NARROWER than '..Said'. Prove '..Said' where nothing that the law and all that it calls make is longer than what came in: it says more and counts as full. Else prove '..UptoSaid'. A law counts once. -/
mutual
def uptoBulk {H : Type} : DataW H → Nat
  | .lit (.string bytes) => bytes.length + 1
  | .lit _ => 1
  | .nil => 1
  | .ptr d => uptoBulk d + 1
  | .slice elems spare => uptoBulkAll elems + uptoBulkAll spare + 1
  | .agg parts => uptoBulkAll parts + 1
  | .iface _ d => uptoBulk d + 1
  | .map entries => uptoBulkEntries entries + 1
  | .held _ => 1
def uptoBulkAll {H : Type} : List (DataW H) → Nat
  | [] => 0
  | d :: r => uptoBulk d + uptoBulkAll r
def uptoBulkEntries {H : Type} : List (Lit × DataW H) → Nat
  | [] => 0
  | x :: r => uptoBulkEntry x + uptoBulkEntries r
def uptoBulkEntry {H : Type} : Lit × DataW H → Nat
  | (.string bytes, d) => bytes.length + uptoBulk d + 1
  | (_, d) => uptoBulk d + 1
 end
def uptoSmall : (H : Type) → List (DataW H) → Bool := fun _ ds => decide (uptoBulkAll ds ≤ 1048576)
def OpenSpec.upto (s : _root_.Go.ChangeSpec) : _root_.Go.OpenSpec := { _root_.Go.OpenSpec.ofChange s with cond := some uptoSmall }

/-- 'gannetlaw11.IrqChooses', WHERE WHAT IT READS IS OF BULK AT MOST 1048576: true; the input reads as it did. -/
def irqChoosesUptoRow : OpenClaim := { program := "ytichdknfakmjlaa", sum := "6ff1114ee68693cad213320da39f73aa7ee9ededa08e54b20bb80d7533b2a1b5", func := "gannet/gannetlaw11.IrqChooses", spec := "irqChooses", unfollowed := true, recurses := true, apart := false, narrowed := true }
def IrqChoosesUptoSaid : Prop := irqChoosesUptoRow.holds Try.pinned (OpenSpec.upto irqChoosesSpec)

/-- 'gannetlaw11.IrqNever', WHERE WHAT IT READS IS OF BULK AT MOST 1048576: true; the input reads as it did. -/
def irqNeverUptoRow : OpenClaim := { program := "ytichdknfakmjlaa", sum := "6ff1114ee68693cad213320da39f73aa7ee9ededa08e54b20bb80d7533b2a1b5", func := "gannet/gannetlaw11.IrqNever", spec := "irqNever", unfollowed := true, recurses := true, apart := false, narrowed := true }
def IrqNeverUptoSaid : Prop := irqNeverUptoRow.holds Try.pinned (OpenSpec.upto irqNeverSpec)

/-- 'gannetlaw11.IrqKinds', WHERE WHAT IT READS IS OF BULK AT MOST 1048576: true; the input reads as it did. -/
def irqKindsUptoRow : OpenClaim := { program := "ytichdknfakmjlaa", sum := "6ff1114ee68693cad213320da39f73aa7ee9ededa08e54b20bb80d7533b2a1b5", func := "gannet/gannetlaw11.IrqKinds", spec := "irqKinds", unfollowed := true, recurses := true, apart := false, narrowed := true }
def IrqKindsUptoSaid : Prop := irqKindsUptoRow.holds Try.pinned (OpenSpec.upto irqKindsSpec)

end Rows
end Go.Proofs.Ytichdknfakmjlaa
