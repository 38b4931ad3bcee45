/-
  No cell of these rows narrows 'for every input' (looked for: loops, veiled, ifaces, maps, wideKeys, modest, calm, conditions, laid).
  DERIVED. THE GIVEN ROWS OF THIS SEAT. 3 by the template 'for every input the law returns true; each argument reads behind the call as it read before'; 0 by the template 'total and deterministic' (their statements: YtbnpjmmgnijjlaaTotals.lean).
  GIVEN WITH THE SEED: the statements are not yours to turn. If you find one false, say at which input.
  Laid BY PROGRAM, IN A SANDBOX (cutbox-rows.mjs): the forced cells as the released guide's own fill.sh prints them over the translation 394cf95f509fde2b… (all of the seat's roots in one cut). By AI agents, Wed Nov 11 2026. No macro, syntax, notation, axiom, sorry.
-/
import Derived.Test.YtbnpjmmgnijjlaaChecked
import GoSem.Claim
import GoSem.ClaimJoined
import GoSem.ClaimMapViews
import Derived.JoinedTies
import Derived.KernelRfl
namespace Go.Proofs.Ytbnpjmmgnijjlaa
/- THE CELL 'sum', in the pinned program and in every row, IS THE sha256 OF THE DUMP (.gsa) THAT YtbnpjmmgnijjlaaProg.lean LOADS. Nothing in Lean hashes anything: it is a label: what it is worth is what the hold of that sum in a sandbox is worth. -/
noncomputable def Try.pinned : Pinned := { name := "ytbnpjmmgnijjlaa", sum := "394cf95f509fde2bdf9ebd166217e367e18412e7264b75504d91a74da13fd662", checked := Try.checked }
namespace Rows
def none {H : Type} : Left H := { results := [], args := [] }

/-- 'gannetlaw22.LogicJoins': WHATEVER THE INPUT: true; the input reads as it did. -/
def logicJoinsSpec : ChangeSpec := { name := "logicJoins", fn := fun _ => fun
  | [d1, d2, d3] => { results := [.lit (.bool true)], args := [d1, d2, d3] }
  | _ => none }
def logicJoinsRow : OpenClaim := { program := "ytbnpjmmgnijjlaa", sum := "394cf95f509fde2bdf9ebd166217e367e18412e7264b75504d91a74da13fd662", func := "gannet/gannetlaw22.LogicJoins", spec := "logicJoins", unfollowed := true, recurses := true, apart := false }
def LogicJoinsSaid : Prop := logicJoinsRow.holds Try.pinned (OpenSpec.ofChange logicJoinsSpec)

/-- ITS FALSE NEIGHBOUR: 'it returns false'. Refute it at one input. -/
def logicJoinsWrong : ChangeSpec := { name := "logicJoins", fn := fun _ => fun
  | [d1, d2, d3] => { results := [.lit (.bool false)], args := [d1, d2, d3] }
  | _ => none }
def LogicJoinsWrongFalsely : Prop := logicJoinsRow.holds Try.pinned (OpenSpec.ofChange logicJoinsWrong)

/-- 'gannetlaw22.LogicUndoes': WHATEVER THE INPUT: true; the input reads as it did. -/
def logicUndoesSpec : ChangeSpec := { name := "logicUndoes", fn := fun _ => fun
  | [d1, d2, d3] => { results := [.lit (.bool true)], args := [d1, d2, d3] }
  | _ => none }
def logicUndoesRow : OpenClaim := { program := "ytbnpjmmgnijjlaa", sum := "394cf95f509fde2bdf9ebd166217e367e18412e7264b75504d91a74da13fd662", func := "gannet/gannetlaw22.LogicUndoes", spec := "logicUndoes", unfollowed := true, recurses := true, apart := false }
def LogicUndoesSaid : Prop := logicUndoesRow.holds Try.pinned (OpenSpec.ofChange logicUndoesSpec)

/-- ITS FALSE NEIGHBOUR: 'it returns false'. Refute it at one input. -/
def logicUndoesWrong : ChangeSpec := { name := "logicUndoes", fn := fun _ => fun
  | [d1, d2, d3] => { results := [.lit (.bool false)], args := [d1, d2, d3] }
  | _ => none }
def LogicUndoesWrongFalsely : Prop := logicUndoesRow.holds Try.pinned (OpenSpec.ofChange logicUndoesWrong)

/-- 'gannetlaw22.LogicTurns': WHATEVER THE INPUT: true; the input reads as it did. -/
def logicTurnsSpec : ChangeSpec := { name := "logicTurns", fn := fun _ => fun
  | [d1, d2] => { results := [.lit (.bool true)], args := [d1, d2] }
  | _ => none }
def logicTurnsRow : OpenClaim := { program := "ytbnpjmmgnijjlaa", sum := "394cf95f509fde2bdf9ebd166217e367e18412e7264b75504d91a74da13fd662", func := "gannet/gannetlaw22.LogicTurns", spec := "logicTurns", unfollowed := true, recurses := true, apart := false }
def LogicTurnsSaid : Prop := logicTurnsRow.holds Try.pinned (OpenSpec.ofChange logicTurnsSpec)

/-- ITS FALSE NEIGHBOUR: 'it returns false'. Refute it at one input. -/
def logicTurnsWrong : ChangeSpec := { name := "logicTurns", fn := fun _ => fun
  | [d1, d2] => { results := [.lit (.bool false)], args := [d1, d2] }
  | _ => none }
def LogicTurnsWrongFalsely : Prop := logicTurnsRow.holds Try.pinned (OpenSpec.ofChange logicTurnsWrong)

/- THE SECOND FORM. 'bulk': how many values and letters a reading holds, each counted each time it is reached (what is shared counts as often as it is met; a slice's spare places count too). A statement '..UptoSaid' is the law's where the arguments, and the package variables that the reading takes, are together of bulk at most 1048576: NARROWER than '..Said'. Prove '..Said' where nothing that the law and all that it calls make is longer than what came in: it says more and counts as full. Else prove '..UptoSaid'. A law counts once. -/
mutual
def uptoBulk {H : Type} : DataW H → Nat
  | .lit (.string bytes) => bytes.length + 1
  | .lit _ => 1
  | .nil => 1
  | .ptr d => uptoBulk d + 1
  | .slice elems spare => uptoBulkAll elems + uptoBulkAll spare + 1
  | .agg parts => uptoBulkAll parts + 1
  | .iface _ d => uptoBulk d + 1
  | .map entries => uptoBulkEntries entries + 1
  | .held _ => 1
def uptoBulkAll {H : Type} : List (DataW H) → Nat
  | [] => 0
  | d :: r => uptoBulk d + uptoBulkAll r
def uptoBulkEntries {H : Type} : List (Lit × DataW H) → Nat
  | [] => 0
  | x :: r => uptoBulkEntry x + uptoBulkEntries r
def uptoBulkEntry {H : Type} : Lit × DataW H → Nat
  | (.string bytes, d) => bytes.length + uptoBulk d + 1
  | (_, d) => uptoBulk d + 1
 end
def uptoSmall : (H : Type) → List (DataW H) → Bool := fun _ ds => decide (uptoBulkAll ds ≤ 1048576)
def OpenSpec.upto (s : _root_.Go.ChangeSpec) : _root_.Go.OpenSpec := { _root_.Go.OpenSpec.ofChange s with cond := some uptoSmall }

/-- 'gannetlaw22.LogicJoins', WHERE WHAT IT READS IS OF BULK AT MOST 1048576: true; the input reads as it did. -/
def logicJoinsUptoRow : OpenClaim := { program := "ytbnpjmmgnijjlaa", sum := "394cf95f509fde2bdf9ebd166217e367e18412e7264b75504d91a74da13fd662", func := "gannet/gannetlaw22.LogicJoins", spec := "logicJoins", unfollowed := true, recurses := true, apart := false, narrowed := true }
def LogicJoinsUptoSaid : Prop := logicJoinsUptoRow.holds Try.pinned (OpenSpec.upto logicJoinsSpec)

/-- 'gannetlaw22.LogicUndoes', WHERE WHAT IT READS IS OF BULK AT MOST 1048576: true; the input reads as it did. -/
def logicUndoesUptoRow : OpenClaim := { program := "ytbnpjmmgnijjlaa", sum := "394cf95f509fde2bdf9ebd166217e367e18412e7264b75504d91a74da13fd662", func := "gannet/gannetlaw22.LogicUndoes", spec := "logicUndoes", unfollowed := true, recurses := true, apart := false, narrowed := true }
def LogicUndoesUptoSaid : Prop := logicUndoesUptoRow.holds Try.pinned (OpenSpec.upto logicUndoesSpec)

/-- 'gannetlaw22.LogicTurns', WHERE WHAT IT READS IS OF BULK AT MOST 1048576: true; the input reads as it did. -/
def logicTurnsUptoRow : OpenClaim := { program := "ytbnpjmmgnijjlaa", sum := "394cf95f509fde2bdf9ebd166217e367e18412e7264b75504d91a74da13fd662", func := "gannet/gannetlaw22.LogicTurns", spec := "logicTurns", unfollowed := true, recurses := true, apart := false, narrowed := true }
def LogicTurnsUptoSaid : Prop := logicTurnsUptoRow.holds Try.pinned (OpenSpec.upto logicTurnsSpec)

end Rows
end Go.Proofs.Ytbnpjmmgnijjlaa
