/-
  No cell of these rows narrows 'for every input' (looked for: loops, veiled, ifaces, maps, wideKeys, modest, calm, conditions, laid).
  DERIVED. THE GIVEN ROWS OF THIS SEAT. 4 by the template 'for every input the law returns true; each argument reads behind the call as it read before'; 0 by the template 'total and deterministic' (their statements: YtdnpfddepnefnaaTotals.lean).
  GIVEN WITH THE SEED: the statements are not yours to turn. If you find one false, say at which input.
  Laid BY PROGRAM, IN A SANDBOX (cutbox-rows.mjs): the forced cells as the released guide's own fill.sh prints them over the translation 446da939e5b60f26… (all of the seat's roots in one cut). By AI agents, Wed Nov 11 2026. No macro, syntax, notation, axiom, sorry.
-/
import Derived.Test.YtdnpfddepnefnaaChecked
import GoSem.Claim
import GoSem.ClaimJoined
import GoSem.ClaimMapViews
import Derived.JoinedTies
import Derived.KernelRfl
namespace Go.Proofs.Ytdnpfddepnefnaa
/- THE CELL 'sum', in the pinned program and in every row, IS THE sha256 OF THE DUMP (.gsa) THAT YtdnpfddepnefnaaProg.lean LOADS. Nothing in Lean hashes anything: it is a label: what it is worth is what the hold of that sum in a sandbox is worth. -/
noncomputable def Try.pinned : Pinned := { name := "ytdnpfddepnefnaa", sum := "446da939e5b60f26b9603208d3fb15e3a988fa5ec0c375ff2b4e2bc90d5064bf", checked := Try.checked }
namespace Rows
def none {H : Type} : Left H := { results := [], args := [] }

/-- 'gannetlaw07.LinesCheck': WHATEVER THE INPUT: true; the input reads as it did. -/
def linesCheckSpec : ChangeSpec := { name := "linesCheck", fn := fun _ => fun
  | [d] => { results := [.lit (.bool true)], args := [d] }
  | _ => none }
def linesCheckRow : OpenClaim := { program := "ytdnpfddepnefnaa", sum := "446da939e5b60f26b9603208d3fb15e3a988fa5ec0c375ff2b4e2bc90d5064bf", func := "gannet/gannetlaw07.LinesCheck", spec := "linesCheck", apart := false }
def LinesCheckSaid : Prop := linesCheckRow.holds Try.pinned (OpenSpec.ofChange linesCheckSpec)

/-- ITS FALSE NEIGHBOUR: 'it returns false'. Refute it at one input. -/
def linesCheckWrong : ChangeSpec := { name := "linesCheck", fn := fun _ => fun
  | [d] => { results := [.lit (.bool false)], args := [d] }
  | _ => none }
def LinesCheckWrongFalsely : Prop := linesCheckRow.holds Try.pinned (OpenSpec.ofChange linesCheckWrong)

/-- 'gannetlaw07.LinesAt': WHATEVER THE INPUT: true; the input reads as it did. -/
def linesAtSpec : ChangeSpec := { name := "linesAt", fn := fun _ => fun
  | [d1, d2, d3] => { results := [.lit (.bool true)], args := [d1, d2, d3] }
  | _ => none }
def linesAtRow : OpenClaim := { program := "ytdnpfddepnefnaa", sum := "446da939e5b60f26b9603208d3fb15e3a988fa5ec0c375ff2b4e2bc90d5064bf", func := "gannet/gannetlaw07.LinesAt", spec := "linesAt", apart := false }
def LinesAtSaid : Prop := linesAtRow.holds Try.pinned (OpenSpec.ofChange linesAtSpec)

/-- ITS FALSE NEIGHBOUR: 'it returns false'. Refute it at one input. -/
def linesAtWrong : ChangeSpec := { name := "linesAt", fn := fun _ => fun
  | [d1, d2, d3] => { results := [.lit (.bool false)], args := [d1, d2, d3] }
  | _ => none }
def LinesAtWrongFalsely : Prop := linesAtRow.holds Try.pinned (OpenSpec.ofChange linesAtWrong)

/-- 'gannetlaw07.LinesGo': WHATEVER THE INPUT: true; the input reads as it did. -/
def linesGoSpec : ChangeSpec := { name := "linesGo", fn := fun _ => fun
  | [d1, d2, d3] => { results := [.lit (.bool true)], args := [d1, d2, d3] }
  | _ => none }
def linesGoRow : OpenClaim := { program := "ytdnpfddepnefnaa", sum := "446da939e5b60f26b9603208d3fb15e3a988fa5ec0c375ff2b4e2bc90d5064bf", func := "gannet/gannetlaw07.LinesGo", spec := "linesGo", apart := false }
def LinesGoSaid : Prop := linesGoRow.holds Try.pinned (OpenSpec.ofChange linesGoSpec)

/-- ITS FALSE NEIGHBOUR: 'it returns false'. Refute it at one input. -/
def linesGoWrong : ChangeSpec := { name := "linesGo", fn := fun _ => fun
  | [d1, d2, d3] => { results := [.lit (.bool false)], args := [d1, d2, d3] }
  | _ => none }
def LinesGoWrongFalsely : Prop := linesGoRow.holds Try.pinned (OpenSpec.ofChange linesGoWrong)

/-- 'gannetlaw07.LinesStand': WHATEVER THE INPUT: true; the input reads as it did. -/
def linesStandSpec : ChangeSpec := { name := "linesStand", fn := fun _ => fun
  | [d1, d2, d3] => { results := [.lit (.bool true)], args := [d1, d2, d3] }
  | _ => none }
def linesStandRow : OpenClaim := { program := "ytdnpfddepnefnaa", sum := "446da939e5b60f26b9603208d3fb15e3a988fa5ec0c375ff2b4e2bc90d5064bf", func := "gannet/gannetlaw07.LinesStand", spec := "linesStand", apart := false }
def LinesStandSaid : Prop := linesStandRow.holds Try.pinned (OpenSpec.ofChange linesStandSpec)

/-- ITS FALSE NEIGHBOUR: 'it returns false'. Refute it at one input. -/
def linesStandWrong : ChangeSpec := { name := "linesStand", fn := fun _ => fun
  | [d1, d2, d3] => { results := [.lit (.bool false)], args := [d1, d2, d3] }
  | _ => none }
def LinesStandWrongFalsely : Prop := linesStandRow.holds Try.pinned (OpenSpec.ofChange linesStandWrong)

/- THE SECOND FORM. 'bulk': how many values and letters a reading holds, each counted each time it is reached (what is shared counts as often as it is met; a slice's spare places count too). A statement '..UptoSaid' is the law's where the arguments, and the package variables that the reading takes, are together of bulk at most 1048576: NARROWER than '..Said'. Prove '..Said' where nothing that the law and all that it calls make is longer than what came in: it says more and counts as full. Else prove '..UptoSaid'. A law counts once. -/
mutual
def uptoBulk {H : Type} : DataW H → Nat
  | .lit (.string bytes) => bytes.length + 1
  | .lit _ => 1
  | .nil => 1
  | .ptr d => uptoBulk d + 1
  | .slice elems spare => uptoBulkAll elems + uptoBulkAll spare + 1
  | .agg parts => uptoBulkAll parts + 1
  | .iface _ d => uptoBulk d + 1
  | .map entries => uptoBulkEntries entries + 1
  | .held _ => 1
def uptoBulkAll {H : Type} : List (DataW H) → Nat
  | [] => 0
  | d :: r => uptoBulk d + uptoBulkAll r
def uptoBulkEntries {H : Type} : List (Lit × DataW H) → Nat
  | [] => 0
  | x :: r => uptoBulkEntry x + uptoBulkEntries r
def uptoBulkEntry {H : Type} : Lit × DataW H → Nat
  | (.string bytes, d) => bytes.length + uptoBulk d + 1
  | (_, d) => uptoBulk d + 1
 end
def uptoSmall : (H : Type) → List (DataW H) → Bool := fun _ ds => decide (uptoBulkAll ds ≤ 1048576)
def OpenSpec.upto (s : _root_.Go.ChangeSpec) : _root_.Go.OpenSpec := { _root_.Go.OpenSpec.ofChange s with cond := some uptoSmall }

/-- 'gannetlaw07.LinesCheck', WHERE WHAT IT READS IS OF BULK AT MOST 1048576: true; the input reads as it did. -/
def linesCheckUptoRow : OpenClaim := { program := "ytdnpfddepnefnaa", sum := "446da939e5b60f26b9603208d3fb15e3a988fa5ec0c375ff2b4e2bc90d5064bf", func := "gannet/gannetlaw07.LinesCheck", spec := "linesCheck", apart := false, narrowed := true }
def LinesCheckUptoSaid : Prop := linesCheckUptoRow.holds Try.pinned (OpenSpec.upto linesCheckSpec)

/-- 'gannetlaw07.LinesAt', WHERE WHAT IT READS IS OF BULK AT MOST 1048576: true; the input reads as it did. -/
def linesAtUptoRow : OpenClaim := { program := "ytdnpfddepnefnaa", sum := "446da939e5b60f26b9603208d3fb15e3a988fa5ec0c375ff2b4e2bc90d5064bf", func := "gannet/gannetlaw07.LinesAt", spec := "linesAt", apart := false, narrowed := true }
def LinesAtUptoSaid : Prop := linesAtUptoRow.holds Try.pinned (OpenSpec.upto linesAtSpec)

/-- 'gannetlaw07.LinesGo', WHERE WHAT IT READS IS OF BULK AT MOST 1048576: true; the input reads as it did. -/
def linesGoUptoRow : OpenClaim := { program := "ytdnpfddepnefnaa", sum := "446da939e5b60f26b9603208d3fb15e3a988fa5ec0c375ff2b4e2bc90d5064bf", func := "gannet/gannetlaw07.LinesGo", spec := "linesGo", apart := false, narrowed := true }
def LinesGoUptoSaid : Prop := linesGoUptoRow.holds Try.pinned (OpenSpec.upto linesGoSpec)

/-- 'gannetlaw07.LinesStand', WHERE WHAT IT READS IS OF BULK AT MOST 1048576: true; the input reads as it did. -/
def linesStandUptoRow : OpenClaim := { program := "ytdnpfddepnefnaa", sum := "446da939e5b60f26b9603208d3fb15e3a988fa5ec0c375ff2b4e2bc90d5064bf", func := "gannet/gannetlaw07.LinesStand", spec := "linesStand", apart := false, narrowed := true }
def LinesStandUptoSaid : Prop := linesStandUptoRow.holds Try.pinned (OpenSpec.upto linesStandSpec)

end Rows
end Go.Proofs.Ytdnpfddepnefnaa
