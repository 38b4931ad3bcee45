/-
  No cell of these rows narrows 'for every input' (looked for: loops, veiled, ifaces, maps, wideKeys, modest, calm, conditions, laid).
  DERIVED. THE GIVEN ROWS OF THIS SEAT. 4 by the template 'for every input the law returns true; each argument reads behind the call as it read before'; 0 by the template 'total and deterministic' (their statements: YtifmlphfegppjaaTotals.lean).
  GIVEN WITH THE SEED: the statements are not yours to turn. If you find one false, say at which input.
  Laid BY PROGRAM, IN A SANDBOX (cutbox-rows.mjs): the forced cells as the released guide's own fill.sh prints them over the translation 5a5ad2438b137d41… (all of the seat's roots in one cut). By AI agents, Wed Nov 11 2026. No macro, syntax, notation, axiom, sorry.
-/
import Derived.Test.YtifmlphfegppjaaChecked
import GoSem.Claim
import GoSem.ClaimJoined
import GoSem.ClaimMapViews
import Derived.JoinedTies
import Derived.KernelRfl
namespace Go.Proofs.Ytifmlphfegppjaa
/- THE CELL 'sum', in the pinned program and in every row, IS THE sha256 OF THE DUMP (.gsa) THAT YtifmlphfegppjaaProg.lean LOADS. Nothing in Lean hashes anything: it is a label: what it is worth is what the hold of that sum in a sandbox is worth. -/
noncomputable def Try.pinned : Pinned := { name := "ytifmlphfegppjaa", sum := "5a5ad2438b137d4128d9528910161a5bbe1e79b7621ce234dae80fdab16488dc", checked := Try.checked }
namespace Rows
def none {H : Type} : Left H := { results := [], args := [] }

/-- 'gannetlaw26.MovesApply': WHATEVER THE INPUT: true; the input reads as it did. -/
def movesApplySpec : ChangeSpec := { name := "movesApply", fn := fun _ => fun
  | [d1, d2, d3, d4, d5] => { results := [.lit (.bool true)], args := [d1, d2, d3, d4, d5] }
  | _ => none }
def movesApplyRow : OpenClaim := { program := "ytifmlphfegppjaa", sum := "5a5ad2438b137d4128d9528910161a5bbe1e79b7621ce234dae80fdab16488dc", func := "gannet/gannetlaw26.MovesApply", spec := "movesApply", unfollowed := true, recurses := true, apart := false }
def MovesApplySaid : Prop := movesApplyRow.holds Try.pinned (OpenSpec.ofChange movesApplySpec)

/-- ITS FALSE NEIGHBOUR: 'it returns false'. Refute it at one input. -/
def movesApplyWrong : ChangeSpec := { name := "movesApply", fn := fun _ => fun
  | [d1, d2, d3, d4, d5] => { results := [.lit (.bool false)], args := [d1, d2, d3, d4, d5] }
  | _ => none }
def MovesApplyWrongFalsely : Prop := movesApplyRow.holds Try.pinned (OpenSpec.ofChange movesApplyWrong)

/-- 'gannetlaw26.MovesCopies': WHATEVER THE INPUT: true; the input reads as it did. -/
def movesCopiesSpec : ChangeSpec := { name := "movesCopies", fn := fun _ => fun
  | [d1, d2, d3, d4, d5] => { results := [.lit (.bool true)], args := [d1, d2, d3, d4, d5] }
  | _ => none }
def movesCopiesRow : OpenClaim := { program := "ytifmlphfegppjaa", sum := "5a5ad2438b137d4128d9528910161a5bbe1e79b7621ce234dae80fdab16488dc", func := "gannet/gannetlaw26.MovesCopies", spec := "movesCopies", unfollowed := true, recurses := true, apart := false }
def MovesCopiesSaid : Prop := movesCopiesRow.holds Try.pinned (OpenSpec.ofChange movesCopiesSpec)

/-- ITS FALSE NEIGHBOUR: 'it returns false'. Refute it at one input. -/
def movesCopiesWrong : ChangeSpec := { name := "movesCopies", fn := fun _ => fun
  | [d1, d2, d3, d4, d5] => { results := [.lit (.bool false)], args := [d1, d2, d3, d4, d5] }
  | _ => none }
def MovesCopiesWrongFalsely : Prop := movesCopiesRow.holds Try.pinned (OpenSpec.ofChange movesCopiesWrong)

/-- 'gannetlaw26.MovesWays': WHATEVER THE INPUT: true; the input reads as it did. -/
def movesWaysSpec : ChangeSpec := { name := "movesWays", fn := fun _ => fun
  | [d1, d2, d3, d4, d5] => { results := [.lit (.bool true)], args := [d1, d2, d3, d4, d5] }
  | _ => none }
def movesWaysRow : OpenClaim := { program := "ytifmlphfegppjaa", sum := "5a5ad2438b137d4128d9528910161a5bbe1e79b7621ce234dae80fdab16488dc", func := "gannet/gannetlaw26.MovesWays", spec := "movesWays", unfollowed := true, recurses := true, apart := false }
def MovesWaysSaid : Prop := movesWaysRow.holds Try.pinned (OpenSpec.ofChange movesWaysSpec)

/-- ITS FALSE NEIGHBOUR: 'it returns false'. Refute it at one input. -/
def movesWaysWrong : ChangeSpec := { name := "movesWays", fn := fun _ => fun
  | [d1, d2, d3, d4, d5] => { results := [.lit (.bool false)], args := [d1, d2, d3, d4, d5] }
  | _ => none }
def MovesWaysWrongFalsely : Prop := movesWaysRow.holds Try.pinned (OpenSpec.ofChange movesWaysWrong)

/-- 'gannetlaw26.MovesParts': WHATEVER THE INPUT: true; the input reads as it did. -/
def movesPartsSpec : ChangeSpec := { name := "movesParts", fn := fun _ => fun
  | [d1, d2, d3, d4, d5, d6] => { results := [.lit (.bool true)], args := [d1, d2, d3, d4, d5, d6] }
  | _ => none }
def movesPartsRow : OpenClaim := { program := "ytifmlphfegppjaa", sum := "5a5ad2438b137d4128d9528910161a5bbe1e79b7621ce234dae80fdab16488dc", func := "gannet/gannetlaw26.MovesParts", spec := "movesParts", unfollowed := true, recurses := true, apart := false }
def MovesPartsSaid : Prop := movesPartsRow.holds Try.pinned (OpenSpec.ofChange movesPartsSpec)

/-- ITS FALSE NEIGHBOUR: 'it returns false'. Refute it at one input. -/
def movesPartsWrong : ChangeSpec := { name := "movesParts", fn := fun _ => fun
  | [d1, d2, d3, d4, d5, d6] => { results := [.lit (.bool false)], args := [d1, d2, d3, d4, d5, d6] }
  | _ => none }
def MovesPartsWrongFalsely : Prop := movesPartsRow.holds Try.pinned (OpenSpec.ofChange movesPartsWrong)

/- THE SECOND FORM. 'bulk': how many values and letters a reading holds, each counted each time it is reached (what is shared counts as often as it is met; a slice's spare places count too). A statement '..UptoSaid' is the law's where the arguments, and the package variables that the reading takes, are together of bulk at most 1048576: NARROWER than '..Said'. Prove '..Said' where nothing that the law and all that it calls make is longer than what came in: it says more and counts as full. Else prove '..UptoSaid'. A law counts once. -/
mutual
def uptoBulk {H : Type} : DataW H → Nat
  | .lit (.string bytes) => bytes.length + 1
  | .lit _ => 1
  | .nil => 1
  | .ptr d => uptoBulk d + 1
  | .slice elems spare => uptoBulkAll elems + uptoBulkAll spare + 1
  | .agg parts => uptoBulkAll parts + 1
  | .iface _ d => uptoBulk d + 1
  | .map entries => uptoBulkEntries entries + 1
  | .held _ => 1
def uptoBulkAll {H : Type} : List (DataW H) → Nat
  | [] => 0
  | d :: r => uptoBulk d + uptoBulkAll r
def uptoBulkEntries {H : Type} : List (Lit × DataW H) → Nat
  | [] => 0
  | x :: r => uptoBulkEntry x + uptoBulkEntries r
def uptoBulkEntry {H : Type} : Lit × DataW H → Nat
  | (.string bytes, d) => bytes.length + uptoBulk d + 1
  | (_, d) => uptoBulk d + 1
 end
def uptoSmall : (H : Type) → List (DataW H) → Bool := fun _ ds => decide (uptoBulkAll ds ≤ 1048576)
def OpenSpec.upto (s : _root_.Go.ChangeSpec) : _root_.Go.OpenSpec := { _root_.Go.OpenSpec.ofChange s with cond := some uptoSmall }

/-- 'gannetlaw26.MovesApply', WHERE WHAT IT READS IS OF BULK AT MOST 1048576: true; the input reads as it did. -/
def movesApplyUptoRow : OpenClaim := { program := "ytifmlphfegppjaa", sum := "5a5ad2438b137d4128d9528910161a5bbe1e79b7621ce234dae80fdab16488dc", func := "gannet/gannetlaw26.MovesApply", spec := "movesApply", unfollowed := true, recurses := true, apart := false, narrowed := true }
def MovesApplyUptoSaid : Prop := movesApplyUptoRow.holds Try.pinned (OpenSpec.upto movesApplySpec)

/-- 'gannetlaw26.MovesCopies', WHERE WHAT IT READS IS OF BULK AT MOST 1048576: true; the input reads as it did. -/
def movesCopiesUptoRow : OpenClaim := { program := "ytifmlphfegppjaa", sum := "5a5ad2438b137d4128d9528910161a5bbe1e79b7621ce234dae80fdab16488dc", func := "gannet/gannetlaw26.MovesCopies", spec := "movesCopies", unfollowed := true, recurses := true, apart := false, narrowed := true }
def MovesCopiesUptoSaid : Prop := movesCopiesUptoRow.holds Try.pinned (OpenSpec.upto movesCopiesSpec)

/-- 'gannetlaw26.MovesWays', WHERE WHAT IT READS IS OF BULK AT MOST 1048576: true; the input reads as it did. -/
def movesWaysUptoRow : OpenClaim := { program := "ytifmlphfegppjaa", sum := "5a5ad2438b137d4128d9528910161a5bbe1e79b7621ce234dae80fdab16488dc", func := "gannet/gannetlaw26.MovesWays", spec := "movesWays", unfollowed := true, recurses := true, apart := false, narrowed := true }
def MovesWaysUptoSaid : Prop := movesWaysUptoRow.holds Try.pinned (OpenSpec.upto movesWaysSpec)

/-- 'gannetlaw26.MovesParts', WHERE WHAT IT READS IS OF BULK AT MOST 1048576: true; the input reads as it did. -/
def movesPartsUptoRow : OpenClaim := { program := "ytifmlphfegppjaa", sum := "5a5ad2438b137d4128d9528910161a5bbe1e79b7621ce234dae80fdab16488dc", func := "gannet/gannetlaw26.MovesParts", spec := "movesParts", unfollowed := true, recurses := true, apart := false, narrowed := true }
def MovesPartsUptoSaid : Prop := movesPartsUptoRow.holds Try.pinned (OpenSpec.upto movesPartsSpec)

end Rows
end Go.Proofs.Ytifmlphfegppjaa
