/-
  No cell of these rows narrows 'for every input' (looked for: loops, veiled, ifaces, maps, wideKeys, modest, calm, conditions, laid).
  DERIVED. THE GIVEN ROWS OF THIS SEAT. 3 by the template 'for every input the law returns true; each argument reads behind the call as it read before'; 0 by the template 'total and deterministic' (their statements: YtmolpamgpfifhaaTotals.lean).
  GIVEN WITH THE SEED: the statements are not yours to turn. If you find one false, say at which input.
  Laid BY PROGRAM, IN A SANDBOX (cutbox-rows.mjs): the forced cells as the released guide's own fill.sh prints them over the translation 113b8e35d7520e85… (all of the seat's roots in one cut). By AI agents, Wed Nov 11 2026. No macro, syntax, notation, axiom, sorry.
-/
import Derived.Test.YtmolpamgpfifhaaChecked
import GoSem.Claim
import GoSem.ClaimJoined
import GoSem.ClaimMapViews
import Derived.JoinedTies
import Derived.KernelRfl
namespace Go.Proofs.Ytmolpamgpfifhaa
/- THE CELL 'sum', in the pinned program and in every row, IS THE sha256 OF THE DUMP (.gsa) THAT YtmolpamgpfifhaaProg.lean LOADS. Nothing in Lean hashes anything: it is a label: what it is worth is what the hold of that sum in a sandbox is worth. -/
noncomputable def Try.pinned : Pinned := { name := "ytmolpamgpfifhaa", sum := "113b8e35d7520e853749d42950036ab7279e90a8505cf1ddf95a51932838e4c4", checked := Try.checked }
namespace Rows
def none {H : Type} : Left H := { results := [], args := [] }

/-- 'gannetlaw08.LatchReads': WHATEVER THE INPUT: true; the input reads as it did. -/
def latchReadsSpec : ChangeSpec := { name := "latchReads", fn := fun _ => fun
  | [d1, d2, d3] => { results := [.lit (.bool true)], args := [d1, d2, d3] }
  | _ => none }
def latchReadsRow : OpenClaim := { program := "ytmolpamgpfifhaa", sum := "113b8e35d7520e853749d42950036ab7279e90a8505cf1ddf95a51932838e4c4", func := "gannet/gannetlaw08.LatchReads", spec := "latchReads", apart := false }
def LatchReadsSaid : Prop := latchReadsRow.holds Try.pinned (OpenSpec.ofChange latchReadsSpec)

/-- ITS FALSE NEIGHBOUR: 'it returns false'. Refute it at one input. -/
def latchReadsWrong : ChangeSpec := { name := "latchReads", fn := fun _ => fun
  | [d1, d2, d3] => { results := [.lit (.bool false)], args := [d1, d2, d3] }
  | _ => none }
def LatchReadsWrongFalsely : Prop := latchReadsRow.holds Try.pinned (OpenSpec.ofChange latchReadsWrong)

/-- 'gannetlaw08.LatchRows': WHATEVER THE INPUT: true; the input reads as it did. -/
def latchRowsSpec : ChangeSpec := { name := "latchRows", fn := fun _ => fun
  | [d1, d2] => { results := [.lit (.bool true)], args := [d1, d2] }
  | _ => none }
def latchRowsRow : OpenClaim := { program := "ytmolpamgpfifhaa", sum := "113b8e35d7520e853749d42950036ab7279e90a8505cf1ddf95a51932838e4c4", func := "gannet/gannetlaw08.LatchRows", spec := "latchRows", apart := false }
def LatchRowsSaid : Prop := latchRowsRow.holds Try.pinned (OpenSpec.ofChange latchRowsSpec)

/-- ITS FALSE NEIGHBOUR: 'it returns false'. Refute it at one input. -/
def latchRowsWrong : ChangeSpec := { name := "latchRows", fn := fun _ => fun
  | [d1, d2] => { results := [.lit (.bool false)], args := [d1, d2] }
  | _ => none }
def LatchRowsWrongFalsely : Prop := latchRowsRow.holds Try.pinned (OpenSpec.ofChange latchRowsWrong)

/-- 'gannetlaw08.LatchLast': WHATEVER THE INPUT: true; the input reads as it did. -/
def latchLastSpec : ChangeSpec := { name := "latchLast", fn := fun _ => fun
  | [d1, d2] => { results := [.lit (.bool true)], args := [d1, d2] }
  | _ => none }
def latchLastRow : OpenClaim := { program := "ytmolpamgpfifhaa", sum := "113b8e35d7520e853749d42950036ab7279e90a8505cf1ddf95a51932838e4c4", func := "gannet/gannetlaw08.LatchLast", spec := "latchLast", apart := false }
def LatchLastSaid : Prop := latchLastRow.holds Try.pinned (OpenSpec.ofChange latchLastSpec)

/-- ITS FALSE NEIGHBOUR: 'it returns false'. Refute it at one input. -/
def latchLastWrong : ChangeSpec := { name := "latchLast", fn := fun _ => fun
  | [d1, d2] => { results := [.lit (.bool false)], args := [d1, d2] }
  | _ => none }
def LatchLastWrongFalsely : Prop := latchLastRow.holds Try.pinned (OpenSpec.ofChange latchLastWrong)

/- THE SECOND FORM. 'bulk': how many values and letters a reading holds, each counted each time it is reached (what is shared counts as often as it is met; a slice's spare places count too). A statement '..UptoSaid' is the law's where the arguments, and the package variables that the reading takes, are together of bulk at most 1048576: NARROWER than '..Said'. Prove '..Said' where nothing that the law and all that it calls make is longer than what came in: it says more and counts as full. Else prove '..UptoSaid'. A law counts once. -/
mutual
def uptoBulk {H : Type} : DataW H → Nat
  | .lit (.string bytes) => bytes.length + 1
  | .lit _ => 1
  | .nil => 1
  | .ptr d => uptoBulk d + 1
  | .slice elems spare => uptoBulkAll elems + uptoBulkAll spare + 1
  | .agg parts => uptoBulkAll parts + 1
  | .iface _ d => uptoBulk d + 1
  | .map entries => uptoBulkEntries entries + 1
  | .held _ => 1
def uptoBulkAll {H : Type} : List (DataW H) → Nat
  | [] => 0
  | d :: r => uptoBulk d + uptoBulkAll r
def uptoBulkEntries {H : Type} : List (Lit × DataW H) → Nat
  | [] => 0
  | x :: r => uptoBulkEntry x + uptoBulkEntries r
def uptoBulkEntry {H : Type} : Lit × DataW H → Nat
  | (.string bytes, d) => bytes.length + uptoBulk d + 1
  | (_, d) => uptoBulk d + 1
 end
def uptoSmall : (H : Type) → List (DataW H) → Bool := fun _ ds => decide (uptoBulkAll ds ≤ 1048576)
def OpenSpec.upto (s : _root_.Go.ChangeSpec) : _root_.Go.OpenSpec := { _root_.Go.OpenSpec.ofChange s with cond := some uptoSmall }

/-- 'gannetlaw08.LatchReads', WHERE WHAT IT READS IS OF BULK AT MOST 1048576: true; the input reads as it did. -/
def latchReadsUptoRow : OpenClaim := { program := "ytmolpamgpfifhaa", sum := "113b8e35d7520e853749d42950036ab7279e90a8505cf1ddf95a51932838e4c4", func := "gannet/gannetlaw08.LatchReads", spec := "latchReads", apart := false, narrowed := true }
def LatchReadsUptoSaid : Prop := latchReadsUptoRow.holds Try.pinned (OpenSpec.upto latchReadsSpec)

/-- 'gannetlaw08.LatchRows', WHERE WHAT IT READS IS OF BULK AT MOST 1048576: true; the input reads as it did. -/
def latchRowsUptoRow : OpenClaim := { program := "ytmolpamgpfifhaa", sum := "113b8e35d7520e853749d42950036ab7279e90a8505cf1ddf95a51932838e4c4", func := "gannet/gannetlaw08.LatchRows", spec := "latchRows", apart := false, narrowed := true }
def LatchRowsUptoSaid : Prop := latchRowsUptoRow.holds Try.pinned (OpenSpec.upto latchRowsSpec)

/-- 'gannetlaw08.LatchLast', WHERE WHAT IT READS IS OF BULK AT MOST 1048576: true; the input reads as it did. -/
def latchLastUptoRow : OpenClaim := { program := "ytmolpamgpfifhaa", sum := "113b8e35d7520e853749d42950036ab7279e90a8505cf1ddf95a51932838e4c4", func := "gannet/gannetlaw08.LatchLast", spec := "latchLast", apart := false, narrowed := true }
def LatchLastUptoSaid : Prop := latchLastUptoRow.holds Try.pinned (OpenSpec.upto latchLastSpec)

end Rows
end Go.Proofs.Ytmolpamgpfifhaa
