/-
  No cell of these rows narrows 'for every input' (looked for: loops, veiled, ifaces, maps, wideKeys, modest, calm, conditions, laid).
  DERIVED. THE GIVEN ROWS OF THIS SEAT. 4 by the template 'for every input the law returns true; each argument reads behind the call as it read before'; 0 by the template 'total and deterministic' (their statements: YtafabjmeeccifaaTotals.lean).
  GIVEN WITH THE SEED: the statements are not yours to turn. If you find one false, say at which input.
  Laid BY PROGRAM, IN A SANDBOX (cutbox-rows.mjs): the forced cells as the released guide's own fill.sh prints them over the translation 9f57cf03b3590a2c… (all of the seat's roots in one cut). By AI agents, Wed Nov 11 2026. No macro, syntax, notation, axiom, sorry.
-/
import Derived.Test.YtafabjmeeccifaaChecked
import GoSem.Claim
import GoSem.ClaimJoined
import GoSem.ClaimMapViews
import Derived.JoinedTies
import Derived.KernelRfl
namespace Go.Proofs.Ytafabjmeeccifaa
/- THE CELL 'sum', in the pinned program and in every row, IS THE sha256 OF THE DUMP (.gsa) THAT YtafabjmeeccifaaProg.lean LOADS. Nothing in Lean hashes anything: it is a label: what it is worth is what the hold of that sum in a sandbox is worth. -/
noncomputable def Try.pinned : Pinned := { name := "ytafabjmeeccifaa", sum := "9f57cf03b3590a2cfcff1d9b1f7e9a5622f77a9d1b9ec0bff4c9fa9b58d3bc9f", checked := Try.checked }
namespace Rows
def none {H : Type} : Left H := { results := [], args := [] }

/-- 'gannetlaw04.CartMakes': WHATEVER THE INPUT: true; the input reads as it did. -/
def cartMakesSpec : ChangeSpec := { name := "cartMakes", fn := fun _ => fun
  | [d1, d2] => { results := [.lit (.bool true)], args := [d1, d2] }
  | _ => none }
def cartMakesRow : OpenClaim := { program := "ytafabjmeeccifaa", sum := "9f57cf03b3590a2cfcff1d9b1f7e9a5622f77a9d1b9ec0bff4c9fa9b58d3bc9f", func := "gannet/gannetlaw04.CartMakes", spec := "cartMakes", apart := false }
def CartMakesSaid : Prop := cartMakesRow.holds Try.pinned (OpenSpec.ofChange cartMakesSpec)

/-- ITS FALSE NEIGHBOUR: 'it returns false'. Refute it at one input. -/
def cartMakesWrong : ChangeSpec := { name := "cartMakes", fn := fun _ => fun
  | [d1, d2] => { results := [.lit (.bool false)], args := [d1, d2] }
  | _ => none }
def CartMakesWrongFalsely : Prop := cartMakesRow.holds Try.pinned (OpenSpec.ofChange cartMakesWrong)

/-- 'gannetlaw04.CartPieces': WHATEVER THE INPUT: true; the input reads as it did. -/
def cartPiecesSpec : ChangeSpec := { name := "cartPieces", fn := fun _ => fun
  | [d] => { results := [.lit (.bool true)], args := [d] }
  | _ => none }
def cartPiecesRow : OpenClaim := { program := "ytafabjmeeccifaa", sum := "9f57cf03b3590a2cfcff1d9b1f7e9a5622f77a9d1b9ec0bff4c9fa9b58d3bc9f", func := "gannet/gannetlaw04.CartPieces", spec := "cartPieces", apart := false }
def CartPiecesSaid : Prop := cartPiecesRow.holds Try.pinned (OpenSpec.ofChange cartPiecesSpec)

/-- ITS FALSE NEIGHBOUR: 'it returns false'. Refute it at one input. -/
def cartPiecesWrong : ChangeSpec := { name := "cartPieces", fn := fun _ => fun
  | [d] => { results := [.lit (.bool false)], args := [d] }
  | _ => none }
def CartPiecesWrongFalsely : Prop := cartPiecesRow.holds Try.pinned (OpenSpec.ofChange cartPiecesWrong)

/-- 'gannetlaw04.CartPrograms': WHATEVER THE INPUT: true; the input reads as it did. -/
def cartProgramsSpec : ChangeSpec := { name := "cartPrograms", fn := fun _ => fun
  | [d1, d2, d3] => { results := [.lit (.bool true)], args := [d1, d2, d3] }
  | _ => none }
def cartProgramsRow : OpenClaim := { program := "ytafabjmeeccifaa", sum := "9f57cf03b3590a2cfcff1d9b1f7e9a5622f77a9d1b9ec0bff4c9fa9b58d3bc9f", func := "gannet/gannetlaw04.CartPrograms", spec := "cartPrograms", apart := false }
def CartProgramsSaid : Prop := cartProgramsRow.holds Try.pinned (OpenSpec.ofChange cartProgramsSpec)

/-- ITS FALSE NEIGHBOUR: 'it returns false'. Refute it at one input. -/
def cartProgramsWrong : ChangeSpec := { name := "cartPrograms", fn := fun _ => fun
  | [d1, d2, d3] => { results := [.lit (.bool false)], args := [d1, d2, d3] }
  | _ => none }
def CartProgramsWrongFalsely : Prop := cartProgramsRow.holds Try.pinned (OpenSpec.ofChange cartProgramsWrong)

/-- 'gannetlaw04.CartOver': WHATEVER THE INPUT: true; the input reads as it did. -/
def cartOverSpec : ChangeSpec := { name := "cartOver", fn := fun _ => fun
  | [d1, d2] => { results := [.lit (.bool true)], args := [d1, d2] }
  | _ => none }
def cartOverRow : OpenClaim := { program := "ytafabjmeeccifaa", sum := "9f57cf03b3590a2cfcff1d9b1f7e9a5622f77a9d1b9ec0bff4c9fa9b58d3bc9f", func := "gannet/gannetlaw04.CartOver", spec := "cartOver", apart := false }
def CartOverSaid : Prop := cartOverRow.holds Try.pinned (OpenSpec.ofChange cartOverSpec)

/-- ITS FALSE NEIGHBOUR: 'it returns false'. Refute it at one input. -/
def cartOverWrong : ChangeSpec := { name := "cartOver", fn := fun _ => fun
  | [d1, d2] => { results := [.lit (.bool false)], args := [d1, d2] }
  | _ => none }
def CartOverWrongFalsely : Prop := cartOverRow.holds Try.pinned (OpenSpec.ofChange cartOverWrong)

/- THE SECOND FORM. 'bulk': how many values and letters a reading holds, each counted each time it is reached (what is shared counts as often as it is met; a slice's spare places count too). A statement '..UptoSaid' is the law's where the arguments, and the package variables that the reading takes, are together of bulk at most 1048576: NARROWER than '..Said'. Prove '..Said' where nothing that the law and all that it calls make is longer than what came in: it says more and counts as full. Else prove '..UptoSaid'. A law counts once. -/
mutual
def uptoBulk {H : Type} : DataW H → Nat
  | .lit (.string bytes) => bytes.length + 1
  | .lit _ => 1
  | .nil => 1
  | .ptr d => uptoBulk d + 1
  | .slice elems spare => uptoBulkAll elems + uptoBulkAll spare + 1
  | .agg parts => uptoBulkAll parts + 1
  | .iface _ d => uptoBulk d + 1
  | .map entries => uptoBulkEntries entries + 1
  | .held _ => 1
def uptoBulkAll {H : Type} : List (DataW H) → Nat
  | [] => 0
  | d :: r => uptoBulk d + uptoBulkAll r
def uptoBulkEntries {H : Type} : List (Lit × DataW H) → Nat
  | [] => 0
  | x :: r => uptoBulkEntry x + uptoBulkEntries r
def uptoBulkEntry {H : Type} : Lit × DataW H → Nat
  | (.string bytes, d) => bytes.length + uptoBulk d + 1
  | (_, d) => uptoBulk d + 1
 end
def uptoSmall : (H : Type) → List (DataW H) → Bool := fun _ ds => decide (uptoBulkAll ds ≤ 1048576)
def OpenSpec.upto (s : _root_.Go.ChangeSpec) : _root_.Go.OpenSpec := { _root_.Go.OpenSpec.ofChange s with cond := some uptoSmall }

/-- 'gannetlaw04.CartMakes', WHERE WHAT IT READS IS OF BULK AT MOST 1048576: true; the input reads as it did. -/
def cartMakesUptoRow : OpenClaim := { program := "ytafabjmeeccifaa", sum := "9f57cf03b3590a2cfcff1d9b1f7e9a5622f77a9d1b9ec0bff4c9fa9b58d3bc9f", func := "gannet/gannetlaw04.CartMakes", spec := "cartMakes", apart := false, narrowed := true }
def CartMakesUptoSaid : Prop := cartMakesUptoRow.holds Try.pinned (OpenSpec.upto cartMakesSpec)

/-- 'gannetlaw04.CartPieces', WHERE WHAT IT READS IS OF BULK AT MOST 1048576: true; the input reads as it did. -/
def cartPiecesUptoRow : OpenClaim := { program := "ytafabjmeeccifaa", sum := "9f57cf03b3590a2cfcff1d9b1f7e9a5622f77a9d1b9ec0bff4c9fa9b58d3bc9f", func := "gannet/gannetlaw04.CartPieces", spec := "cartPieces", apart := false, narrowed := true }
def CartPiecesUptoSaid : Prop := cartPiecesUptoRow.holds Try.pinned (OpenSpec.upto cartPiecesSpec)

/-- 'gannetlaw04.CartPrograms', WHERE WHAT IT READS IS OF BULK AT MOST 1048576: true; the input reads as it did. -/
def cartProgramsUptoRow : OpenClaim := { program := "ytafabjmeeccifaa", sum := "9f57cf03b3590a2cfcff1d9b1f7e9a5622f77a9d1b9ec0bff4c9fa9b58d3bc9f", func := "gannet/gannetlaw04.CartPrograms", spec := "cartPrograms", apart := false, narrowed := true }
def CartProgramsUptoSaid : Prop := cartProgramsUptoRow.holds Try.pinned (OpenSpec.upto cartProgramsSpec)

/-- 'gannetlaw04.CartOver', WHERE WHAT IT READS IS OF BULK AT MOST 1048576: true; the input reads as it did. -/
def cartOverUptoRow : OpenClaim := { program := "ytafabjmeeccifaa", sum := "9f57cf03b3590a2cfcff1d9b1f7e9a5622f77a9d1b9ec0bff4c9fa9b58d3bc9f", func := "gannet/gannetlaw04.CartOver", spec := "cartOver", apart := false, narrowed := true }
def CartOverUptoSaid : Prop := cartOverUptoRow.holds Try.pinned (OpenSpec.upto cartOverSpec)

end Rows
end Go.Proofs.Ytafabjmeeccifaa
