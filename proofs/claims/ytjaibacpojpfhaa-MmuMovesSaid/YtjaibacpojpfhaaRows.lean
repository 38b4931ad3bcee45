/-
  No cell of these rows narrows 'for every input' (looked for: loops, veiled, ifaces, maps, wideKeys, modest, calm, conditions, laid).
  DERIVED. THE GIVEN ROWS OF THIS SEAT. 4 by the template 'for every input the law returns true; each argument reads behind the call as it read before'; 0 by the template 'total and deterministic' (their statements: YtjaibacpojpfhaaTotals.lean).
  GIVEN WITH THE SEED: the statements are not yours to turn. If you find one false, say at which input.
  Laid BY PROGRAM, IN A SANDBOX (cutbox-rows.mjs): the forced cells as the released guide's own fill.sh prints them over the translation b00c6fd4b4ab975b… (all of the seat's roots in one cut). By AI agents, Wed Nov 11 2026. No macro, syntax, notation, axiom, sorry.
-/
import Derived.Test.YtjaibacpojpfhaaChecked
import GoSem.Claim
import GoSem.ClaimJoined
import GoSem.ClaimMapViews
import Derived.JoinedTies
import Derived.KernelRfl
namespace Go.Proofs.Ytjaibacpojpfhaa
/- THE CELL 'sum', in the pinned program and in every row, IS THE sha256 OF THE DUMP (.gsa) THAT YtjaibacpojpfhaaProg.lean LOADS. Nothing in Lean hashes anything: it is a label: what it is worth is what the hold of that sum in a sandbox is worth. -/
noncomputable def Try.pinned : Pinned := { name := "ytjaibacpojpfhaa", sum := "b00c6fd4b4ab975bc2a8be4f950c389cc11558df7f85714138ebea8e86655834", checked := Try.checked }
namespace Rows
def none {H : Type} : Left H := { results := [], args := [] }

/-- 'gannetlaw18.MmuMoves': WHATEVER THE INPUT: true; the input reads as it did. -/
def mmuMovesSpec : ChangeSpec := { name := "mmuMoves", fn := fun _ => fun
  | [d1, d2, d3, d4] => { results := [.lit (.bool true)], args := [d1, d2, d3, d4] }
  | _ => none }
def mmuMovesRow : OpenClaim := { program := "ytjaibacpojpfhaa", sum := "b00c6fd4b4ab975bc2a8be4f950c389cc11558df7f85714138ebea8e86655834", func := "gannet/gannetlaw18.MmuMoves", spec := "mmuMoves", unfollowed := true, recurses := true, apart := false }
def MmuMovesSaid : Prop := mmuMovesRow.holds Try.pinned (OpenSpec.ofChange mmuMovesSpec)

/-- ITS FALSE NEIGHBOUR: 'it returns false'. Refute it at one input. -/
def mmuMovesWrong : ChangeSpec := { name := "mmuMoves", fn := fun _ => fun
  | [d1, d2, d3, d4] => { results := [.lit (.bool false)], args := [d1, d2, d3, d4] }
  | _ => none }
def MmuMovesWrongFalsely : Prop := mmuMovesRow.holds Try.pinned (OpenSpec.ofChange mmuMovesWrong)

/-- 'gannetlaw18.MmuMaps': WHATEVER THE INPUT: true; the input reads as it did. -/
def mmuMapsSpec : ChangeSpec := { name := "mmuMaps", fn := fun _ => fun
  | [d1, d2, d3] => { results := [.lit (.bool true)], args := [d1, d2, d3] }
  | _ => none }
def mmuMapsRow : OpenClaim := { program := "ytjaibacpojpfhaa", sum := "b00c6fd4b4ab975bc2a8be4f950c389cc11558df7f85714138ebea8e86655834", func := "gannet/gannetlaw18.MmuMaps", spec := "mmuMaps", unfollowed := true, recurses := true, apart := false }
def MmuMapsSaid : Prop := mmuMapsRow.holds Try.pinned (OpenSpec.ofChange mmuMapsSpec)

/-- ITS FALSE NEIGHBOUR: 'it returns false'. Refute it at one input. -/
def mmuMapsWrong : ChangeSpec := { name := "mmuMaps", fn := fun _ => fun
  | [d1, d2, d3] => { results := [.lit (.bool false)], args := [d1, d2, d3] }
  | _ => none }
def MmuMapsWrongFalsely : Prop := mmuMapsRow.holds Try.pinned (OpenSpec.ofChange mmuMapsWrong)

/-- 'gannetlaw18.MmuBack': WHATEVER THE INPUT: true; the input reads as it did. -/
def mmuBackSpec : ChangeSpec := { name := "mmuBack", fn := fun _ => fun
  | [d1, d2, d3] => { results := [.lit (.bool true)], args := [d1, d2, d3] }
  | _ => none }
def mmuBackRow : OpenClaim := { program := "ytjaibacpojpfhaa", sum := "b00c6fd4b4ab975bc2a8be4f950c389cc11558df7f85714138ebea8e86655834", func := "gannet/gannetlaw18.MmuBack", spec := "mmuBack", unfollowed := true, recurses := true, apart := false }
def MmuBackSaid : Prop := mmuBackRow.holds Try.pinned (OpenSpec.ofChange mmuBackSpec)

/-- ITS FALSE NEIGHBOUR: 'it returns false'. Refute it at one input. -/
def mmuBackWrong : ChangeSpec := { name := "mmuBack", fn := fun _ => fun
  | [d1, d2, d3] => { results := [.lit (.bool false)], args := [d1, d2, d3] }
  | _ => none }
def MmuBackWrongFalsely : Prop := mmuBackRow.holds Try.pinned (OpenSpec.ofChange mmuBackWrong)

/-- 'gannetlaw18.MmuFixed': WHATEVER THE INPUT: true; the input reads as it did. -/
def mmuFixedSpec : ChangeSpec := { name := "mmuFixed", fn := fun _ => fun
  | [d1, d2] => { results := [.lit (.bool true)], args := [d1, d2] }
  | _ => none }
def mmuFixedRow : OpenClaim := { program := "ytjaibacpojpfhaa", sum := "b00c6fd4b4ab975bc2a8be4f950c389cc11558df7f85714138ebea8e86655834", func := "gannet/gannetlaw18.MmuFixed", spec := "mmuFixed", unfollowed := true, recurses := true, apart := false }
def MmuFixedSaid : Prop := mmuFixedRow.holds Try.pinned (OpenSpec.ofChange mmuFixedSpec)

/-- ITS FALSE NEIGHBOUR: 'it returns false'. Refute it at one input. -/
def mmuFixedWrong : ChangeSpec := { name := "mmuFixed", fn := fun _ => fun
  | [d1, d2] => { results := [.lit (.bool false)], args := [d1, d2] }
  | _ => none }
def MmuFixedWrongFalsely : Prop := mmuFixedRow.holds Try.pinned (OpenSpec.ofChange mmuFixedWrong)

/- THE SECOND FORM. 'bulk': how many values and letters a reading holds, each counted each time it is reached (what is shared counts as often as it is met; a slice's spare places count too). A statement '..UptoSaid' is the law's where the arguments, and the package variables that the reading takes, are together of bulk at most 1048576: NARROWER than '..Said'. Prove '..Said' where nothing that the law and all that it calls make is longer than what came in: it says more and counts as full. Else prove '..UptoSaid'. A law counts once. -/
mutual
def uptoBulk {H : Type} : DataW H → Nat
  | .lit (.string bytes) => bytes.length + 1
  | .lit _ => 1
  | .nil => 1
  | .ptr d => uptoBulk d + 1
  | .slice elems spare => uptoBulkAll elems + uptoBulkAll spare + 1
  | .agg parts => uptoBulkAll parts + 1
  | .iface _ d => uptoBulk d + 1
  | .map entries => uptoBulkEntries entries + 1
  | .held _ => 1
def uptoBulkAll {H : Type} : List (DataW H) → Nat
  | [] => 0
  | d :: r => uptoBulk d + uptoBulkAll r
def uptoBulkEntries {H : Type} : List (Lit × DataW H) → Nat
  | [] => 0
  | x :: r => uptoBulkEntry x + uptoBulkEntries r
def uptoBulkEntry {H : Type} : Lit × DataW H → Nat
  | (.string bytes, d) => bytes.length + uptoBulk d + 1
  | (_, d) => uptoBulk d + 1
 end
def uptoSmall : (H : Type) → List (DataW H) → Bool := fun _ ds => decide (uptoBulkAll ds ≤ 1048576)
def OpenSpec.upto (s : _root_.Go.ChangeSpec) : _root_.Go.OpenSpec := { _root_.Go.OpenSpec.ofChange s with cond := some uptoSmall }

/-- 'gannetlaw18.MmuMoves', WHERE WHAT IT READS IS OF BULK AT MOST 1048576: true; the input reads as it did. -/
def mmuMovesUptoRow : OpenClaim := { program := "ytjaibacpojpfhaa", sum := "b00c6fd4b4ab975bc2a8be4f950c389cc11558df7f85714138ebea8e86655834", func := "gannet/gannetlaw18.MmuMoves", spec := "mmuMoves", unfollowed := true, recurses := true, apart := false, narrowed := true }
def MmuMovesUptoSaid : Prop := mmuMovesUptoRow.holds Try.pinned (OpenSpec.upto mmuMovesSpec)

/-- 'gannetlaw18.MmuMaps', WHERE WHAT IT READS IS OF BULK AT MOST 1048576: true; the input reads as it did. -/
def mmuMapsUptoRow : OpenClaim := { program := "ytjaibacpojpfhaa", sum := "b00c6fd4b4ab975bc2a8be4f950c389cc11558df7f85714138ebea8e86655834", func := "gannet/gannetlaw18.MmuMaps", spec := "mmuMaps", unfollowed := true, recurses := true, apart := false, narrowed := true }
def MmuMapsUptoSaid : Prop := mmuMapsUptoRow.holds Try.pinned (OpenSpec.upto mmuMapsSpec)

/-- 'gannetlaw18.MmuBack', WHERE WHAT IT READS IS OF BULK AT MOST 1048576: true; the input reads as it did. -/
def mmuBackUptoRow : OpenClaim := { program := "ytjaibacpojpfhaa", sum := "b00c6fd4b4ab975bc2a8be4f950c389cc11558df7f85714138ebea8e86655834", func := "gannet/gannetlaw18.MmuBack", spec := "mmuBack", unfollowed := true, recurses := true, apart := false, narrowed := true }
def MmuBackUptoSaid : Prop := mmuBackUptoRow.holds Try.pinned (OpenSpec.upto mmuBackSpec)

/-- 'gannetlaw18.MmuFixed', WHERE WHAT IT READS IS OF BULK AT MOST 1048576: true; the input reads as it did. -/
def mmuFixedUptoRow : OpenClaim := { program := "ytjaibacpojpfhaa", sum := "b00c6fd4b4ab975bc2a8be4f950c389cc11558df7f85714138ebea8e86655834", func := "gannet/gannetlaw18.MmuFixed", spec := "mmuFixed", unfollowed := true, recurses := true, apart := false, narrowed := true }
def MmuFixedUptoSaid : Prop := mmuFixedUptoRow.holds Try.pinned (OpenSpec.upto mmuFixedSpec)

end Rows
end Go.Proofs.Ytjaibacpojpfhaa
