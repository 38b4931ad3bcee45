/-
  No cell of these rows narrows 'for every input' (looked for: loops, veiled, ifaces, maps, wideKeys, modest, calm, conditions, laid).
  DERIVED. THE GIVEN ROWS OF THIS SEAT. 4 by the template 'for every input the law returns true; each argument reads behind the call as it read before'; 0 by the template 'total and deterministic' (their statements: YtmjgkkjlgkkddaaTotals.lean).
  GIVEN WITH THE SEED: the statements are not yours to turn. If you find one false, say at which input.
  Laid BY PROGRAM, IN A SANDBOX (cutbox-rows.mjs): the forced cells as the released guide's own fill.sh prints them over the translation 2e069ad42e479c15… (all of the seat's roots in one cut). By AI agents, Wed Nov 11 2026. No macro, syntax, notation, axiom, sorry.
-/
import Derived.Test.YtmjgkkjlgkkddaaChecked
import GoSem.Claim
import GoSem.ClaimJoined
import GoSem.ClaimMapViews
import Derived.JoinedTies
import Derived.KernelRfl
namespace Go.Proofs.Ytmjgkkjlgkkddaa
/- THE CELL 'sum', in the pinned program and in every row, IS THE sha256 OF THE DUMP (.gsa) THAT YtmjgkkjlgkkddaaProg.lean LOADS. Nothing in Lean hashes anything: it is a label: what it is worth is what the hold of that sum in a sandbox is worth. -/
noncomputable def Try.pinned : Pinned := { name := "ytmjgkkjlgkkddaa", sum := "2e069ad42e479c153a0fea47a2e6cb63f028721f6bff421e31fd647770412f8a", checked := Try.checked }
namespace Rows
def none {H : Type} : Left H := { results := [], args := [] }

/-- 'gannetlaw03.PhysParts': WHATEVER THE INPUT: true; the input reads as it did. -/
def physPartsSpec : ChangeSpec := { name := "physParts", fn := fun _ => fun
  | [d1, d2, d3] => { results := [.lit (.bool true)], args := [d1, d2, d3] }
  | _ => none }
def physPartsRow : OpenClaim := { program := "ytmjgkkjlgkkddaa", sum := "2e069ad42e479c153a0fea47a2e6cb63f028721f6bff421e31fd647770412f8a", func := "gannet/gannetlaw03.PhysParts", spec := "physParts", apart := false }
def PhysPartsSaid : Prop := physPartsRow.holds Try.pinned (OpenSpec.ofChange physPartsSpec)

/-- ITS FALSE NEIGHBOUR: 'it returns false'. Refute it at one input. -/
def physPartsWrong : ChangeSpec := { name := "physParts", fn := fun _ => fun
  | [d1, d2, d3] => { results := [.lit (.bool false)], args := [d1, d2, d3] }
  | _ => none }
def PhysPartsWrongFalsely : Prop := physPartsRow.holds Try.pinned (OpenSpec.ofChange physPartsWrong)

/-- 'gannetlaw03.PhysTells': WHATEVER THE INPUT: true; the input reads as it did. -/
def physTellsSpec : ChangeSpec := { name := "physTells", fn := fun _ => fun
  | [d] => { results := [.lit (.bool true)], args := [d] }
  | _ => none }
def physTellsRow : OpenClaim := { program := "ytmjgkkjlgkkddaa", sum := "2e069ad42e479c153a0fea47a2e6cb63f028721f6bff421e31fd647770412f8a", func := "gannet/gannetlaw03.PhysTells", spec := "physTells", apart := false }
def PhysTellsSaid : Prop := physTellsRow.holds Try.pinned (OpenSpec.ofChange physTellsSpec)

/-- ITS FALSE NEIGHBOUR: 'it returns false'. Refute it at one input. -/
def physTellsWrong : ChangeSpec := { name := "physTells", fn := fun _ => fun
  | [d] => { results := [.lit (.bool false)], args := [d] }
  | _ => none }
def PhysTellsWrongFalsely : Prop := physTellsRow.holds Try.pinned (OpenSpec.ofChange physTellsWrong)

/-- 'gannetlaw03.PhysTexts': WHATEVER THE INPUT: true; the input reads as it did. -/
def physTextsSpec : ChangeSpec := { name := "physTexts", fn := fun _ => fun
  | [d1, d2] => { results := [.lit (.bool true)], args := [d1, d2] }
  | _ => none }
def physTextsRow : OpenClaim := { program := "ytmjgkkjlgkkddaa", sum := "2e069ad42e479c153a0fea47a2e6cb63f028721f6bff421e31fd647770412f8a", func := "gannet/gannetlaw03.PhysTexts", spec := "physTexts", apart := false }
def PhysTextsSaid : Prop := physTextsRow.holds Try.pinned (OpenSpec.ofChange physTextsSpec)

/-- ITS FALSE NEIGHBOUR: 'it returns false'. Refute it at one input. -/
def physTextsWrong : ChangeSpec := { name := "physTexts", fn := fun _ => fun
  | [d1, d2] => { results := [.lit (.bool false)], args := [d1, d2] }
  | _ => none }
def PhysTextsWrongFalsely : Prop := physTextsRow.holds Try.pinned (OpenSpec.ofChange physTextsWrong)

/-- 'gannetlaw03.PhysSpans': WHATEVER THE INPUT: true; the input reads as it did. -/
def physSpansSpec : ChangeSpec := { name := "physSpans", fn := fun _ => fun
  | [d1, d2] => { results := [.lit (.bool true)], args := [d1, d2] }
  | _ => none }
def physSpansRow : OpenClaim := { program := "ytmjgkkjlgkkddaa", sum := "2e069ad42e479c153a0fea47a2e6cb63f028721f6bff421e31fd647770412f8a", func := "gannet/gannetlaw03.PhysSpans", spec := "physSpans", apart := false }
def PhysSpansSaid : Prop := physSpansRow.holds Try.pinned (OpenSpec.ofChange physSpansSpec)

/-- ITS FALSE NEIGHBOUR: 'it returns false'. Refute it at one input. -/
def physSpansWrong : ChangeSpec := { name := "physSpans", fn := fun _ => fun
  | [d1, d2] => { results := [.lit (.bool false)], args := [d1, d2] }
  | _ => none }
def PhysSpansWrongFalsely : Prop := physSpansRow.holds Try.pinned (OpenSpec.ofChange physSpansWrong)

/- THE SECOND FORM. 'bulk': how many values and letters a reading holds, each counted each time it is reached (what is shared counts as often as it is met; a slice's spare places count too). A statement '..UptoSaid' is the law's where the arguments, and the package variables that the reading takes, are together of bulk at most 1048576: NARROWER than '..Said'. Prove '..Said' where nothing that the law and all that it calls make is longer than what came in: it says more and counts as full. Else prove '..UptoSaid'. A law counts once. -/
mutual
def uptoBulk {H : Type} : DataW H → Nat
  | .lit (.string bytes) => bytes.length + 1
  | .lit _ => 1
  | .nil => 1
  | .ptr d => uptoBulk d + 1
  | .slice elems spare => uptoBulkAll elems + uptoBulkAll spare + 1
  | .agg parts => uptoBulkAll parts + 1
  | .iface _ d => uptoBulk d + 1
  | .map entries => uptoBulkEntries entries + 1
  | .held _ => 1
def uptoBulkAll {H : Type} : List (DataW H) → Nat
  | [] => 0
  | d :: r => uptoBulk d + uptoBulkAll r
def uptoBulkEntries {H : Type} : List (Lit × DataW H) → Nat
  | [] => 0
  | x :: r => uptoBulkEntry x + uptoBulkEntries r
def uptoBulkEntry {H : Type} : Lit × DataW H → Nat
  | (.string bytes, d) => bytes.length + uptoBulk d + 1
  | (_, d) => uptoBulk d + 1
 end
def uptoSmall : (H : Type) → List (DataW H) → Bool := fun _ ds => decide (uptoBulkAll ds ≤ 1048576)
def OpenSpec.upto (s : _root_.Go.ChangeSpec) : _root_.Go.OpenSpec := { _root_.Go.OpenSpec.ofChange s with cond := some uptoSmall }

/-- 'gannetlaw03.PhysParts', WHERE WHAT IT READS IS OF BULK AT MOST 1048576: true; the input reads as it did. -/
def physPartsUptoRow : OpenClaim := { program := "ytmjgkkjlgkkddaa", sum := "2e069ad42e479c153a0fea47a2e6cb63f028721f6bff421e31fd647770412f8a", func := "gannet/gannetlaw03.PhysParts", spec := "physParts", apart := false, narrowed := true }
def PhysPartsUptoSaid : Prop := physPartsUptoRow.holds Try.pinned (OpenSpec.upto physPartsSpec)

/-- 'gannetlaw03.PhysTells', WHERE WHAT IT READS IS OF BULK AT MOST 1048576: true; the input reads as it did. -/
def physTellsUptoRow : OpenClaim := { program := "ytmjgkkjlgkkddaa", sum := "2e069ad42e479c153a0fea47a2e6cb63f028721f6bff421e31fd647770412f8a", func := "gannet/gannetlaw03.PhysTells", spec := "physTells", apart := false, narrowed := true }
def PhysTellsUptoSaid : Prop := physTellsUptoRow.holds Try.pinned (OpenSpec.upto physTellsSpec)

/-- 'gannetlaw03.PhysTexts', WHERE WHAT IT READS IS OF BULK AT MOST 1048576: true; the input reads as it did. -/
def physTextsUptoRow : OpenClaim := { program := "ytmjgkkjlgkkddaa", sum := "2e069ad42e479c153a0fea47a2e6cb63f028721f6bff421e31fd647770412f8a", func := "gannet/gannetlaw03.PhysTexts", spec := "physTexts", apart := false, narrowed := true }
def PhysTextsUptoSaid : Prop := physTextsUptoRow.holds Try.pinned (OpenSpec.upto physTextsSpec)

/-- 'gannetlaw03.PhysSpans', WHERE WHAT IT READS IS OF BULK AT MOST 1048576: true; the input reads as it did. -/
def physSpansUptoRow : OpenClaim := { program := "ytmjgkkjlgkkddaa", sum := "2e069ad42e479c153a0fea47a2e6cb63f028721f6bff421e31fd647770412f8a", func := "gannet/gannetlaw03.PhysSpans", spec := "physSpans", apart := false, narrowed := true }
def PhysSpansUptoSaid : Prop := physSpansUptoRow.holds Try.pinned (OpenSpec.upto physSpansSpec)

end Rows
end Go.Proofs.Ytmjgkkjlgkkddaa
