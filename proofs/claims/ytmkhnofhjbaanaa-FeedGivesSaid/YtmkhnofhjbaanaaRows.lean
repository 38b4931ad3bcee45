/-
  No cell of these rows narrows 'for every input' (looked for: loops, veiled, ifaces, maps, wideKeys, modest, calm, conditions, laid).
  DERIVED. THE GIVEN ROWS OF THIS SEAT. 3 by the template 'for every input the law returns true; each argument reads behind the call as it read before'; 0 by the template 'total and deterministic' (their statements: YtmkhnofhjbaanaaTotals.lean).
  GIVEN WITH THE SEED: the statements are not yours to turn. If you find one false, say at which input.
  Laid BY PROGRAM, IN A SANDBOX (cutbox-rows.mjs): the forced cells as the released guide's own fill.sh prints them over the translation 5ce1f613b8840ef6… (all of the seat's roots in one cut). By AI agents, Wed Nov 11 2026. No macro, syntax, notation, axiom, sorry.
-/
import Derived.Test.YtmkhnofhjbaanaaChecked
import GoSem.Claim
import GoSem.ClaimJoined
import GoSem.ClaimMapViews
import Derived.JoinedTies
import Derived.KernelRfl
namespace Go.Proofs.Ytmkhnofhjbaanaa
/- THE CELL 'sum', in the pinned program and in every row, IS THE sha256 OF THE DUMP (.gsa) THAT YtmkhnofhjbaanaaProg.lean LOADS. Nothing in Lean hashes anything: it is a label: what it is worth is what the hold of that sum in a sandbox is worth. -/
noncomputable def Try.pinned : Pinned := { name := "ytmkhnofhjbaanaa", sum := "5ce1f613b8840ef6354d987204ee9f1092c1e5528cbeeb31ad495bbf11e4ba08", checked := Try.checked }
namespace Rows
def none {H : Type} : Left H := { results := [], args := [] }

/-- 'gannetlaw06.FeedGives': WHATEVER THE INPUT: true; the input reads as it did. -/
def feedGivesSpec : ChangeSpec := { name := "feedGives", fn := fun _ => fun
  | [d1, d2, d3] => { results := [.lit (.bool true)], args := [d1, d2, d3] }
  | _ => none }
def feedGivesRow : OpenClaim := { program := "ytmkhnofhjbaanaa", sum := "5ce1f613b8840ef6354d987204ee9f1092c1e5528cbeeb31ad495bbf11e4ba08", func := "gannet/gannetlaw06.FeedGives", spec := "feedGives", unfollowed := true, recurses := true, apart := false }
def FeedGivesSaid : Prop := feedGivesRow.holds Try.pinned (OpenSpec.ofChange feedGivesSpec)

/-- ITS FALSE NEIGHBOUR: 'it returns false'. Refute it at one input. -/
def feedGivesWrong : ChangeSpec := { name := "feedGives", fn := fun _ => fun
  | [d1, d2, d3] => { results := [.lit (.bool false)], args := [d1, d2, d3] }
  | _ => none }
def FeedGivesWrongFalsely : Prop := feedGivesRow.holds Try.pinned (OpenSpec.ofChange feedGivesWrong)

/-- 'gannetlaw06.FeedBegins': WHATEVER THE INPUT: true; the input reads as it did. -/
def feedBeginsSpec : ChangeSpec := { name := "feedBegins", fn := fun _ => fun
  | [d1, d2, d3] => { results := [.lit (.bool true)], args := [d1, d2, d3] }
  | _ => none }
def feedBeginsRow : OpenClaim := { program := "ytmkhnofhjbaanaa", sum := "5ce1f613b8840ef6354d987204ee9f1092c1e5528cbeeb31ad495bbf11e4ba08", func := "gannet/gannetlaw06.FeedBegins", spec := "feedBegins", unfollowed := true, recurses := true, apart := false }
def FeedBeginsSaid : Prop := feedBeginsRow.holds Try.pinned (OpenSpec.ofChange feedBeginsSpec)

/-- ITS FALSE NEIGHBOUR: 'it returns false'. Refute it at one input. -/
def feedBeginsWrong : ChangeSpec := { name := "feedBegins", fn := fun _ => fun
  | [d1, d2, d3] => { results := [.lit (.bool false)], args := [d1, d2, d3] }
  | _ => none }
def FeedBeginsWrongFalsely : Prop := feedBeginsRow.holds Try.pinned (OpenSpec.ofChange feedBeginsWrong)

/-- 'gannetlaw06.FeedChecks': WHATEVER THE INPUT: true; the input reads as it did. -/
def feedChecksSpec : ChangeSpec := { name := "feedChecks", fn := fun _ => fun
  | [d1, d2, d3] => { results := [.lit (.bool true)], args := [d1, d2, d3] }
  | _ => none }
def feedChecksRow : OpenClaim := { program := "ytmkhnofhjbaanaa", sum := "5ce1f613b8840ef6354d987204ee9f1092c1e5528cbeeb31ad495bbf11e4ba08", func := "gannet/gannetlaw06.FeedChecks", spec := "feedChecks", unfollowed := true, recurses := true, apart := false }
def FeedChecksSaid : Prop := feedChecksRow.holds Try.pinned (OpenSpec.ofChange feedChecksSpec)

/-- ITS FALSE NEIGHBOUR: 'it returns false'. Refute it at one input. -/
def feedChecksWrong : ChangeSpec := { name := "feedChecks", fn := fun _ => fun
  | [d1, d2, d3] => { results := [.lit (.bool false)], args := [d1, d2, d3] }
  | _ => none }
def FeedChecksWrongFalsely : Prop := feedChecksRow.holds Try.pinned (OpenSpec.ofChange feedChecksWrong)

/- THE SECOND FORM. 'bulk': how many values and letters a reading holds, each counted each time it is reached (what is shared counts as often as it is met; a slice's spare places count too). A statement '..UptoSaid' is the law's where the arguments, and the package variables that the reading takes, are together of bulk at most 1048576: NARROWER than '..Said'. Prove '..Said' where nothing that the law and all that it calls make is longer than what came in: it says more and counts as full. Else prove '..UptoSaid'. A law counts once. -/
mutual
def uptoBulk {H : Type} : DataW H → Nat
  | .lit (.string bytes) => bytes.length + 1
  | .lit _ => 1
  | .nil => 1
  | .ptr d => uptoBulk d + 1
  | .slice elems spare => uptoBulkAll elems + uptoBulkAll spare + 1
  | .agg parts => uptoBulkAll parts + 1
  | .iface _ d => uptoBulk d + 1
  | .map entries => uptoBulkEntries entries + 1
  | .held _ => 1
def uptoBulkAll {H : Type} : List (DataW H) → Nat
  | [] => 0
  | d :: r => uptoBulk d + uptoBulkAll r
def uptoBulkEntries {H : Type} : List (Lit × DataW H) → Nat
  | [] => 0
  | x :: r => uptoBulkEntry x + uptoBulkEntries r
def uptoBulkEntry {H : Type} : Lit × DataW H → Nat
  | (.string bytes, d) => bytes.length + uptoBulk d + 1
  | (_, d) => uptoBulk d + 1
 end
def uptoSmall : (H : Type) → List (DataW H) → Bool := fun _ ds => decide (uptoBulkAll ds ≤ 1048576)
def OpenSpec.upto (s : _root_.Go.ChangeSpec) : _root_.Go.OpenSpec := { _root_.Go.OpenSpec.ofChange s with cond := some uptoSmall }

/-- 'gannetlaw06.FeedGives', WHERE WHAT IT READS IS OF BULK AT MOST 1048576: true; the input reads as it did. -/
def feedGivesUptoRow : OpenClaim := { program := "ytmkhnofhjbaanaa", sum := "5ce1f613b8840ef6354d987204ee9f1092c1e5528cbeeb31ad495bbf11e4ba08", func := "gannet/gannetlaw06.FeedGives", spec := "feedGives", unfollowed := true, recurses := true, apart := false, narrowed := true }
def FeedGivesUptoSaid : Prop := feedGivesUptoRow.holds Try.pinned (OpenSpec.upto feedGivesSpec)

/-- 'gannetlaw06.FeedBegins', WHERE WHAT IT READS IS OF BULK AT MOST 1048576: true; the input reads as it did. -/
def feedBeginsUptoRow : OpenClaim := { program := "ytmkhnofhjbaanaa", sum := "5ce1f613b8840ef6354d987204ee9f1092c1e5528cbeeb31ad495bbf11e4ba08", func := "gannet/gannetlaw06.FeedBegins", spec := "feedBegins", unfollowed := true, recurses := true, apart := false, narrowed := true }
def FeedBeginsUptoSaid : Prop := feedBeginsUptoRow.holds Try.pinned (OpenSpec.upto feedBeginsSpec)

/-- 'gannetlaw06.FeedChecks', WHERE WHAT IT READS IS OF BULK AT MOST 1048576: true; the input reads as it did. -/
def feedChecksUptoRow : OpenClaim := { program := "ytmkhnofhjbaanaa", sum := "5ce1f613b8840ef6354d987204ee9f1092c1e5528cbeeb31ad495bbf11e4ba08", func := "gannet/gannetlaw06.FeedChecks", spec := "feedChecks", unfollowed := true, recurses := true, apart := false, narrowed := true }
def FeedChecksUptoSaid : Prop := feedChecksUptoRow.holds Try.pinned (OpenSpec.upto feedChecksSpec)

end Rows
end Go.Proofs.Ytmkhnofhjbaanaa
