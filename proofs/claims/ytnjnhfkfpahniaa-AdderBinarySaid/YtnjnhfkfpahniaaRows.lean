/-
  No cell of these rows narrows 'for every input' (looked for: loops, veiled, ifaces, maps, wideKeys, modest, calm, conditions, laid).
  DERIVED. THE GIVEN ROWS OF THIS SEAT. 5 by the template 'for every input the law returns true; each argument reads behind the call as it read before'; 0 by the template 'total and deterministic' (their statements: YtnjnhfkfpahniaaTotals.lean).
  GIVEN WITH THE SEED: the statements are not yours to turn. If you find one false, say at which input.
  Laid BY PROGRAM, IN A SANDBOX (cutbox-rows.mjs): the forced cells as the released guide's own fill.sh prints them over the translation e109c26a8a44eb9b… (all of the seat's roots in one cut). By AI agents, Wed Nov 11 2026. No macro, syntax, notation, axiom, sorry.
-/
import Derived.Test.YtnjnhfkfpahniaaChecked
import GoSem.Claim
import GoSem.ClaimJoined
import GoSem.ClaimMapViews
import Derived.JoinedTies
import Derived.KernelRfl
namespace Go.Proofs.Ytnjnhfkfpahniaa
/- THE CELL 'sum', in the pinned program and in every row, IS THE sha256 OF THE DUMP (.gsa) THAT YtnjnhfkfpahniaaProg.lean LOADS. Nothing in Lean hashes anything: it is a label: what it is worth is what the hold of that sum in a sandbox is worth. -/
noncomputable def Try.pinned : Pinned := { name := "ytnjnhfkfpahniaa", sum := "e109c26a8a44eb9bc66fa88b2af9130711a5c46e47867f218a41b2faef53e942", checked := Try.checked }
namespace Rows
def none {H : Type} : Left H := { results := [], args := [] }

/-- 'gannetlaw21.AdderAdds': WHATEVER THE INPUT: true; the input reads as it did. -/
def adderAddsSpec : ChangeSpec := { name := "adderAdds", fn := fun _ => fun
  | [d1, d2, d3] => { results := [.lit (.bool true)], args := [d1, d2, d3] }
  | _ => none }
def adderAddsRow : OpenClaim := { program := "ytnjnhfkfpahniaa", sum := "e109c26a8a44eb9bc66fa88b2af9130711a5c46e47867f218a41b2faef53e942", func := "gannet/gannetlaw21.AdderAdds", spec := "adderAdds", unfollowed := true, recurses := true, apart := false }
def AdderAddsSaid : Prop := adderAddsRow.holds Try.pinned (OpenSpec.ofChange adderAddsSpec)

/-- ITS FALSE NEIGHBOUR: 'it returns false'. Refute it at one input. -/
def adderAddsWrong : ChangeSpec := { name := "adderAdds", fn := fun _ => fun
  | [d1, d2, d3] => { results := [.lit (.bool false)], args := [d1, d2, d3] }
  | _ => none }
def AdderAddsWrongFalsely : Prop := adderAddsRow.holds Try.pinned (OpenSpec.ofChange adderAddsWrong)

/-- 'gannetlaw21.AdderDigits': WHATEVER THE INPUT: true; the input reads as it did. -/
def adderDigitsSpec : ChangeSpec := { name := "adderDigits", fn := fun _ => fun
  | [d1, d2] => { results := [.lit (.bool true)], args := [d1, d2] }
  | _ => none }
def adderDigitsRow : OpenClaim := { program := "ytnjnhfkfpahniaa", sum := "e109c26a8a44eb9bc66fa88b2af9130711a5c46e47867f218a41b2faef53e942", func := "gannet/gannetlaw21.AdderDigits", spec := "adderDigits", unfollowed := true, recurses := true, apart := false }
def AdderDigitsSaid : Prop := adderDigitsRow.holds Try.pinned (OpenSpec.ofChange adderDigitsSpec)

/-- ITS FALSE NEIGHBOUR: 'it returns false'. Refute it at one input. -/
def adderDigitsWrong : ChangeSpec := { name := "adderDigits", fn := fun _ => fun
  | [d1, d2] => { results := [.lit (.bool false)], args := [d1, d2] }
  | _ => none }
def AdderDigitsWrongFalsely : Prop := adderDigitsRow.holds Try.pinned (OpenSpec.ofChange adderDigitsWrong)

/-- 'gannetlaw21.AdderLong': WHATEVER THE INPUT: true; the input reads as it did. -/
def adderLongSpec : ChangeSpec := { name := "adderLong", fn := fun _ => fun
  | [d1, d2, d3, d4] => { results := [.lit (.bool true)], args := [d1, d2, d3, d4] }
  | _ => none }
def adderLongRow : OpenClaim := { program := "ytnjnhfkfpahniaa", sum := "e109c26a8a44eb9bc66fa88b2af9130711a5c46e47867f218a41b2faef53e942", func := "gannet/gannetlaw21.AdderLong", spec := "adderLong", unfollowed := true, recurses := true, apart := false }
def AdderLongSaid : Prop := adderLongRow.holds Try.pinned (OpenSpec.ofChange adderLongSpec)

/-- ITS FALSE NEIGHBOUR: 'it returns false'. Refute it at one input. -/
def adderLongWrong : ChangeSpec := { name := "adderLong", fn := fun _ => fun
  | [d1, d2, d3, d4] => { results := [.lit (.bool false)], args := [d1, d2, d3, d4] }
  | _ => none }
def AdderLongWrongFalsely : Prop := adderLongRow.holds Try.pinned (OpenSpec.ofChange adderLongWrong)

/-- 'gannetlaw21.AdderDecimal': WHATEVER THE INPUT: true; the input reads as it did. -/
def adderDecimalSpec : ChangeSpec := { name := "adderDecimal", fn := fun _ => fun
  | [d1, d2, d3] => { results := [.lit (.bool true)], args := [d1, d2, d3] }
  | _ => none }
def adderDecimalRow : OpenClaim := { program := "ytnjnhfkfpahniaa", sum := "e109c26a8a44eb9bc66fa88b2af9130711a5c46e47867f218a41b2faef53e942", func := "gannet/gannetlaw21.AdderDecimal", spec := "adderDecimal", unfollowed := true, recurses := true, apart := false }
def AdderDecimalSaid : Prop := adderDecimalRow.holds Try.pinned (OpenSpec.ofChange adderDecimalSpec)

/-- ITS FALSE NEIGHBOUR: 'it returns false'. Refute it at one input. -/
def adderDecimalWrong : ChangeSpec := { name := "adderDecimal", fn := fun _ => fun
  | [d1, d2, d3] => { results := [.lit (.bool false)], args := [d1, d2, d3] }
  | _ => none }
def AdderDecimalWrongFalsely : Prop := adderDecimalRow.holds Try.pinned (OpenSpec.ofChange adderDecimalWrong)

/-- 'gannetlaw21.AdderBinary': WHATEVER THE INPUT: true; the input reads as it did. -/
def adderBinarySpec : ChangeSpec := { name := "adderBinary", fn := fun _ => fun
  | [d1, d2] => { results := [.lit (.bool true)], args := [d1, d2] }
  | _ => none }
def adderBinaryRow : OpenClaim := { program := "ytnjnhfkfpahniaa", sum := "e109c26a8a44eb9bc66fa88b2af9130711a5c46e47867f218a41b2faef53e942", func := "gannet/gannetlaw21.AdderBinary", spec := "adderBinary", unfollowed := true, recurses := true, apart := false }
def AdderBinarySaid : Prop := adderBinaryRow.holds Try.pinned (OpenSpec.ofChange adderBinarySpec)

/-- ITS FALSE NEIGHBOUR: 'it returns false'. Refute it at one input. -/
def adderBinaryWrong : ChangeSpec := { name := "adderBinary", fn := fun _ => fun
  | [d1, d2] => { results := [.lit (.bool false)], args := [d1, d2] }
  | _ => none }
def AdderBinaryWrongFalsely : Prop := adderBinaryRow.holds Try.pinned (OpenSpec.ofChange adderBinaryWrong)

/- THE SECOND FORM. 'bulk': how many values and letters a reading holds, each counted each time it is reached (what is shared counts as often as it is met; a slice's spare places count too). A statement '..UptoSaid' is the law's where the arguments, and the package variables that the reading takes, are together of bulk at most 1048576: NARROWER than '..Said'. Prove '..Said' where nothing that the law and all that it calls make is longer than what came in: it says more and counts as full. Else prove '..UptoSaid'. A law counts once. -/
mutual
def uptoBulk {H : Type} : DataW H → Nat
  | .lit (.string bytes) => bytes.length + 1
  | .lit _ => 1
  | .nil => 1
  | .ptr d => uptoBulk d + 1
  | .slice elems spare => uptoBulkAll elems + uptoBulkAll spare + 1
  | .agg parts => uptoBulkAll parts + 1
  | .iface _ d => uptoBulk d + 1
  | .map entries => uptoBulkEntries entries + 1
  | .held _ => 1
def uptoBulkAll {H : Type} : List (DataW H) → Nat
  | [] => 0
  | d :: r => uptoBulk d + uptoBulkAll r
def uptoBulkEntries {H : Type} : List (Lit × DataW H) → Nat
  | [] => 0
  | x :: r => uptoBulkEntry x + uptoBulkEntries r
def uptoBulkEntry {H : Type} : Lit × DataW H → Nat
  | (.string bytes, d) => bytes.length + uptoBulk d + 1
  | (_, d) => uptoBulk d + 1
 end
def uptoSmall : (H : Type) → List (DataW H) → Bool := fun _ ds => decide (uptoBulkAll ds ≤ 1048576)
def OpenSpec.upto (s : _root_.Go.ChangeSpec) : _root_.Go.OpenSpec := { _root_.Go.OpenSpec.ofChange s with cond := some uptoSmall }

/-- 'gannetlaw21.AdderAdds', WHERE WHAT IT READS IS OF BULK AT MOST 1048576: true; the input reads as it did. -/
def adderAddsUptoRow : OpenClaim := { program := "ytnjnhfkfpahniaa", sum := "e109c26a8a44eb9bc66fa88b2af9130711a5c46e47867f218a41b2faef53e942", func := "gannet/gannetlaw21.AdderAdds", spec := "adderAdds", unfollowed := true, recurses := true, apart := false, narrowed := true }
def AdderAddsUptoSaid : Prop := adderAddsUptoRow.holds Try.pinned (OpenSpec.upto adderAddsSpec)

/-- 'gannetlaw21.AdderDigits', WHERE WHAT IT READS IS OF BULK AT MOST 1048576: true; the input reads as it did. -/
def adderDigitsUptoRow : OpenClaim := { program := "ytnjnhfkfpahniaa", sum := "e109c26a8a44eb9bc66fa88b2af9130711a5c46e47867f218a41b2faef53e942", func := "gannet/gannetlaw21.AdderDigits", spec := "adderDigits", unfollowed := true, recurses := true, apart := false, narrowed := true }
def AdderDigitsUptoSaid : Prop := adderDigitsUptoRow.holds Try.pinned (OpenSpec.upto adderDigitsSpec)

/-- 'gannetlaw21.AdderLong', WHERE WHAT IT READS IS OF BULK AT MOST 1048576: true; the input reads as it did. -/
def adderLongUptoRow : OpenClaim := { program := "ytnjnhfkfpahniaa", sum := "e109c26a8a44eb9bc66fa88b2af9130711a5c46e47867f218a41b2faef53e942", func := "gannet/gannetlaw21.AdderLong", spec := "adderLong", unfollowed := true, recurses := true, apart := false, narrowed := true }
def AdderLongUptoSaid : Prop := adderLongUptoRow.holds Try.pinned (OpenSpec.upto adderLongSpec)

/-- 'gannetlaw21.AdderDecimal', WHERE WHAT IT READS IS OF BULK AT MOST 1048576: true; the input reads as it did. -/
def adderDecimalUptoRow : OpenClaim := { program := "ytnjnhfkfpahniaa", sum := "e109c26a8a44eb9bc66fa88b2af9130711a5c46e47867f218a41b2faef53e942", func := "gannet/gannetlaw21.AdderDecimal", spec := "adderDecimal", unfollowed := true, recurses := true, apart := false, narrowed := true }
def AdderDecimalUptoSaid : Prop := adderDecimalUptoRow.holds Try.pinned (OpenSpec.upto adderDecimalSpec)

/-- 'gannetlaw21.AdderBinary', WHERE WHAT IT READS IS OF BULK AT MOST 1048576: true; the input reads as it did. -/
def adderBinaryUptoRow : OpenClaim := { program := "ytnjnhfkfpahniaa", sum := "e109c26a8a44eb9bc66fa88b2af9130711a5c46e47867f218a41b2faef53e942", func := "gannet/gannetlaw21.AdderBinary", spec := "adderBinary", unfollowed := true, recurses := true, apart := false, narrowed := true }
def AdderBinaryUptoSaid : Prop := adderBinaryUptoRow.holds Try.pinned (OpenSpec.upto adderBinarySpec)

end Rows
end Go.Proofs.Ytnjnhfkfpahniaa
