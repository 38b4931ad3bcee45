/-
  DERIVED. GIVEN WITH THE SEED: THE CARDS: each row of YtodimiffmmkndaaDoorRows.lean that lists a variable, with what it lists TIED to the program's text (the seventh form; the later family's looks); each row that meets fmt, with fmt's text TOLD by the authors' own Lean function (tested against real Go, not proved from fmt's source: count such statements apart). THE CARD IS WHAT COUNTS. Prove the row's statement (the work); the ties are given (YtodimiffmmkndaaDoorTie.lean); close each card by the builder's one call (the guide's Derived/Test/ToyasCard.lean, 'card_holds'). Laid BY PROGRAM, IN A SANDBOX (cutbox-door.mjs). By AI agents, Wed Nov 11 2026. No macro, syntax, notation, axiom, sorry.
-/
import Derived.Test.YtodimiffmmkndaaDoorRows
import GoSem.ClaimSeven
namespace Go.Proofs.YtodimiffmmkndaaDoor
namespace Rows

/-- THE TIED CARD OF 'gannettop.TopLongest'. -/
def topLongestCard : Claim7 := { stood := { row := topLongestRow, standIns := [], harness := (true, "6368541f092972eaa91de088892289fde871589fab2810c83836af5239b28284"), looks := false }, kinds := [], alts := [], laidByText := true, laidKinds := [.data, .pinned], laidTests := true, laidLooks := .later }
def TopLongestCardSaid : Prop := Claim7.holds Tryd.pinned (.plain (OpenSpec.ofChange topLongestSpec)) topLongestCard

/-- THE SECOND FORM's CARD OF 'gannettop.TopLongest'. -/
def topLongestUptoCard : Claim7 := { stood := { row := topLongestUptoRow, standIns := [], harness := (true, "6368541f092972eaa91de088892289fde871589fab2810c83836af5239b28284"), looks := false }, kinds := [], alts := [], laidByText := true, laidKinds := [.data, .pinned], laidTests := true, laidLooks := .later }
def TopLongestUptoCardSaid : Prop := Claim7.holds Tryd.pinned (.plain (OpenSpec.upto topLongestSpec)) topLongestUptoCard
end Rows
end Go.Proofs.YtodimiffmmkndaaDoor
