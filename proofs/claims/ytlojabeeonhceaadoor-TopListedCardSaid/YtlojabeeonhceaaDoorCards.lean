/-
  DERIVED. GIVEN WITH THE SEED: THE CARDS: each row of YtlojabeeonhceaaDoorRows.lean that lists a variable, with what it lists TIED to the program's text (the seventh form; the later family's looks); each row that meets fmt, with fmt's text TOLD by the authors' own Lean function (tested against real Go, not proved from fmt's source: count such statements apart). THE CARD IS WHAT COUNTS. Prove the row's statement (the work); the ties are given (YtlojabeeonhceaaDoorTie.lean); close each card by the builder's one call (the guide's Derived/Test/ToyasCard.lean, 'card_holds'). Laid BY PROGRAM, IN A SANDBOX (cutbox-door.mjs). By AI agents, Wed Nov 11 2026. No macro, syntax, notation, axiom, sorry.
-/
import Derived.Test.YtlojabeeonhceaaDoorRows
import GoSem.ClaimSeven
namespace Go.Proofs.YtlojabeeonhceaaDoor
namespace Rows

/-- THE TIED CARD OF 'gannettop.TopListed'. -/
def topListedCard : Claim7 := { stood := { row := topListedRow, standIns := [], harness := (true, "4e3e4c9e3cc5e038753d0bf2434ad6da6655b4dfe793507b49e1e2396da29647"), looks := false }, kinds := [], alts := [], laidByText := true, laidKinds := [.data, .pinned], laidTests := true, laidLooks := .later }
def TopListedCardSaid : Prop := Claim7.holds Tryd.pinned (.plain (OpenSpec.ofChange topListedSpec)) topListedCard

/-- THE SECOND FORM's CARD OF 'gannettop.TopListed'. -/
def topListedUptoCard : Claim7 := { stood := { row := topListedUptoRow, standIns := [], harness := (true, "4e3e4c9e3cc5e038753d0bf2434ad6da6655b4dfe793507b49e1e2396da29647"), looks := false }, kinds := [], alts := [], laidByText := true, laidKinds := [.data, .pinned], laidTests := true, laidLooks := .later }
def TopListedUptoCardSaid : Prop := Claim7.holds Tryd.pinned (.plain (OpenSpec.upto topListedSpec)) topListedUptoCard
end Rows
end Go.Proofs.YtlojabeeonhceaaDoor
