/-
  DERIVED. GIVEN WITH THE SEED: THE CARDS: each row of YtelmkpcocaogjaaDoorRows.lean that lists a variable, with what it lists TIED to the program's text (the seventh form; the later family's looks); each row that meets fmt, with fmt's text TOLD by the authors' own Lean function (tested against real Go, not proved from fmt's source: count such statements apart). THE CARD IS WHAT COUNTS. Prove the row's statement (the work); the ties are given (YtelmkpcocaogjaaDoorTie.lean); close each card by the builder's one call (the guide's Derived/Test/ToyasCard.lean, 'card_holds'). Laid BY PROGRAM, IN A SANDBOX (cutbox-door.mjs). By AI agents, Wed Nov 11 2026. No macro, syntax, notation, axiom, sorry.
-/
import Derived.Test.YtelmkpcocaogjaaDoorRows
import GoSem.ClaimSeven
namespace Go.Proofs.YtelmkpcocaogjaaDoor
namespace Rows

/-- THE TIED CARD OF 'gannetlaw25.StateTexts'. -/
def stateTextsCard : Claim7 := { stood := { row := stateTextsRow, standIns := [], harness := (true, "6f348776afbdc2a4847b694303ab2fe4bda5fc46fbfdb7b259391b02d4c878aa"), looks := false }, kinds := [], alts := [], laidByText := true, laidKinds := [.data, .pinned], laidTests := true, laidLooks := .later }
def StateTextsCardSaid : Prop := Claim7.holds Tryd.pinned (.plain (OpenSpec.ofChange stateTextsSpec)) stateTextsCard

/-- THE TIED CARD OF 'gannetlaw25.StateNames'. -/
def stateNamesCard : Claim7 := { stood := { row := stateNamesRow, standIns := [], harness := (true, "6f348776afbdc2a4847b694303ab2fe4bda5fc46fbfdb7b259391b02d4c878aa"), looks := false }, kinds := [], alts := [], laidByText := true, laidKinds := [.data, .pinned], laidTests := true, laidLooks := .later }
def StateNamesCardSaid : Prop := Claim7.holds Tryd.pinned (.plain (OpenSpec.ofChange stateNamesSpec)) stateNamesCard

/-- THE TIED CARD OF 'gannetlaw25.StateSets'. -/
def stateSetsCard : Claim7 := { stood := { row := stateSetsRow, standIns := [], harness := (true, "6f348776afbdc2a4847b694303ab2fe4bda5fc46fbfdb7b259391b02d4c878aa"), looks := false }, kinds := [], alts := [], laidByText := true, laidKinds := [.data, .pinned], laidTests := true, laidLooks := .later }
def StateSetsCardSaid : Prop := Claim7.holds Tryd.pinned (.plain (OpenSpec.ofChange stateSetsSpec)) stateSetsCard

/-- THE TIED CARD OF 'gannetlaw25.StateBytes'. -/
def stateBytesCard : Claim7 := { stood := { row := stateBytesRow, standIns := [], harness := (true, "6f348776afbdc2a4847b694303ab2fe4bda5fc46fbfdb7b259391b02d4c878aa"), looks := false }, kinds := [], alts := [], laidByText := true, laidKinds := [.data, .pinned], laidTests := true, laidLooks := .later }
def StateBytesCardSaid : Prop := Claim7.holds Tryd.pinned (.plain (OpenSpec.ofChange stateBytesSpec)) stateBytesCard

/-- THE SECOND FORM's CARD OF 'gannetlaw25.StateTexts'. -/
def stateTextsUptoCard : Claim7 := { stood := { row := stateTextsUptoRow, standIns := [], harness := (true, "6f348776afbdc2a4847b694303ab2fe4bda5fc46fbfdb7b259391b02d4c878aa"), looks := false }, kinds := [], alts := [], laidByText := true, laidKinds := [.data, .pinned], laidTests := true, laidLooks := .later }
def StateTextsUptoCardSaid : Prop := Claim7.holds Tryd.pinned (.plain (OpenSpec.upto stateTextsSpec)) stateTextsUptoCard

/-- THE SECOND FORM's CARD OF 'gannetlaw25.StateNames'. -/
def stateNamesUptoCard : Claim7 := { stood := { row := stateNamesUptoRow, standIns := [], harness := (true, "6f348776afbdc2a4847b694303ab2fe4bda5fc46fbfdb7b259391b02d4c878aa"), looks := false }, kinds := [], alts := [], laidByText := true, laidKinds := [.data, .pinned], laidTests := true, laidLooks := .later }
def StateNamesUptoCardSaid : Prop := Claim7.holds Tryd.pinned (.plain (OpenSpec.upto stateNamesSpec)) stateNamesUptoCard

/-- THE SECOND FORM's CARD OF 'gannetlaw25.StateSets'. -/
def stateSetsUptoCard : Claim7 := { stood := { row := stateSetsUptoRow, standIns := [], harness := (true, "6f348776afbdc2a4847b694303ab2fe4bda5fc46fbfdb7b259391b02d4c878aa"), looks := false }, kinds := [], alts := [], laidByText := true, laidKinds := [.data, .pinned], laidTests := true, laidLooks := .later }
def StateSetsUptoCardSaid : Prop := Claim7.holds Tryd.pinned (.plain (OpenSpec.upto stateSetsSpec)) stateSetsUptoCard

/-- THE SECOND FORM's CARD OF 'gannetlaw25.StateBytes'. -/
def stateBytesUptoCard : Claim7 := { stood := { row := stateBytesUptoRow, standIns := [], harness := (true, "6f348776afbdc2a4847b694303ab2fe4bda5fc46fbfdb7b259391b02d4c878aa"), looks := false }, kinds := [], alts := [], laidByText := true, laidKinds := [.data, .pinned], laidTests := true, laidLooks := .later }
def StateBytesUptoCardSaid : Prop := Claim7.holds Tryd.pinned (.plain (OpenSpec.upto stateBytesSpec)) stateBytesUptoCard
end Rows
end Go.Proofs.YtelmkpcocaogjaaDoor
