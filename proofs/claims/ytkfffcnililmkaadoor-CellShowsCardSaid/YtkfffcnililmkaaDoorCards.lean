/-
  DERIVED. GIVEN WITH THE SEED: THE CARDS: each row of YtkfffcnililmkaaDoorRows.lean that lists a variable, with what it lists TIED to the program's text (the seventh form; the later family's looks); each row that meets fmt, with fmt's text TOLD by the authors' own Lean function (tested against real Go, not proved from fmt's source: count such statements apart). THE CARD IS WHAT COUNTS. Prove the row's statement (the work); the ties are given (YtkfffcnililmkaaDoorTie.lean); close each card by the builder's one call (the guide's Derived/Test/ToyasCard.lean, 'card_holds'). Laid BY PROGRAM, IN A SANDBOX (cutbox-door.mjs). By AI agents, Wed Nov 11 2026. No macro, syntax, notation, axiom, sorry.
-/
import Derived.Test.YtkfffcnililmkaaDoorRows
import GoSem.ClaimSeven
namespace Go.Proofs.YtkfffcnililmkaaDoor
namespace Rows

/-- THE TIED CARD OF 'peristylelaw06.CellTotal'. -/
def cellTotalCard : Claim7 := { stood := { row := cellTotalRow, standIns := [], harness := (true, "2fe5e0339f2c70901d805d71c27b95427842bc738a31c7abe13e8f3c483ec67f"), looks := true }, kinds := [], alts := [], laidByText := true, laidKinds := [.data, .data, .data, .data, .sentinel, .sentinel, .pinned], laidTests := true, laidLooks := .later }
def CellTotalCardSaid : Prop := Claim7.holds Tryd.pinned (.plain (OpenSpec.ofChange cellTotalSpec)) cellTotalCard

/-- THE TIED CARD OF 'peristylelaw06.CellBytes'. -/
def cellBytesCard : Claim7 := { stood := { row := cellBytesRow, standIns := [], harness := (true, "2fe5e0339f2c70901d805d71c27b95427842bc738a31c7abe13e8f3c483ec67f"), looks := true }, kinds := [], alts := [], laidByText := true, laidKinds := [.data, .data, .data, .data, .sentinel, .sentinel, .pinned], laidTests := true, laidLooks := .later }
def CellBytesCardSaid : Prop := Claim7.holds Tryd.pinned (.plain (OpenSpec.ofChange cellBytesSpec)) cellBytesCard

/-- THE TIED CARD OF 'peristylelaw06.CellShows'. -/
def cellShowsCard : Claim7 := { stood := { row := cellShowsRow, standIns := [], harness := (true, "2fe5e0339f2c70901d805d71c27b95427842bc738a31c7abe13e8f3c483ec67f"), looks := true }, kinds := [], alts := [], laidByText := true, laidKinds := [.data, .data, .data, .data, .sentinel, .sentinel, .pinned], laidTests := true, laidLooks := .later }
def CellShowsCardSaid : Prop := Claim7.holds Tryd.pinned (.plain (OpenSpec.ofChange cellShowsSpec)) cellShowsCard

/-- THE TIED CARD OF 'peristylelaw06.CellFits'. -/
def cellFitsCard : Claim7 := { stood := { row := cellFitsRow, standIns := [], harness := (true, "2fe5e0339f2c70901d805d71c27b95427842bc738a31c7abe13e8f3c483ec67f"), looks := true }, kinds := [], alts := [], laidByText := true, laidKinds := [.data, .data, .data, .data, .sentinel, .sentinel, .pinned], laidTests := true, laidLooks := .later }
def CellFitsCardSaid : Prop := Claim7.holds Tryd.pinned (.plain (OpenSpec.ofChange cellFitsSpec)) cellFitsCard

/-- THE SECOND FORM's CARD OF 'peristylelaw06.CellTotal'. -/
def cellTotalUptoCard : Claim7 := { stood := { row := cellTotalUptoRow, standIns := [], harness := (true, "2fe5e0339f2c70901d805d71c27b95427842bc738a31c7abe13e8f3c483ec67f"), looks := true }, kinds := [], alts := [], laidByText := true, laidKinds := [.data, .data, .data, .data, .sentinel, .sentinel, .pinned], laidTests := true, laidLooks := .later }
def CellTotalUptoCardSaid : Prop := Claim7.holds Tryd.pinned (.plain (OpenSpec.upto cellTotalSpec)) cellTotalUptoCard

/-- THE SECOND FORM's CARD OF 'peristylelaw06.CellBytes'. -/
def cellBytesUptoCard : Claim7 := { stood := { row := cellBytesUptoRow, standIns := [], harness := (true, "2fe5e0339f2c70901d805d71c27b95427842bc738a31c7abe13e8f3c483ec67f"), looks := true }, kinds := [], alts := [], laidByText := true, laidKinds := [.data, .data, .data, .data, .sentinel, .sentinel, .pinned], laidTests := true, laidLooks := .later }
def CellBytesUptoCardSaid : Prop := Claim7.holds Tryd.pinned (.plain (OpenSpec.upto cellBytesSpec)) cellBytesUptoCard

/-- THE SECOND FORM's CARD OF 'peristylelaw06.CellShows'. -/
def cellShowsUptoCard : Claim7 := { stood := { row := cellShowsUptoRow, standIns := [], harness := (true, "2fe5e0339f2c70901d805d71c27b95427842bc738a31c7abe13e8f3c483ec67f"), looks := true }, kinds := [], alts := [], laidByText := true, laidKinds := [.data, .data, .data, .data, .sentinel, .sentinel, .pinned], laidTests := true, laidLooks := .later }
def CellShowsUptoCardSaid : Prop := Claim7.holds Tryd.pinned (.plain (OpenSpec.upto cellShowsSpec)) cellShowsUptoCard

/-- THE SECOND FORM's CARD OF 'peristylelaw06.CellFits'. -/
def cellFitsUptoCard : Claim7 := { stood := { row := cellFitsUptoRow, standIns := [], harness := (true, "2fe5e0339f2c70901d805d71c27b95427842bc738a31c7abe13e8f3c483ec67f"), looks := true }, kinds := [], alts := [], laidByText := true, laidKinds := [.data, .data, .data, .data, .sentinel, .sentinel, .pinned], laidTests := true, laidLooks := .later }
def CellFitsUptoCardSaid : Prop := Claim7.holds Tryd.pinned (.plain (OpenSpec.upto cellFitsSpec)) cellFitsUptoCard
end Rows
end Go.Proofs.YtkfffcnililmkaaDoor
