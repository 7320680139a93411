/-
  DERIVED. GIVEN WITH THE SEED: THE CARDS: each row of YtjpjalmilfgckaaGreatDoorRows.lean that lists a variable, with what it lists TIED to the program's text (the seventh form; the later family's looks); each row that meets fmt, with fmt's text TOLD by the authors' own Lean function (tested against real Go, not proved from fmt's source: count such statements apart). THE CARD IS WHAT COUNTS. Prove the row's statement (the work); the ties are given (YtjpjalmilfgckaaGreatDoorTie.lean); close each card by the builder's one call (the guide's Derived/Test/ToyasCard.lean, 'card_holds'). Laid BY PROGRAM, IN A SANDBOX (cutbox-door.mjs). By AI agents, Wed Nov 11 2026. No macro, syntax, notation, axiom, sorry.
-/
import Derived.Test.YtjpjalmilfgckaaGreatDoorRows
import GoSem.ClaimSeven
namespace Go.Proofs.YtjpjalmilfgckaaGreatDoor
namespace Rows

/-- THE TIED CARD OF 'millstreamlaw17.BatchKnown'. -/
def batchKnownCard : Claim7 := { stood := { row := batchKnownRow, standIns := [], harness := (true, "d6a7bc4e17e63292f393ff2a154ec722f2a9c0c1b026a256c1924867a57f4e62"), looks := true }, kinds := [], alts := [], laidByText := true, laidKinds := [.data, .data, .data, .data, .data, .sentinel, .sentinel, .pinned], laidTests := true, laidLooks := .later }
def BatchKnownCardSaid : Prop := Claim7.holds Tryz.pinned (.plain (OpenSpec.ofChange batchKnownSpec)) batchKnownCard

/-- THE TIED CARD OF 'millstreamlaw28.ImageWrites'. -/
def imageWritesCard : Claim7 := { stood := { row := imageWritesRow, standIns := [], harness := (true, "d6a7bc4e17e63292f393ff2a154ec722f2a9c0c1b026a256c1924867a57f4e62"), looks := true }, kinds := [], alts := [], laidByText := true, laidKinds := [.data, .data, .data, .data, .data, .handle, .sentinel, .sentinel, .pinned], laidTests := true, laidLooks := .later }
def ImageWritesCardSaid : Prop := Claim7.holds Tryz.pinned (.plain (OpenSpec.ofChange imageWritesSpec)) imageWritesCard

/-- THE TIED CARD OF 'millstreamlaw28.ImageBack'. -/
def imageBackCard : Claim7 := { stood := { row := imageBackRow, standIns := [], harness := (true, "d6a7bc4e17e63292f393ff2a154ec722f2a9c0c1b026a256c1924867a57f4e62"), looks := true }, kinds := [], alts := [], laidByText := true, laidKinds := [.data, .data, .data, .data, .data, .handle, .sentinel, .sentinel, .pinned], laidTests := true, laidLooks := .later }
def ImageBackCardSaid : Prop := Claim7.holds Tryz.pinned (.plain (OpenSpec.ofChange imageBackSpec)) imageBackCard

/-- THE TIED CARD OF 'millstreamlaw28.ImageOnly'. -/
def imageOnlyCard : Claim7 := { stood := { row := imageOnlyRow, standIns := [], harness := (true, "d6a7bc4e17e63292f393ff2a154ec722f2a9c0c1b026a256c1924867a57f4e62"), looks := true }, kinds := [], alts := [], laidByText := true, laidKinds := [.data, .data, .data, .data, .data, .handle, .sentinel, .sentinel, .pinned], laidTests := true, laidLooks := .later }
def ImageOnlyCardSaid : Prop := Claim7.holds Tryz.pinned (.plain (OpenSpec.ofChange imageOnlySpec)) imageOnlyCard

/-- THE TIED CARD OF 'millstreamlaw28.ImageSpoilt'. -/
def imageSpoiltCard : Claim7 := { stood := { row := imageSpoiltRow, standIns := [], harness := (true, "d6a7bc4e17e63292f393ff2a154ec722f2a9c0c1b026a256c1924867a57f4e62"), looks := true }, kinds := [], alts := [], laidByText := true, laidKinds := [.data, .data, .data, .data, .data, .handle, .sentinel, .sentinel, .pinned], laidTests := true, laidLooks := .later }
def ImageSpoiltCardSaid : Prop := Claim7.holds Tryz.pinned (.plain (OpenSpec.ofChange imageSpoiltSpec)) imageSpoiltCard

/-- THE TIED CARD OF 'millstreamlaw28.ImageApart'. -/
def imageApartCard : Claim7 := { stood := { row := imageApartRow, standIns := [], harness := (true, "d6a7bc4e17e63292f393ff2a154ec722f2a9c0c1b026a256c1924867a57f4e62"), looks := true }, kinds := [], alts := [], laidByText := true, laidKinds := [.data, .data, .data, .data, .data, .handle, .sentinel, .sentinel, .pinned], laidTests := true, laidLooks := .later }
def ImageApartCardSaid : Prop := Claim7.holds Tryz.pinned (.plain (OpenSpec.ofChange imageApartSpec)) imageApartCard

/-- THE SECOND FORM's CARD OF 'millstreamlaw17.BatchKnown'. -/
def batchKnownUptoCard : Claim7 := { stood := { row := batchKnownUptoRow, standIns := [], harness := (true, "d6a7bc4e17e63292f393ff2a154ec722f2a9c0c1b026a256c1924867a57f4e62"), looks := true }, kinds := [], alts := [], laidByText := true, laidKinds := [.data, .data, .data, .data, .data, .sentinel, .sentinel, .pinned], laidTests := true, laidLooks := .later }
def BatchKnownUptoCardSaid : Prop := Claim7.holds Tryz.pinned (.plain (OpenSpec.upto batchKnownSpec)) batchKnownUptoCard

/-- THE SECOND FORM's CARD OF 'millstreamlaw28.ImageWrites'. -/
def imageWritesUptoCard : Claim7 := { stood := { row := imageWritesUptoRow, standIns := [], harness := (true, "d6a7bc4e17e63292f393ff2a154ec722f2a9c0c1b026a256c1924867a57f4e62"), looks := true }, kinds := [], alts := [], laidByText := true, laidKinds := [.data, .data, .data, .data, .data, .handle, .sentinel, .sentinel, .pinned], laidTests := true, laidLooks := .later }
def ImageWritesUptoCardSaid : Prop := Claim7.holds Tryz.pinned (.plain (OpenSpec.upto imageWritesSpec)) imageWritesUptoCard

/-- THE SECOND FORM's CARD OF 'millstreamlaw28.ImageBack'. -/
def imageBackUptoCard : Claim7 := { stood := { row := imageBackUptoRow, standIns := [], harness := (true, "d6a7bc4e17e63292f393ff2a154ec722f2a9c0c1b026a256c1924867a57f4e62"), looks := true }, kinds := [], alts := [], laidByText := true, laidKinds := [.data, .data, .data, .data, .data, .handle, .sentinel, .sentinel, .pinned], laidTests := true, laidLooks := .later }
def ImageBackUptoCardSaid : Prop := Claim7.holds Tryz.pinned (.plain (OpenSpec.upto imageBackSpec)) imageBackUptoCard

/-- THE SECOND FORM's CARD OF 'millstreamlaw28.ImageOnly'. -/
def imageOnlyUptoCard : Claim7 := { stood := { row := imageOnlyUptoRow, standIns := [], harness := (true, "d6a7bc4e17e63292f393ff2a154ec722f2a9c0c1b026a256c1924867a57f4e62"), looks := true }, kinds := [], alts := [], laidByText := true, laidKinds := [.data, .data, .data, .data, .data, .handle, .sentinel, .sentinel, .pinned], laidTests := true, laidLooks := .later }
def ImageOnlyUptoCardSaid : Prop := Claim7.holds Tryz.pinned (.plain (OpenSpec.upto imageOnlySpec)) imageOnlyUptoCard

/-- THE SECOND FORM's CARD OF 'millstreamlaw28.ImageSpoilt'. -/
def imageSpoiltUptoCard : Claim7 := { stood := { row := imageSpoiltUptoRow, standIns := [], harness := (true, "d6a7bc4e17e63292f393ff2a154ec722f2a9c0c1b026a256c1924867a57f4e62"), looks := true }, kinds := [], alts := [], laidByText := true, laidKinds := [.data, .data, .data, .data, .data, .handle, .sentinel, .sentinel, .pinned], laidTests := true, laidLooks := .later }
def ImageSpoiltUptoCardSaid : Prop := Claim7.holds Tryz.pinned (.plain (OpenSpec.upto imageSpoiltSpec)) imageSpoiltUptoCard

/-- THE SECOND FORM's CARD OF 'millstreamlaw28.ImageApart'. -/
def imageApartUptoCard : Claim7 := { stood := { row := imageApartUptoRow, standIns := [], harness := (true, "d6a7bc4e17e63292f393ff2a154ec722f2a9c0c1b026a256c1924867a57f4e62"), looks := true }, kinds := [], alts := [], laidByText := true, laidKinds := [.data, .data, .data, .data, .data, .handle, .sentinel, .sentinel, .pinned], laidTests := true, laidLooks := .later }
def ImageApartUptoCardSaid : Prop := Claim7.holds Tryz.pinned (.plain (OpenSpec.upto imageApartSpec)) imageApartUptoCard
end Rows
end Go.Proofs.YtjpjalmilfgckaaGreatDoor
