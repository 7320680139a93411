/-
  DERIVED. GIVEN WITH THE SEED: THE CARDS: each row of YtfgpbnfobpfacaaGreatDoorRows.lean that lists a variable, with what it lists TIED to the program's text (the seventh form; the later family's looks); each row that meets fmt, with fmt's text TOLD by the authors' own Lean function (tested against real Go, not proved from fmt's source: count such statements apart). THE CARD IS WHAT COUNTS. Prove the row's statement (the work); the ties are given (YtfgpbnfobpfacaaGreatDoorTie.lean); close each card by the builder's one call (the guide's Derived/Test/ToyasCard.lean, 'card_holds'). Laid BY PROGRAM, IN A SANDBOX (cutbox-door.mjs). By AI agents, Wed Nov 11 2026. No macro, syntax, notation, axiom, sorry.
-/
import Derived.Test.YtfgpbnfobpfacaaGreatDoorRows
import GoSem.ClaimSeven
namespace Go.Proofs.YtfgpbnfobpfacaaGreatDoor
namespace Rows

/-- THE TIED CARD OF 'millstreamlaw16.ColPuts'. -/
def colPutsCard : Claim7 := { stood := { row := colPutsRow, standIns := [], harness := (true, "06a23b57818de85bad6c2d2bf4426435be8c53077fae0547bd3e0d170f6ca6cb"), looks := true }, kinds := [], alts := [], laidByText := true, laidKinds := [.data, .data, .data, .data, .sentinel, .sentinel, .pinned], laidTests := true, laidLooks := .later }
def ColPutsCardSaid : Prop := Claim7.holds Tryz.pinned (.plain (OpenSpec.ofChange colPutsSpec)) colPutsCard

/-- THE TIED CARD OF 'millstreamlaw16.ColGets'. -/
def colGetsCard : Claim7 := { stood := { row := colGetsRow, standIns := [], harness := (true, "06a23b57818de85bad6c2d2bf4426435be8c53077fae0547bd3e0d170f6ca6cb"), looks := true }, kinds := [], alts := [], laidByText := true, laidKinds := [.data, .data, .data, .data, .sentinel, .sentinel, .pinned], laidTests := true, laidLooks := .later }
def ColGetsCardSaid : Prop := Claim7.holds Tryz.pinned (.plain (OpenSpec.ofChange colGetsSpec)) colGetsCard

/-- THE TIED CARD OF 'millstreamlaw16.ColBack'. -/
def colBackCard : Claim7 := { stood := { row := colBackRow, standIns := [], harness := (true, "06a23b57818de85bad6c2d2bf4426435be8c53077fae0547bd3e0d170f6ca6cb"), looks := true }, kinds := [], alts := [], laidByText := true, laidKinds := [.data, .data, .data, .data, .sentinel, .sentinel, .pinned], laidTests := true, laidLooks := .later }
def ColBackCardSaid : Prop := Claim7.holds Tryz.pinned (.plain (OpenSpec.ofChange colBackSpec)) colBackCard

/-- THE TIED CARD OF 'millstreamlaw16.ColOnly'. -/
def colOnlyCard : Claim7 := { stood := { row := colOnlyRow, standIns := [], harness := (true, "06a23b57818de85bad6c2d2bf4426435be8c53077fae0547bd3e0d170f6ca6cb"), looks := true }, kinds := [], alts := [], laidByText := true, laidKinds := [.data, .data, .data, .data, .sentinel, .sentinel, .pinned], laidTests := true, laidLooks := .later }
def ColOnlyCardSaid : Prop := Claim7.holds Tryz.pinned (.plain (OpenSpec.ofChange colOnlySpec)) colOnlyCard

/-- THE TIED CARD OF 'millstreamlaw16.ColNulls'. -/
def colNullsCard : Claim7 := { stood := { row := colNullsRow, standIns := [], harness := (true, "06a23b57818de85bad6c2d2bf4426435be8c53077fae0547bd3e0d170f6ca6cb"), looks := true }, kinds := [], alts := [], laidByText := true, laidKinds := [.data, .data, .data, .data, .sentinel, .sentinel, .pinned], laidTests := true, laidLooks := .later }
def ColNullsCardSaid : Prop := Claim7.holds Tryz.pinned (.plain (OpenSpec.ofChange colNullsSpec)) colNullsCard

/-- THE TIED CARD OF 'millstreamlaw16.ColWider'. -/
def colWiderCard : Claim7 := { stood := { row := colWiderRow, standIns := [], harness := (true, "06a23b57818de85bad6c2d2bf4426435be8c53077fae0547bd3e0d170f6ca6cb"), looks := true }, kinds := [], alts := [], laidByText := true, laidKinds := [.data, .data, .data, .data, .sentinel, .sentinel, .pinned], laidTests := true, laidLooks := .later }
def ColWiderCardSaid : Prop := Claim7.holds Tryz.pinned (.plain (OpenSpec.ofChange colWiderSpec)) colWiderCard

/-- THE TIED CARD OF 'millstreamlaw16.ColCut'. -/
def colCutCard : Claim7 := { stood := { row := colCutRow, standIns := [], harness := (true, "06a23b57818de85bad6c2d2bf4426435be8c53077fae0547bd3e0d170f6ca6cb"), looks := true }, kinds := [], alts := [], laidByText := true, laidKinds := [.data, .data, .data, .data, .sentinel, .sentinel, .pinned], laidTests := true, laidLooks := .later }
def ColCutCardSaid : Prop := Claim7.holds Tryz.pinned (.plain (OpenSpec.ofChange colCutSpec)) colCutCard

/-- THE TIED CARD OF 'millstreamlaw16.ColKnown'. -/
def colKnownCard : Claim7 := { stood := { row := colKnownRow, standIns := [], harness := (true, "06a23b57818de85bad6c2d2bf4426435be8c53077fae0547bd3e0d170f6ca6cb"), looks := true }, kinds := [], alts := [], laidByText := true, laidKinds := [.data, .data, .data, .data, .sentinel, .sentinel, .pinned], laidTests := true, laidLooks := .later }
def ColKnownCardSaid : Prop := Claim7.holds Tryz.pinned (.plain (OpenSpec.ofChange colKnownSpec)) colKnownCard

/-- THE SECOND FORM's CARD OF 'millstreamlaw16.ColPuts'. -/
def colPutsUptoCard : Claim7 := { stood := { row := colPutsUptoRow, standIns := [], harness := (true, "06a23b57818de85bad6c2d2bf4426435be8c53077fae0547bd3e0d170f6ca6cb"), looks := true }, kinds := [], alts := [], laidByText := true, laidKinds := [.data, .data, .data, .data, .sentinel, .sentinel, .pinned], laidTests := true, laidLooks := .later }
def ColPutsUptoCardSaid : Prop := Claim7.holds Tryz.pinned (.plain (OpenSpec.upto colPutsSpec)) colPutsUptoCard

/-- THE SECOND FORM's CARD OF 'millstreamlaw16.ColGets'. -/
def colGetsUptoCard : Claim7 := { stood := { row := colGetsUptoRow, standIns := [], harness := (true, "06a23b57818de85bad6c2d2bf4426435be8c53077fae0547bd3e0d170f6ca6cb"), looks := true }, kinds := [], alts := [], laidByText := true, laidKinds := [.data, .data, .data, .data, .sentinel, .sentinel, .pinned], laidTests := true, laidLooks := .later }
def ColGetsUptoCardSaid : Prop := Claim7.holds Tryz.pinned (.plain (OpenSpec.upto colGetsSpec)) colGetsUptoCard

/-- THE SECOND FORM's CARD OF 'millstreamlaw16.ColBack'. -/
def colBackUptoCard : Claim7 := { stood := { row := colBackUptoRow, standIns := [], harness := (true, "06a23b57818de85bad6c2d2bf4426435be8c53077fae0547bd3e0d170f6ca6cb"), looks := true }, kinds := [], alts := [], laidByText := true, laidKinds := [.data, .data, .data, .data, .sentinel, .sentinel, .pinned], laidTests := true, laidLooks := .later }
def ColBackUptoCardSaid : Prop := Claim7.holds Tryz.pinned (.plain (OpenSpec.upto colBackSpec)) colBackUptoCard

/-- THE SECOND FORM's CARD OF 'millstreamlaw16.ColOnly'. -/
def colOnlyUptoCard : Claim7 := { stood := { row := colOnlyUptoRow, standIns := [], harness := (true, "06a23b57818de85bad6c2d2bf4426435be8c53077fae0547bd3e0d170f6ca6cb"), looks := true }, kinds := [], alts := [], laidByText := true, laidKinds := [.data, .data, .data, .data, .sentinel, .sentinel, .pinned], laidTests := true, laidLooks := .later }
def ColOnlyUptoCardSaid : Prop := Claim7.holds Tryz.pinned (.plain (OpenSpec.upto colOnlySpec)) colOnlyUptoCard

/-- THE SECOND FORM's CARD OF 'millstreamlaw16.ColNulls'. -/
def colNullsUptoCard : Claim7 := { stood := { row := colNullsUptoRow, standIns := [], harness := (true, "06a23b57818de85bad6c2d2bf4426435be8c53077fae0547bd3e0d170f6ca6cb"), looks := true }, kinds := [], alts := [], laidByText := true, laidKinds := [.data, .data, .data, .data, .sentinel, .sentinel, .pinned], laidTests := true, laidLooks := .later }
def ColNullsUptoCardSaid : Prop := Claim7.holds Tryz.pinned (.plain (OpenSpec.upto colNullsSpec)) colNullsUptoCard

/-- THE SECOND FORM's CARD OF 'millstreamlaw16.ColWider'. -/
def colWiderUptoCard : Claim7 := { stood := { row := colWiderUptoRow, standIns := [], harness := (true, "06a23b57818de85bad6c2d2bf4426435be8c53077fae0547bd3e0d170f6ca6cb"), looks := true }, kinds := [], alts := [], laidByText := true, laidKinds := [.data, .data, .data, .data, .sentinel, .sentinel, .pinned], laidTests := true, laidLooks := .later }
def ColWiderUptoCardSaid : Prop := Claim7.holds Tryz.pinned (.plain (OpenSpec.upto colWiderSpec)) colWiderUptoCard

/-- THE SECOND FORM's CARD OF 'millstreamlaw16.ColCut'. -/
def colCutUptoCard : Claim7 := { stood := { row := colCutUptoRow, standIns := [], harness := (true, "06a23b57818de85bad6c2d2bf4426435be8c53077fae0547bd3e0d170f6ca6cb"), looks := true }, kinds := [], alts := [], laidByText := true, laidKinds := [.data, .data, .data, .data, .sentinel, .sentinel, .pinned], laidTests := true, laidLooks := .later }
def ColCutUptoCardSaid : Prop := Claim7.holds Tryz.pinned (.plain (OpenSpec.upto colCutSpec)) colCutUptoCard

/-- THE SECOND FORM's CARD OF 'millstreamlaw16.ColKnown'. -/
def colKnownUptoCard : Claim7 := { stood := { row := colKnownUptoRow, standIns := [], harness := (true, "06a23b57818de85bad6c2d2bf4426435be8c53077fae0547bd3e0d170f6ca6cb"), looks := true }, kinds := [], alts := [], laidByText := true, laidKinds := [.data, .data, .data, .data, .sentinel, .sentinel, .pinned], laidTests := true, laidLooks := .later }
def ColKnownUptoCardSaid : Prop := Claim7.holds Tryz.pinned (.plain (OpenSpec.upto colKnownSpec)) colKnownUptoCard
end Rows
end Go.Proofs.YtfgpbnfobpfacaaGreatDoor
