/-
  DERIVED. GIVEN WITH THE SEED: THE CARDS: each row of YtegcbjkikhheiaaGreatDoorRows.lean that lists a variable, with what it lists TIED to the program's text (the seventh form; the later family's looks); each row that meets fmt, with fmt's text TOLD by the authors' own Lean function (tested against real Go, not proved from fmt's source: count such statements apart). THE CARD IS WHAT COUNTS. Prove the row's statement (the work); the ties are given (YtegcbjkikhheiaaGreatDoorTie.lean); close each card by the builder's one call (the guide's Derived/Test/ToyasCard.lean, 'card_holds'). Laid BY PROGRAM, IN A SANDBOX (cutbox-door.mjs). By AI agents, Wed Nov 11 2026. No macro, syntax, notation, axiom, sorry.
-/
import Derived.Test.YtegcbjkikhheiaaGreatDoorRows
import GoSem.ClaimSeven
namespace Go.Proofs.YtegcbjkikhheiaaGreatDoor
namespace Rows

/-- THE TIED CARD OF 'millstreamtop.TopCodec'. -/
def topCodecCard : Claim7 := { stood := { row := topCodecRow, standIns := [], harness := (true, "8d025aee32bfac555ec08c03124300f983bc224096d23ab6b136e3384e293c48"), looks := true }, kinds := [], alts := [], laidByText := true, laidKinds := [.data, .data, .data, .data, .data, .sentinel, .sentinel, .pinned], laidTests := true, laidLooks := .later }
def TopCodecCardSaid : Prop := Claim7.holds Tryz.pinned (.plain (OpenSpec.ofChange topCodecSpec)) topCodecCard

/-- THE TIED CARD OF 'millstreamlaw18.GramDoes'. -/
def gramDoesCard : Claim7 := { stood := { row := gramDoesRow, standIns := [], harness := (true, "8d025aee32bfac555ec08c03124300f983bc224096d23ab6b136e3384e293c48"), looks := true }, kinds := [], alts := [], laidByText := true, laidKinds := [.data, .data, .data, .data, .data, .sentinel, .sentinel, .pinned], laidTests := true, laidLooks := .later }
def GramDoesCardSaid : Prop := Claim7.holds Tryz.pinned (.plain (OpenSpec.ofChange gramDoesSpec)) gramDoesCard

/-- THE TIED CARD OF 'millstreamlaw18.GramEncodes'. -/
def gramEncodesCard : Claim7 := { stood := { row := gramEncodesRow, standIns := [], harness := (true, "8d025aee32bfac555ec08c03124300f983bc224096d23ab6b136e3384e293c48"), looks := true }, kinds := [], alts := [], laidByText := true, laidKinds := [.data, .data, .data, .data, .data, .sentinel, .sentinel, .pinned], laidTests := true, laidLooks := .later }
def GramEncodesCardSaid : Prop := Claim7.holds Tryz.pinned (.plain (OpenSpec.ofChange gramEncodesSpec)) gramEncodesCard

/-- THE TIED CARD OF 'millstreamlaw18.GramMore'. -/
def gramMoreCard : Claim7 := { stood := { row := gramMoreRow, standIns := [], harness := (true, "8d025aee32bfac555ec08c03124300f983bc224096d23ab6b136e3384e293c48"), looks := true }, kinds := [], alts := [], laidByText := true, laidKinds := [.data, .data, .data, .data, .data, .sentinel, .sentinel, .pinned], laidTests := true, laidLooks := .later }
def GramMoreCardSaid : Prop := Claim7.holds Tryz.pinned (.plain (OpenSpec.ofChange gramMoreSpec)) gramMoreCard

/-- THE TIED CARD OF 'millstreamlaw18.GramTurned'. -/
def gramTurnedCard : Claim7 := { stood := { row := gramTurnedRow, standIns := [], harness := (true, "8d025aee32bfac555ec08c03124300f983bc224096d23ab6b136e3384e293c48"), looks := true }, kinds := [], alts := [], laidByText := true, laidKinds := [.data, .data, .data, .data, .data, .sentinel, .sentinel, .pinned], laidTests := true, laidLooks := .later }
def GramTurnedCardSaid : Prop := Claim7.holds Tryz.pinned (.plain (OpenSpec.ofChange gramTurnedSpec)) gramTurnedCard

/-- THE TIED CARD OF 'millstreamlaw18.GramOne'. -/
def gramOneCard : Claim7 := { stood := { row := gramOneRow, standIns := [], harness := (true, "8d025aee32bfac555ec08c03124300f983bc224096d23ab6b136e3384e293c48"), looks := true }, kinds := [], alts := [], laidByText := true, laidKinds := [.data, .data, .data, .data, .data, .sentinel, .sentinel, .pinned], laidTests := true, laidLooks := .later }
def GramOneCardSaid : Prop := Claim7.holds Tryz.pinned (.plain (OpenSpec.ofChange gramOneSpec)) gramOneCard

/-- THE TIED CARD OF 'millstreamlaw17.BatchKnown'. -/
def batchKnownCard : Claim7 := { stood := { row := batchKnownRow, standIns := [], harness := (true, "8d025aee32bfac555ec08c03124300f983bc224096d23ab6b136e3384e293c48"), looks := true }, kinds := [], alts := [], laidByText := true, laidKinds := [.data, .data, .data, .data, .data, .sentinel, .sentinel, .pinned], laidTests := true, laidLooks := .later }
def BatchKnownCardSaid : Prop := Claim7.holds Tryz.pinned (.plain (OpenSpec.ofChange batchKnownSpec)) batchKnownCard

/-- THE TIED CARD OF 'millstreamlaw18.GramDecodes'. -/
def gramDecodesCard : Claim7 := { stood := { row := gramDecodesRow, standIns := [], harness := (true, "8d025aee32bfac555ec08c03124300f983bc224096d23ab6b136e3384e293c48"), looks := true }, kinds := [], alts := [], laidByText := true, laidKinds := [.data, .data, .data, .data, .data, .sentinel, .sentinel, .pinned], laidTests := true, laidLooks := .later }
def GramDecodesCardSaid : Prop := Claim7.holds Tryz.pinned (.plain (OpenSpec.ofChange gramDecodesSpec)) gramDecodesCard

/-- THE TIED CARD OF 'millstreamlaw18.GramKnown'. -/
def gramKnownCard : Claim7 := { stood := { row := gramKnownRow, standIns := [], harness := (true, "8d025aee32bfac555ec08c03124300f983bc224096d23ab6b136e3384e293c48"), looks := true }, kinds := [], alts := [], laidByText := true, laidKinds := [.data, .data, .data, .data, .data, .sentinel, .sentinel, .pinned], laidTests := true, laidLooks := .later }
def GramKnownCardSaid : Prop := Claim7.holds Tryz.pinned (.plain (OpenSpec.ofChange gramKnownSpec)) gramKnownCard

/-- THE SECOND FORM's CARD OF 'millstreamtop.TopCodec'. -/
def topCodecUptoCard : Claim7 := { stood := { row := topCodecUptoRow, standIns := [], harness := (true, "8d025aee32bfac555ec08c03124300f983bc224096d23ab6b136e3384e293c48"), looks := true }, kinds := [], alts := [], laidByText := true, laidKinds := [.data, .data, .data, .data, .data, .sentinel, .sentinel, .pinned], laidTests := true, laidLooks := .later }
def TopCodecUptoCardSaid : Prop := Claim7.holds Tryz.pinned (.plain (OpenSpec.upto topCodecSpec)) topCodecUptoCard

/-- THE SECOND FORM's CARD OF 'millstreamlaw18.GramDoes'. -/
def gramDoesUptoCard : Claim7 := { stood := { row := gramDoesUptoRow, standIns := [], harness := (true, "8d025aee32bfac555ec08c03124300f983bc224096d23ab6b136e3384e293c48"), looks := true }, kinds := [], alts := [], laidByText := true, laidKinds := [.data, .data, .data, .data, .data, .sentinel, .sentinel, .pinned], laidTests := true, laidLooks := .later }
def GramDoesUptoCardSaid : Prop := Claim7.holds Tryz.pinned (.plain (OpenSpec.upto gramDoesSpec)) gramDoesUptoCard

/-- THE SECOND FORM's CARD OF 'millstreamlaw18.GramEncodes'. -/
def gramEncodesUptoCard : Claim7 := { stood := { row := gramEncodesUptoRow, standIns := [], harness := (true, "8d025aee32bfac555ec08c03124300f983bc224096d23ab6b136e3384e293c48"), looks := true }, kinds := [], alts := [], laidByText := true, laidKinds := [.data, .data, .data, .data, .data, .sentinel, .sentinel, .pinned], laidTests := true, laidLooks := .later }
def GramEncodesUptoCardSaid : Prop := Claim7.holds Tryz.pinned (.plain (OpenSpec.upto gramEncodesSpec)) gramEncodesUptoCard

/-- THE SECOND FORM's CARD OF 'millstreamlaw18.GramMore'. -/
def gramMoreUptoCard : Claim7 := { stood := { row := gramMoreUptoRow, standIns := [], harness := (true, "8d025aee32bfac555ec08c03124300f983bc224096d23ab6b136e3384e293c48"), looks := true }, kinds := [], alts := [], laidByText := true, laidKinds := [.data, .data, .data, .data, .data, .sentinel, .sentinel, .pinned], laidTests := true, laidLooks := .later }
def GramMoreUptoCardSaid : Prop := Claim7.holds Tryz.pinned (.plain (OpenSpec.upto gramMoreSpec)) gramMoreUptoCard

/-- THE SECOND FORM's CARD OF 'millstreamlaw18.GramTurned'. -/
def gramTurnedUptoCard : Claim7 := { stood := { row := gramTurnedUptoRow, standIns := [], harness := (true, "8d025aee32bfac555ec08c03124300f983bc224096d23ab6b136e3384e293c48"), looks := true }, kinds := [], alts := [], laidByText := true, laidKinds := [.data, .data, .data, .data, .data, .sentinel, .sentinel, .pinned], laidTests := true, laidLooks := .later }
def GramTurnedUptoCardSaid : Prop := Claim7.holds Tryz.pinned (.plain (OpenSpec.upto gramTurnedSpec)) gramTurnedUptoCard

/-- THE SECOND FORM's CARD OF 'millstreamlaw18.GramOne'. -/
def gramOneUptoCard : Claim7 := { stood := { row := gramOneUptoRow, standIns := [], harness := (true, "8d025aee32bfac555ec08c03124300f983bc224096d23ab6b136e3384e293c48"), looks := true }, kinds := [], alts := [], laidByText := true, laidKinds := [.data, .data, .data, .data, .data, .sentinel, .sentinel, .pinned], laidTests := true, laidLooks := .later }
def GramOneUptoCardSaid : Prop := Claim7.holds Tryz.pinned (.plain (OpenSpec.upto gramOneSpec)) gramOneUptoCard

/-- THE SECOND FORM's CARD OF 'millstreamlaw17.BatchKnown'. -/
def batchKnownUptoCard : Claim7 := { stood := { row := batchKnownUptoRow, standIns := [], harness := (true, "8d025aee32bfac555ec08c03124300f983bc224096d23ab6b136e3384e293c48"), looks := true }, kinds := [], alts := [], laidByText := true, laidKinds := [.data, .data, .data, .data, .data, .sentinel, .sentinel, .pinned], laidTests := true, laidLooks := .later }
def BatchKnownUptoCardSaid : Prop := Claim7.holds Tryz.pinned (.plain (OpenSpec.upto batchKnownSpec)) batchKnownUptoCard

/-- THE SECOND FORM's CARD OF 'millstreamlaw18.GramDecodes'. -/
def gramDecodesUptoCard : Claim7 := { stood := { row := gramDecodesUptoRow, standIns := [], harness := (true, "8d025aee32bfac555ec08c03124300f983bc224096d23ab6b136e3384e293c48"), looks := true }, kinds := [], alts := [], laidByText := true, laidKinds := [.data, .data, .data, .data, .data, .sentinel, .sentinel, .pinned], laidTests := true, laidLooks := .later }
def GramDecodesUptoCardSaid : Prop := Claim7.holds Tryz.pinned (.plain (OpenSpec.upto gramDecodesSpec)) gramDecodesUptoCard

/-- THE SECOND FORM's CARD OF 'millstreamlaw18.GramKnown'. -/
def gramKnownUptoCard : Claim7 := { stood := { row := gramKnownUptoRow, standIns := [], harness := (true, "8d025aee32bfac555ec08c03124300f983bc224096d23ab6b136e3384e293c48"), looks := true }, kinds := [], alts := [], laidByText := true, laidKinds := [.data, .data, .data, .data, .data, .sentinel, .sentinel, .pinned], laidTests := true, laidLooks := .later }
def GramKnownUptoCardSaid : Prop := Claim7.holds Tryz.pinned (.plain (OpenSpec.upto gramKnownSpec)) gramKnownUptoCard
end Rows
end Go.Proofs.YtegcbjkikhheiaaGreatDoor
