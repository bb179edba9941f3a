/-
  DERIVED. GIVEN WITH THE SEED: THE CARDS: each row of YteooldbdilkmeaaDoorRows.lean that lists a variable, with what it lists TIED to the program's text (the seventh form; the later family's looks); each row that meets fmt, with fmt's text TOLD by the authors' own Lean function (tested against real Go, not proved from fmt's source: count such statements apart). THE CARD IS WHAT COUNTS. Prove the row's statement (the work); the ties are given (YteooldbdilkmeaaDoorTie.lean); close each card by the builder's one call (the guide's Derived/Test/ToyasCard.lean, 'card_holds'). Laid BY PROGRAM, IN A SANDBOX (cutbox-door.mjs). By AI agents, Wed Nov 11 2026. No macro, syntax, notation, axiom, sorry.
-/
import Derived.Test.YteooldbdilkmeaaDoorRows
import GoSem.ClaimSeven
namespace Go.Proofs.YteooldbdilkmeaaDoor
namespace Rows

/-- THE TIED CARD OF 'bedrocklaw20.SectorLast'. -/
def sectorLastCard : Claim7 := { stood := { row := sectorLastRow, standIns := [], harness := (true, "9e4316157ced788583258a659cb0c59f5a2565d1523e841f320ca1e16936726d"), looks := true }, kinds := [], alts := [], laidByText := true, laidKinds := [.data, .pinned], laidTests := true, laidLooks := .later }
def SectorLastCardSaid : Prop := Claim7.holds Tryd.pinned (.plain (OpenSpec.ofChange sectorLastSpec)) sectorLastCard

/-- THE TIED CARD OF 'bedrocklaw20.SectorRefused'. -/
def sectorRefusedCard : Claim7 := { stood := { row := sectorRefusedRow, standIns := [], harness := (true, "9e4316157ced788583258a659cb0c59f5a2565d1523e841f320ca1e16936726d"), looks := true }, kinds := [], alts := [], laidByText := true, laidKinds := [.data, .pinned], laidTests := true, laidLooks := .later }
def SectorRefusedCardSaid : Prop := Claim7.holds Tryd.pinned (.plain (OpenSpec.ofChange sectorRefusedSpec)) sectorRefusedCard

/-- THE TIED CARD OF 'bedrocklaw20.SectorCuts'. -/
def sectorCutsCard : Claim7 := { stood := { row := sectorCutsRow, standIns := [], harness := (true, "9e4316157ced788583258a659cb0c59f5a2565d1523e841f320ca1e16936726d"), looks := true }, kinds := [], alts := [], laidByText := true, laidKinds := [.data, .pinned], laidTests := true, laidLooks := .later }
def SectorCutsCardSaid : Prop := Claim7.holds Tryd.pinned (.plain (OpenSpec.ofChange sectorCutsSpec)) sectorCutsCard

/-- THE TIED CARD OF 'bedrocklaw20.SectorApart'. -/
def sectorApartCard : Claim7 := { stood := { row := sectorApartRow, standIns := [], harness := (true, "9e4316157ced788583258a659cb0c59f5a2565d1523e841f320ca1e16936726d"), looks := true }, kinds := [], alts := [], laidByText := true, laidKinds := [.data, .pinned], laidTests := true, laidLooks := .later }
def SectorApartCardSaid : Prop := Claim7.holds Tryd.pinned (.plain (OpenSpec.ofChange sectorApartSpec)) sectorApartCard

/-- THE TIED CARD OF 'bedrocklaw20.SectorPlays'. -/
def sectorPlaysCard : Claim7 := { stood := { row := sectorPlaysRow, standIns := [], harness := (true, "9e4316157ced788583258a659cb0c59f5a2565d1523e841f320ca1e16936726d"), looks := true }, kinds := [], alts := [], laidByText := true, laidKinds := [.data, .pinned], laidTests := true, laidLooks := .later }
def SectorPlaysCardSaid : Prop := Claim7.holds Tryd.pinned (.plain (OpenSpec.ofChange sectorPlaysSpec)) sectorPlaysCard

/-- THE TIED CARD OF 'bedrocklaw20.SectorKnown'. -/
def sectorKnownCard : Claim7 := { stood := { row := sectorKnownRow, standIns := [], harness := (true, "9e4316157ced788583258a659cb0c59f5a2565d1523e841f320ca1e16936726d"), looks := true }, kinds := [], alts := [], laidByText := true, laidKinds := [.data, .pinned], laidTests := true, laidLooks := .later }
def SectorKnownCardSaid : Prop := Claim7.holds Tryd.pinned (.plain (OpenSpec.ofChange sectorKnownSpec)) sectorKnownCard

/-- THE SECOND FORM's CARD OF 'bedrocklaw20.SectorLast'. -/
def sectorLastUptoCard : Claim7 := { stood := { row := sectorLastUptoRow, standIns := [], harness := (true, "9e4316157ced788583258a659cb0c59f5a2565d1523e841f320ca1e16936726d"), looks := true }, kinds := [], alts := [], laidByText := true, laidKinds := [.data, .pinned], laidTests := true, laidLooks := .later }
def SectorLastUptoCardSaid : Prop := Claim7.holds Tryd.pinned (.plain (OpenSpec.upto sectorLastSpec)) sectorLastUptoCard

/-- THE SECOND FORM's CARD OF 'bedrocklaw20.SectorRefused'. -/
def sectorRefusedUptoCard : Claim7 := { stood := { row := sectorRefusedUptoRow, standIns := [], harness := (true, "9e4316157ced788583258a659cb0c59f5a2565d1523e841f320ca1e16936726d"), looks := true }, kinds := [], alts := [], laidByText := true, laidKinds := [.data, .pinned], laidTests := true, laidLooks := .later }
def SectorRefusedUptoCardSaid : Prop := Claim7.holds Tryd.pinned (.plain (OpenSpec.upto sectorRefusedSpec)) sectorRefusedUptoCard

/-- THE SECOND FORM's CARD OF 'bedrocklaw20.SectorCuts'. -/
def sectorCutsUptoCard : Claim7 := { stood := { row := sectorCutsUptoRow, standIns := [], harness := (true, "9e4316157ced788583258a659cb0c59f5a2565d1523e841f320ca1e16936726d"), looks := true }, kinds := [], alts := [], laidByText := true, laidKinds := [.data, .pinned], laidTests := true, laidLooks := .later }
def SectorCutsUptoCardSaid : Prop := Claim7.holds Tryd.pinned (.plain (OpenSpec.upto sectorCutsSpec)) sectorCutsUptoCard

/-- THE SECOND FORM's CARD OF 'bedrocklaw20.SectorApart'. -/
def sectorApartUptoCard : Claim7 := { stood := { row := sectorApartUptoRow, standIns := [], harness := (true, "9e4316157ced788583258a659cb0c59f5a2565d1523e841f320ca1e16936726d"), looks := true }, kinds := [], alts := [], laidByText := true, laidKinds := [.data, .pinned], laidTests := true, laidLooks := .later }
def SectorApartUptoCardSaid : Prop := Claim7.holds Tryd.pinned (.plain (OpenSpec.upto sectorApartSpec)) sectorApartUptoCard

/-- THE SECOND FORM's CARD OF 'bedrocklaw20.SectorPlays'. -/
def sectorPlaysUptoCard : Claim7 := { stood := { row := sectorPlaysUptoRow, standIns := [], harness := (true, "9e4316157ced788583258a659cb0c59f5a2565d1523e841f320ca1e16936726d"), looks := true }, kinds := [], alts := [], laidByText := true, laidKinds := [.data, .pinned], laidTests := true, laidLooks := .later }
def SectorPlaysUptoCardSaid : Prop := Claim7.holds Tryd.pinned (.plain (OpenSpec.upto sectorPlaysSpec)) sectorPlaysUptoCard

/-- THE SECOND FORM's CARD OF 'bedrocklaw20.SectorKnown'. -/
def sectorKnownUptoCard : Claim7 := { stood := { row := sectorKnownUptoRow, standIns := [], harness := (true, "9e4316157ced788583258a659cb0c59f5a2565d1523e841f320ca1e16936726d"), looks := true }, kinds := [], alts := [], laidByText := true, laidKinds := [.data, .pinned], laidTests := true, laidLooks := .later }
def SectorKnownUptoCardSaid : Prop := Claim7.holds Tryd.pinned (.plain (OpenSpec.upto sectorKnownSpec)) sectorKnownUptoCard
end Rows
end Go.Proofs.YteooldbdilkmeaaDoor
