/-
  DERIVED. GIVEN WITH THE SEED: THE CARDS: each row of YtdjjmmndfbffcaaDoorRows.lean that lists a variable, with what it lists TIED to the program's text (the seventh form; the later family's looks); each row that meets fmt, with fmt's text TOLD by the authors' own Lean function (tested against real Go, not proved from fmt's source: count such statements apart). THE CARD IS WHAT COUNTS. Prove the row's statement (the work); the ties are given (YtdjjmmndfbffcaaDoorTie.lean); close each card by the builder's one call (the guide's Derived/Test/ToyasCard.lean, 'card_holds'). Laid BY PROGRAM, IN A SANDBOX (cutbox-door.mjs). By AI agents, Wed Nov 11 2026. No macro, syntax, notation, axiom, sorry.
-/
import Derived.Test.YtdjjmmndfbffcaaDoorRows
import GoSem.ClaimSeven
namespace Go.Proofs.YtdjjmmndfbffcaaDoor
namespace Rows

/-- THE TIED CARD OF 'bedrocklaw22.FreemapLeast'. -/
def freemapLeastCard : Claim7 := { stood := { row := freemapLeastRow, standIns := [], harness := (true, "ceab420cb252011f07ca4817124ac2c2efd64612e1e851970cc14fa303fe2b8e"), looks := false }, kinds := [], alts := [], laidByText := true, laidKinds := [.data], laidTests := true, laidLooks := .later }
def FreemapLeastCardSaid : Prop := Claim7.holds Tryd.pinned (.plain (OpenSpec.ofChange freemapLeastSpec)) freemapLeastCard

/-- THE TIED CARD OF 'bedrocklaw22.FreemapAdds'. -/
def freemapAddsCard : Claim7 := { stood := { row := freemapAddsRow, standIns := [], harness := (true, "ceab420cb252011f07ca4817124ac2c2efd64612e1e851970cc14fa303fe2b8e"), looks := false }, kinds := [], alts := [], laidByText := true, laidKinds := [.data], laidTests := true, laidLooks := .later }
def FreemapAddsCardSaid : Prop := Claim7.holds Tryd.pinned (.plain (OpenSpec.ofChange freemapAddsSpec)) freemapAddsCard

/-- THE TIED CARD OF 'bedrocklaw22.FreemapPlays'. -/
def freemapPlaysCard : Claim7 := { stood := { row := freemapPlaysRow, standIns := [], harness := (true, "ceab420cb252011f07ca4817124ac2c2efd64612e1e851970cc14fa303fe2b8e"), looks := false }, kinds := [], alts := [], laidByText := true, laidKinds := [.data], laidTests := true, laidLooks := .later }
def FreemapPlaysCardSaid : Prop := Claim7.holds Tryd.pinned (.plain (OpenSpec.ofChange freemapPlaysSpec)) freemapPlaysCard

/-- THE TIED CARD OF 'bedrocklaw22.FreemapLeads'. -/
def freemapLeadsCard : Claim7 := { stood := { row := freemapLeadsRow, standIns := [], harness := (true, "ceab420cb252011f07ca4817124ac2c2efd64612e1e851970cc14fa303fe2b8e"), looks := false }, kinds := [], alts := [], laidByText := true, laidKinds := [.data, .data], laidTests := true, laidLooks := .later }
def FreemapLeadsCardSaid : Prop := Claim7.holds Tryd.pinned (.plain (OpenSpec.ofChange freemapLeadsSpec)) freemapLeadsCard

/-- THE TIED CARD OF 'bedrocklaw22.FreemapHomes'. -/
def freemapHomesCard : Claim7 := { stood := { row := freemapHomesRow, standIns := [], harness := (true, "ceab420cb252011f07ca4817124ac2c2efd64612e1e851970cc14fa303fe2b8e"), looks := false }, kinds := [], alts := [], laidByText := true, laidKinds := [.data, .data], laidTests := true, laidLooks := .later }
def FreemapHomesCardSaid : Prop := Claim7.holds Tryd.pinned (.plain (OpenSpec.ofChange freemapHomesSpec)) freemapHomesCard

/-- THE TIED CARD OF 'bedrocklaw22.FreemapBack'. -/
def freemapBackCard : Claim7 := { stood := { row := freemapBackRow, standIns := [], harness := (true, "ceab420cb252011f07ca4817124ac2c2efd64612e1e851970cc14fa303fe2b8e"), looks := false }, kinds := [], alts := [], laidByText := true, laidKinds := [.data, .data], laidTests := true, laidLooks := .later }
def FreemapBackCardSaid : Prop := Claim7.holds Tryd.pinned (.plain (OpenSpec.ofChange freemapBackSpec)) freemapBackCard

/-- THE TIED CARD OF 'bedrocklaw22.FreemapTurned'. -/
def freemapTurnedCard : Claim7 := { stood := { row := freemapTurnedRow, standIns := [], harness := (true, "ceab420cb252011f07ca4817124ac2c2efd64612e1e851970cc14fa303fe2b8e"), looks := false }, kinds := [], alts := [], laidByText := true, laidKinds := [.data, .data], laidTests := true, laidLooks := .later }
def FreemapTurnedCardSaid : Prop := Claim7.holds Tryd.pinned (.plain (OpenSpec.ofChange freemapTurnedSpec)) freemapTurnedCard

/-- THE TIED CARD OF 'bedrocklaw22.FreemapKnown'. -/
def freemapKnownCard : Claim7 := { stood := { row := freemapKnownRow, standIns := [], harness := (true, "ceab420cb252011f07ca4817124ac2c2efd64612e1e851970cc14fa303fe2b8e"), looks := false }, kinds := [], alts := [], laidByText := true, laidKinds := [.data, .data], laidTests := true, laidLooks := .later }
def FreemapKnownCardSaid : Prop := Claim7.holds Tryd.pinned (.plain (OpenSpec.ofChange freemapKnownSpec)) freemapKnownCard

/-- THE SECOND FORM's CARD OF 'bedrocklaw22.FreemapLeast'. -/
def freemapLeastUptoCard : Claim7 := { stood := { row := freemapLeastUptoRow, standIns := [], harness := (true, "ceab420cb252011f07ca4817124ac2c2efd64612e1e851970cc14fa303fe2b8e"), looks := false }, kinds := [], alts := [], laidByText := true, laidKinds := [.data], laidTests := true, laidLooks := .later }
def FreemapLeastUptoCardSaid : Prop := Claim7.holds Tryd.pinned (.plain (OpenSpec.upto freemapLeastSpec)) freemapLeastUptoCard

/-- THE SECOND FORM's CARD OF 'bedrocklaw22.FreemapAdds'. -/
def freemapAddsUptoCard : Claim7 := { stood := { row := freemapAddsUptoRow, standIns := [], harness := (true, "ceab420cb252011f07ca4817124ac2c2efd64612e1e851970cc14fa303fe2b8e"), looks := false }, kinds := [], alts := [], laidByText := true, laidKinds := [.data], laidTests := true, laidLooks := .later }
def FreemapAddsUptoCardSaid : Prop := Claim7.holds Tryd.pinned (.plain (OpenSpec.upto freemapAddsSpec)) freemapAddsUptoCard

/-- THE SECOND FORM's CARD OF 'bedrocklaw22.FreemapPlays'. -/
def freemapPlaysUptoCard : Claim7 := { stood := { row := freemapPlaysUptoRow, standIns := [], harness := (true, "ceab420cb252011f07ca4817124ac2c2efd64612e1e851970cc14fa303fe2b8e"), looks := false }, kinds := [], alts := [], laidByText := true, laidKinds := [.data], laidTests := true, laidLooks := .later }
def FreemapPlaysUptoCardSaid : Prop := Claim7.holds Tryd.pinned (.plain (OpenSpec.upto freemapPlaysSpec)) freemapPlaysUptoCard

/-- THE SECOND FORM's CARD OF 'bedrocklaw22.FreemapLeads'. -/
def freemapLeadsUptoCard : Claim7 := { stood := { row := freemapLeadsUptoRow, standIns := [], harness := (true, "ceab420cb252011f07ca4817124ac2c2efd64612e1e851970cc14fa303fe2b8e"), looks := false }, kinds := [], alts := [], laidByText := true, laidKinds := [.data, .data], laidTests := true, laidLooks := .later }
def FreemapLeadsUptoCardSaid : Prop := Claim7.holds Tryd.pinned (.plain (OpenSpec.upto freemapLeadsSpec)) freemapLeadsUptoCard

/-- THE SECOND FORM's CARD OF 'bedrocklaw22.FreemapHomes'. -/
def freemapHomesUptoCard : Claim7 := { stood := { row := freemapHomesUptoRow, standIns := [], harness := (true, "ceab420cb252011f07ca4817124ac2c2efd64612e1e851970cc14fa303fe2b8e"), looks := false }, kinds := [], alts := [], laidByText := true, laidKinds := [.data, .data], laidTests := true, laidLooks := .later }
def FreemapHomesUptoCardSaid : Prop := Claim7.holds Tryd.pinned (.plain (OpenSpec.upto freemapHomesSpec)) freemapHomesUptoCard

/-- THE SECOND FORM's CARD OF 'bedrocklaw22.FreemapBack'. -/
def freemapBackUptoCard : Claim7 := { stood := { row := freemapBackUptoRow, standIns := [], harness := (true, "ceab420cb252011f07ca4817124ac2c2efd64612e1e851970cc14fa303fe2b8e"), looks := false }, kinds := [], alts := [], laidByText := true, laidKinds := [.data, .data], laidTests := true, laidLooks := .later }
def FreemapBackUptoCardSaid : Prop := Claim7.holds Tryd.pinned (.plain (OpenSpec.upto freemapBackSpec)) freemapBackUptoCard

/-- THE SECOND FORM's CARD OF 'bedrocklaw22.FreemapTurned'. -/
def freemapTurnedUptoCard : Claim7 := { stood := { row := freemapTurnedUptoRow, standIns := [], harness := (true, "ceab420cb252011f07ca4817124ac2c2efd64612e1e851970cc14fa303fe2b8e"), looks := false }, kinds := [], alts := [], laidByText := true, laidKinds := [.data, .data], laidTests := true, laidLooks := .later }
def FreemapTurnedUptoCardSaid : Prop := Claim7.holds Tryd.pinned (.plain (OpenSpec.upto freemapTurnedSpec)) freemapTurnedUptoCard

/-- THE SECOND FORM's CARD OF 'bedrocklaw22.FreemapKnown'. -/
def freemapKnownUptoCard : Claim7 := { stood := { row := freemapKnownUptoRow, standIns := [], harness := (true, "ceab420cb252011f07ca4817124ac2c2efd64612e1e851970cc14fa303fe2b8e"), looks := false }, kinds := [], alts := [], laidByText := true, laidKinds := [.data, .data], laidTests := true, laidLooks := .later }
def FreemapKnownUptoCardSaid : Prop := Claim7.holds Tryd.pinned (.plain (OpenSpec.upto freemapKnownSpec)) freemapKnownUptoCard
end Rows
end Go.Proofs.YtdjjmmndfbffcaaDoor
