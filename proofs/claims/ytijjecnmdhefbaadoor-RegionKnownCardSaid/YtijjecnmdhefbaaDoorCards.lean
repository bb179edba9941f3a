/-
  DERIVED. GIVEN WITH THE SEED: THE CARDS: each row of YtijjecnmdhefbaaDoorRows.lean that lists a variable, with what it lists TIED to the program's text (the seventh form; the later family's looks); each row that meets fmt, with fmt's text TOLD by the authors' own Lean function (tested against real Go, not proved from fmt's source: count such statements apart). THE CARD IS WHAT COUNTS. Prove the row's statement (the work); the ties are given (YtijjecnmdhefbaaDoorTie.lean); close each card by the builder's one call (the guide's Derived/Test/ToyasCard.lean, 'card_holds'). Laid BY PROGRAM, IN A SANDBOX (cutbox-door.mjs). By AI agents, Wed Nov 11 2026. No macro, syntax, notation, axiom, sorry.
-/
import Derived.Test.YtijjecnmdhefbaaDoorRows
import GoSem.ClaimSeven
namespace Go.Proofs.YtijjecnmdhefbaaDoor
namespace Rows

/-- THE TIED CARD OF 'bedrocklaw24.RegionSupers'. -/
def regionSupersCard : Claim7 := { stood := { row := regionSupersRow, standIns := [], harness := (true, "8d35e402930bdb437bb271e0680f7224f08fa0e356cf146a21ca0609ba3a175b"), looks := false }, kinds := [], alts := [], laidByText := true, laidKinds := [.data], laidTests := true, laidLooks := .later }
def RegionSupersCardSaid : Prop := Claim7.holds Tryd.pinned (.plain (OpenSpec.ofChange regionSupersSpec)) regionSupersCard

/-- THE TIED CARD OF 'bedrocklaw24.RegionSuperAgain'. -/
def regionSuperAgainCard : Claim7 := { stood := { row := regionSuperAgainRow, standIns := [], harness := (true, "8d35e402930bdb437bb271e0680f7224f08fa0e356cf146a21ca0609ba3a175b"), looks := false }, kinds := [], alts := [], laidByText := true, laidKinds := [.data], laidTests := true, laidLooks := .later }
def RegionSuperAgainCardSaid : Prop := Claim7.holds Tryd.pinned (.plain (OpenSpec.ofChange regionSuperAgainSpec)) regionSuperAgainCard

/-- THE TIED CARD OF 'bedrocklaw24.RegionKnown'. -/
def regionKnownCard : Claim7 := { stood := { row := regionKnownRow, standIns := [], harness := (true, "8d35e402930bdb437bb271e0680f7224f08fa0e356cf146a21ca0609ba3a175b"), looks := false }, kinds := [], alts := [], laidByText := true, laidKinds := [.data], laidTests := true, laidLooks := .later }
def RegionKnownCardSaid : Prop := Claim7.holds Tryd.pinned (.plain (OpenSpec.ofChange regionKnownSpec)) regionKnownCard

/-- THE SECOND FORM's CARD OF 'bedrocklaw24.RegionSupers'. -/
def regionSupersUptoCard : Claim7 := { stood := { row := regionSupersUptoRow, standIns := [], harness := (true, "8d35e402930bdb437bb271e0680f7224f08fa0e356cf146a21ca0609ba3a175b"), looks := false }, kinds := [], alts := [], laidByText := true, laidKinds := [.data], laidTests := true, laidLooks := .later }
def RegionSupersUptoCardSaid : Prop := Claim7.holds Tryd.pinned (.plain (OpenSpec.upto regionSupersSpec)) regionSupersUptoCard

/-- THE SECOND FORM's CARD OF 'bedrocklaw24.RegionSuperAgain'. -/
def regionSuperAgainUptoCard : Claim7 := { stood := { row := regionSuperAgainUptoRow, standIns := [], harness := (true, "8d35e402930bdb437bb271e0680f7224f08fa0e356cf146a21ca0609ba3a175b"), looks := false }, kinds := [], alts := [], laidByText := true, laidKinds := [.data], laidTests := true, laidLooks := .later }
def RegionSuperAgainUptoCardSaid : Prop := Claim7.holds Tryd.pinned (.plain (OpenSpec.upto regionSuperAgainSpec)) regionSuperAgainUptoCard

/-- THE SECOND FORM's CARD OF 'bedrocklaw24.RegionKnown'. -/
def regionKnownUptoCard : Claim7 := { stood := { row := regionKnownUptoRow, standIns := [], harness := (true, "8d35e402930bdb437bb271e0680f7224f08fa0e356cf146a21ca0609ba3a175b"), looks := false }, kinds := [], alts := [], laidByText := true, laidKinds := [.data], laidTests := true, laidLooks := .later }
def RegionKnownUptoCardSaid : Prop := Claim7.holds Tryd.pinned (.plain (OpenSpec.upto regionKnownSpec)) regionKnownUptoCard
end Rows
end Go.Proofs.YtijjecnmdhefbaaDoor
