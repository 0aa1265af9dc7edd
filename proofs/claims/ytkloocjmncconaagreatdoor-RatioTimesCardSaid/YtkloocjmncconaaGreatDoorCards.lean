/-
  DERIVED. GIVEN WITH THE SEED: THE CARDS: each row of YtkloocjmncconaaGreatDoorRows.lean that lists a variable, with what it lists TIED to the program's text (the seventh form; the later family's looks); each row that meets fmt, with fmt's text TOLD by the authors' own Lean function (tested against real Go, not proved from fmt's source: count such statements apart). THE CARD IS WHAT COUNTS. Prove the row's statement (the work); the ties are given (YtkloocjmncconaaGreatDoorTie.lean); close each card by the builder's one call (the guide's Derived/Test/ToyasCard.lean, 'card_holds'). Laid BY PROGRAM, IN A SANDBOX (cutbox-door.mjs). By AI agents, Wed Nov 11 2026. No macro, syntax, notation, axiom, sorry.
-/
import Derived.Test.YtkloocjmncconaaGreatDoorRows
import GoSem.ClaimSeven
namespace Go.Proofs.YtkloocjmncconaaGreatDoor
namespace Rows

/-- THE TIED CARD OF 'lorrylaw04.RatioMakes'. -/
def ratioMakesCard : Claim7 := { stood := { row := ratioMakesRow, standIns := [], harness := (true, "e1a88707c58d384565693d15822d6beeed75f8b89be629b72619d02353e5c8d3"), looks := false }, kinds := [], alts := [], laidByText := true, laidKinds := [.data, .data, .data], laidTests := true, laidLooks := .later }
def RatioMakesCardSaid : Prop := Claim7.holds Tryz.pinned (.plain (OpenSpec.ofChange ratioMakesSpec)) ratioMakesCard

/-- THE TIED CARD OF 'lorrylaw04.RatioRights'. -/
def ratioRightsCard : Claim7 := { stood := { row := ratioRightsRow, standIns := [], harness := (true, "e1a88707c58d384565693d15822d6beeed75f8b89be629b72619d02353e5c8d3"), looks := false }, kinds := [], alts := [], laidByText := true, laidKinds := [.data, .data, .data], laidTests := true, laidLooks := .later }
def RatioRightsCardSaid : Prop := Claim7.holds Tryz.pinned (.plain (OpenSpec.ofChange ratioRightsSpec)) ratioRightsCard

/-- THE TIED CARD OF 'lorrylaw04.RatioReckons'. -/
def ratioReckonsCard : Claim7 := { stood := { row := ratioReckonsRow, standIns := [], harness := (true, "e1a88707c58d384565693d15822d6beeed75f8b89be629b72619d02353e5c8d3"), looks := false }, kinds := [], alts := [], laidByText := true, laidKinds := [.data, .data, .data], laidTests := true, laidLooks := .later }
def RatioReckonsCardSaid : Prop := Claim7.holds Tryz.pinned (.plain (OpenSpec.ofChange ratioReckonsSpec)) ratioReckonsCard

/-- THE TIED CARD OF 'lorrylaw04.RatioTimes'. -/
def ratioTimesCard : Claim7 := { stood := { row := ratioTimesRow, standIns := [], harness := (true, "e1a88707c58d384565693d15822d6beeed75f8b89be629b72619d02353e5c8d3"), looks := false }, kinds := [], alts := [], laidByText := true, laidKinds := [.data, .data, .data], laidTests := true, laidLooks := .later }
def RatioTimesCardSaid : Prop := Claim7.holds Tryz.pinned (.plain (OpenSpec.ofChange ratioTimesSpec)) ratioTimesCard

/-- THE SECOND FORM's CARD OF 'lorrylaw04.RatioMakes'. -/
def ratioMakesUptoCard : Claim7 := { stood := { row := ratioMakesUptoRow, standIns := [], harness := (true, "e1a88707c58d384565693d15822d6beeed75f8b89be629b72619d02353e5c8d3"), looks := false }, kinds := [], alts := [], laidByText := true, laidKinds := [.data, .data, .data], laidTests := true, laidLooks := .later }
def RatioMakesUptoCardSaid : Prop := Claim7.holds Tryz.pinned (.plain (OpenSpec.upto ratioMakesSpec)) ratioMakesUptoCard

/-- THE SECOND FORM's CARD OF 'lorrylaw04.RatioRights'. -/
def ratioRightsUptoCard : Claim7 := { stood := { row := ratioRightsUptoRow, standIns := [], harness := (true, "e1a88707c58d384565693d15822d6beeed75f8b89be629b72619d02353e5c8d3"), looks := false }, kinds := [], alts := [], laidByText := true, laidKinds := [.data, .data, .data], laidTests := true, laidLooks := .later }
def RatioRightsUptoCardSaid : Prop := Claim7.holds Tryz.pinned (.plain (OpenSpec.upto ratioRightsSpec)) ratioRightsUptoCard

/-- THE SECOND FORM's CARD OF 'lorrylaw04.RatioReckons'. -/
def ratioReckonsUptoCard : Claim7 := { stood := { row := ratioReckonsUptoRow, standIns := [], harness := (true, "e1a88707c58d384565693d15822d6beeed75f8b89be629b72619d02353e5c8d3"), looks := false }, kinds := [], alts := [], laidByText := true, laidKinds := [.data, .data, .data], laidTests := true, laidLooks := .later }
def RatioReckonsUptoCardSaid : Prop := Claim7.holds Tryz.pinned (.plain (OpenSpec.upto ratioReckonsSpec)) ratioReckonsUptoCard

/-- THE SECOND FORM's CARD OF 'lorrylaw04.RatioTimes'. -/
def ratioTimesUptoCard : Claim7 := { stood := { row := ratioTimesUptoRow, standIns := [], harness := (true, "e1a88707c58d384565693d15822d6beeed75f8b89be629b72619d02353e5c8d3"), looks := false }, kinds := [], alts := [], laidByText := true, laidKinds := [.data, .data, .data], laidTests := true, laidLooks := .later }
def RatioTimesUptoCardSaid : Prop := Claim7.holds Tryz.pinned (.plain (OpenSpec.upto ratioTimesSpec)) ratioTimesUptoCard
end Rows
end Go.Proofs.YtkloocjmncconaaGreatDoor
