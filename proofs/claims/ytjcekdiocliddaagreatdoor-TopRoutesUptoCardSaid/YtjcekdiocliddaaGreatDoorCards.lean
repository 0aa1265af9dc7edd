/-
  DERIVED. GIVEN WITH THE SEED: THE CARDS: each row of YtjcekdiocliddaaGreatDoorRows.lean that lists a variable, with what it lists TIED to the program's text (the seventh form; the later family's looks); each row that meets fmt, with fmt's text TOLD by the authors' own Lean function (tested against real Go, not proved from fmt's source: count such statements apart). THE CARD IS WHAT COUNTS. Prove the row's statement (the work); the ties are given (YtjcekdiocliddaaGreatDoorTie.lean); close each card by the builder's one call (the guide's Derived/Test/ToyasCard.lean, 'card_holds'). Laid BY PROGRAM, IN A SANDBOX (cutbox-door.mjs). By AI agents, Wed Nov 11 2026. No macro, syntax, notation, axiom, sorry.
-/
import Derived.Test.YtjcekdiocliddaaGreatDoorRows
import GoSem.ClaimSeven
namespace Go.Proofs.YtjcekdiocliddaaGreatDoor
namespace Rows

/-- THE TIED CARD OF 'lorrytop.TopSlack'. -/
def topSlackCard : Claim7 := { stood := { row := topSlackRow, standIns := [], harness := (true, "6f816af99eccc4ac5b61ab16496890036df551be972a3f2053ee2c1c4a392fef"), looks := false }, kinds := [], alts := [], laidByText := true, laidKinds := [.data, .data, .data], laidTests := true, laidLooks := .later }
def TopSlackCardSaid : Prop := Claim7.holds Tryz.pinned (.plain (OpenSpec.ofChange topSlackSpec)) topSlackCard

/-- THE TIED CARD OF 'lorrytop.TopRoutes'. -/
def topRoutesCard : Claim7 := { stood := { row := topRoutesRow, standIns := [], harness := (true, "6f816af99eccc4ac5b61ab16496890036df551be972a3f2053ee2c1c4a392fef"), looks := false }, kinds := [], alts := [], laidByText := true, laidKinds := [.data, .data, .data], laidTests := true, laidLooks := .later }
def TopRoutesCardSaid : Prop := Claim7.holds Tryz.pinned (.plain (OpenSpec.ofChange topRoutesSpec)) topRoutesCard

/-- THE SECOND FORM's CARD OF 'lorrytop.TopSlack'. -/
def topSlackUptoCard : Claim7 := { stood := { row := topSlackUptoRow, standIns := [], harness := (true, "6f816af99eccc4ac5b61ab16496890036df551be972a3f2053ee2c1c4a392fef"), looks := false }, kinds := [], alts := [], laidByText := true, laidKinds := [.data, .data, .data], laidTests := true, laidLooks := .later }
def TopSlackUptoCardSaid : Prop := Claim7.holds Tryz.pinned (.plain (OpenSpec.upto topSlackSpec)) topSlackUptoCard

/-- THE SECOND FORM's CARD OF 'lorrytop.TopRoutes'. -/
def topRoutesUptoCard : Claim7 := { stood := { row := topRoutesUptoRow, standIns := [], harness := (true, "6f816af99eccc4ac5b61ab16496890036df551be972a3f2053ee2c1c4a392fef"), looks := false }, kinds := [], alts := [], laidByText := true, laidKinds := [.data, .data, .data], laidTests := true, laidLooks := .later }
def TopRoutesUptoCardSaid : Prop := Claim7.holds Tryz.pinned (.plain (OpenSpec.upto topRoutesSpec)) topRoutesUptoCard
end Rows
end Go.Proofs.YtjcekdiocliddaaGreatDoor
