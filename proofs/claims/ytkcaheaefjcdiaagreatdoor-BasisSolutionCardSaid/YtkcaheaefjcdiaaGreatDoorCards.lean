/-
  DERIVED. GIVEN WITH THE SEED: THE CARDS: each row of YtkcaheaefjcdiaaGreatDoorRows.lean that lists a variable, with what it lists TIED to the program's text (the seventh form; the later family's looks); each row that meets fmt, with fmt's text TOLD by the authors' own Lean function (tested against real Go, not proved from fmt's source: count such statements apart). THE CARD IS WHAT COUNTS. Prove the row's statement (the work); the ties are given (YtkcaheaefjcdiaaGreatDoorTie.lean); close each card by the builder's one call (the guide's Derived/Test/ToyasCard.lean, 'card_holds'). Laid BY PROGRAM, IN A SANDBOX (cutbox-door.mjs). By AI agents, Wed Nov 11 2026. No macro, syntax, notation, axiom, sorry.
-/
import Derived.Test.YtkcaheaefjcdiaaGreatDoorRows
import GoSem.ClaimSeven
namespace Go.Proofs.YtkcaheaefjcdiaaGreatDoor
namespace Rows

/-- THE TIED CARD OF 'lorrylaw27.BasisSolves'. -/
def basisSolvesCard : Claim7 := { stood := { row := basisSolvesRow, standIns := [], harness := (true, "e01b63fc0c5bd7303d5a3054fb773ab19191c2a246a2f20396abee4dbb5d2db5"), looks := false }, kinds := [], alts := [], laidByText := true, laidKinds := [.data, .data, .data], laidTests := true, laidLooks := .later }
def BasisSolvesCardSaid : Prop := Claim7.holds Tryz.pinned (.plain (OpenSpec.ofChange basisSolvesSpec)) basisSolvesCard

/-- THE TIED CARD OF 'lorrylaw27.BasisEchelon'. -/
def basisEchelonCard : Claim7 := { stood := { row := basisEchelonRow, standIns := [], harness := (true, "e01b63fc0c5bd7303d5a3054fb773ab19191c2a246a2f20396abee4dbb5d2db5"), looks := false }, kinds := [], alts := [], laidByText := true, laidKinds := [.data, .data, .data], laidTests := true, laidLooks := .later }
def BasisEchelonCardSaid : Prop := Claim7.holds Tryz.pinned (.plain (OpenSpec.ofChange basisEchelonSpec)) basisEchelonCard

/-- THE TIED CARD OF 'lorrylaw27.BasisReduces'. -/
def basisReducesCard : Claim7 := { stood := { row := basisReducesRow, standIns := [], harness := (true, "e01b63fc0c5bd7303d5a3054fb773ab19191c2a246a2f20396abee4dbb5d2db5"), looks := false }, kinds := [], alts := [], laidByText := true, laidKinds := [.data, .data, .data], laidTests := true, laidLooks := .later }
def BasisReducesCardSaid : Prop := Claim7.holds Tryz.pinned (.plain (OpenSpec.ofChange basisReducesSpec)) basisReducesCard

/-- THE TIED CARD OF 'lorrylaw27.BasisRank'. -/
def basisRankCard : Claim7 := { stood := { row := basisRankRow, standIns := [], harness := (true, "e01b63fc0c5bd7303d5a3054fb773ab19191c2a246a2f20396abee4dbb5d2db5"), looks := false }, kinds := [], alts := [], laidByText := true, laidKinds := [.data, .data, .data], laidTests := true, laidLooks := .later }
def BasisRankCardSaid : Prop := Claim7.holds Tryz.pinned (.plain (OpenSpec.ofChange basisRankSpec)) basisRankCard

/-- THE TIED CARD OF 'lorrylaw27.BasisTimes'. -/
def basisTimesCard : Claim7 := { stood := { row := basisTimesRow, standIns := [], harness := (true, "e01b63fc0c5bd7303d5a3054fb773ab19191c2a246a2f20396abee4dbb5d2db5"), looks := false }, kinds := [], alts := [], laidByText := true, laidKinds := [.data, .data, .data], laidTests := true, laidLooks := .later }
def BasisTimesCardSaid : Prop := Claim7.holds Tryz.pinned (.plain (OpenSpec.ofChange basisTimesSpec)) basisTimesCard

/-- THE TIED CARD OF 'lorrylaw27.BasisSolution'. -/
def basisSolutionCard : Claim7 := { stood := { row := basisSolutionRow, standIns := [], harness := (true, "e01b63fc0c5bd7303d5a3054fb773ab19191c2a246a2f20396abee4dbb5d2db5"), looks := false }, kinds := [], alts := [], laidByText := true, laidKinds := [.data, .data, .data], laidTests := true, laidLooks := .later }
def BasisSolutionCardSaid : Prop := Claim7.holds Tryz.pinned (.plain (OpenSpec.ofChange basisSolutionSpec)) basisSolutionCard

/-- THE SECOND FORM's CARD OF 'lorrylaw27.BasisSolves'. -/
def basisSolvesUptoCard : Claim7 := { stood := { row := basisSolvesUptoRow, standIns := [], harness := (true, "e01b63fc0c5bd7303d5a3054fb773ab19191c2a246a2f20396abee4dbb5d2db5"), looks := false }, kinds := [], alts := [], laidByText := true, laidKinds := [.data, .data, .data], laidTests := true, laidLooks := .later }
def BasisSolvesUptoCardSaid : Prop := Claim7.holds Tryz.pinned (.plain (OpenSpec.upto basisSolvesSpec)) basisSolvesUptoCard

/-- THE SECOND FORM's CARD OF 'lorrylaw27.BasisEchelon'. -/
def basisEchelonUptoCard : Claim7 := { stood := { row := basisEchelonUptoRow, standIns := [], harness := (true, "e01b63fc0c5bd7303d5a3054fb773ab19191c2a246a2f20396abee4dbb5d2db5"), looks := false }, kinds := [], alts := [], laidByText := true, laidKinds := [.data, .data, .data], laidTests := true, laidLooks := .later }
def BasisEchelonUptoCardSaid : Prop := Claim7.holds Tryz.pinned (.plain (OpenSpec.upto basisEchelonSpec)) basisEchelonUptoCard

/-- THE SECOND FORM's CARD OF 'lorrylaw27.BasisReduces'. -/
def basisReducesUptoCard : Claim7 := { stood := { row := basisReducesUptoRow, standIns := [], harness := (true, "e01b63fc0c5bd7303d5a3054fb773ab19191c2a246a2f20396abee4dbb5d2db5"), looks := false }, kinds := [], alts := [], laidByText := true, laidKinds := [.data, .data, .data], laidTests := true, laidLooks := .later }
def BasisReducesUptoCardSaid : Prop := Claim7.holds Tryz.pinned (.plain (OpenSpec.upto basisReducesSpec)) basisReducesUptoCard

/-- THE SECOND FORM's CARD OF 'lorrylaw27.BasisRank'. -/
def basisRankUptoCard : Claim7 := { stood := { row := basisRankUptoRow, standIns := [], harness := (true, "e01b63fc0c5bd7303d5a3054fb773ab19191c2a246a2f20396abee4dbb5d2db5"), looks := false }, kinds := [], alts := [], laidByText := true, laidKinds := [.data, .data, .data], laidTests := true, laidLooks := .later }
def BasisRankUptoCardSaid : Prop := Claim7.holds Tryz.pinned (.plain (OpenSpec.upto basisRankSpec)) basisRankUptoCard

/-- THE SECOND FORM's CARD OF 'lorrylaw27.BasisTimes'. -/
def basisTimesUptoCard : Claim7 := { stood := { row := basisTimesUptoRow, standIns := [], harness := (true, "e01b63fc0c5bd7303d5a3054fb773ab19191c2a246a2f20396abee4dbb5d2db5"), looks := false }, kinds := [], alts := [], laidByText := true, laidKinds := [.data, .data, .data], laidTests := true, laidLooks := .later }
def BasisTimesUptoCardSaid : Prop := Claim7.holds Tryz.pinned (.plain (OpenSpec.upto basisTimesSpec)) basisTimesUptoCard

/-- THE SECOND FORM's CARD OF 'lorrylaw27.BasisSolution'. -/
def basisSolutionUptoCard : Claim7 := { stood := { row := basisSolutionUptoRow, standIns := [], harness := (true, "e01b63fc0c5bd7303d5a3054fb773ab19191c2a246a2f20396abee4dbb5d2db5"), looks := false }, kinds := [], alts := [], laidByText := true, laidKinds := [.data, .data, .data], laidTests := true, laidLooks := .later }
def BasisSolutionUptoCardSaid : Prop := Claim7.holds Tryz.pinned (.plain (OpenSpec.upto basisSolutionSpec)) basisSolutionUptoCard
end Rows
end Go.Proofs.YtkcaheaefjcdiaaGreatDoor
