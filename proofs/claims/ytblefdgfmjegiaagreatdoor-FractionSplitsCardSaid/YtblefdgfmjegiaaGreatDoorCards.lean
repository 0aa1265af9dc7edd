/-
  DERIVED. GIVEN WITH THE SEED: THE CARDS: each row of YtblefdgfmjegiaaGreatDoorRows.lean that lists a variable, with what it lists TIED to the program's text (the seventh form; the later family's looks); each row that meets fmt, with fmt's text TOLD by the authors' own Lean function (tested against real Go, not proved from fmt's source: count such statements apart). THE CARD IS WHAT COUNTS. Prove the row's statement (the work); the ties are given (YtblefdgfmjegiaaGreatDoorTie.lean); close each card by the builder's one call (the guide's Derived/Test/ToyasCard.lean, 'card_holds'). Laid BY PROGRAM, IN A SANDBOX (cutbox-door.mjs). By AI agents, Wed Nov 11 2026. No macro, syntax, notation, axiom, sorry.
-/
import Derived.Test.YtblefdgfmjegiaaGreatDoorRows
import GoSem.ClaimSeven
namespace Go.Proofs.YtblefdgfmjegiaaGreatDoor
namespace Rows

/-- THE TIED CARD OF 'lorrylaw35.FractionSums'. -/
def fractionSumsCard : Claim7 := { stood := { row := fractionSumsRow, standIns := [], harness := (true, "fd69444faee790247e3a655279baf9713fa828d802033c6ea68162a13520233a"), looks := true }, kinds := [], alts := [], laidByText := true, laidKinds := [.data, .data, .data, .sentinel, .sentinel], laidTests := true, laidLooks := .later }
def FractionSumsCardSaid : Prop := Claim7.holds Tryz.pinned (.plain (OpenSpec.ofChange fractionSumsSpec)) fractionSumsCard

/-- THE TIED CARD OF 'lorrylaw35.FractionChooses'. -/
def fractionChoosesCard : Claim7 := { stood := { row := fractionChoosesRow, standIns := [], harness := (true, "fd69444faee790247e3a655279baf9713fa828d802033c6ea68162a13520233a"), looks := true }, kinds := [], alts := [], laidByText := true, laidKinds := [.data, .data, .data, .sentinel, .sentinel], laidTests := true, laidLooks := .later }
def FractionChoosesCardSaid : Prop := Claim7.holds Tryz.pinned (.plain (OpenSpec.ofChange fractionChoosesSpec)) fractionChoosesCard

/-- THE TIED CARD OF 'lorrylaw35.FractionSplits'. -/
def fractionSplitsCard : Claim7 := { stood := { row := fractionSplitsRow, standIns := [], harness := (true, "fd69444faee790247e3a655279baf9713fa828d802033c6ea68162a13520233a"), looks := true }, kinds := [], alts := [], laidByText := true, laidKinds := [.data, .data, .data, .sentinel, .sentinel], laidTests := true, laidLooks := .later }
def FractionSplitsCardSaid : Prop := Claim7.holds Tryz.pinned (.plain (OpenSpec.ofChange fractionSplitsSpec)) fractionSplitsCard

/-- THE SECOND FORM's CARD OF 'lorrylaw35.FractionSums'. -/
def fractionSumsUptoCard : Claim7 := { stood := { row := fractionSumsUptoRow, standIns := [], harness := (true, "fd69444faee790247e3a655279baf9713fa828d802033c6ea68162a13520233a"), looks := true }, kinds := [], alts := [], laidByText := true, laidKinds := [.data, .data, .data, .sentinel, .sentinel], laidTests := true, laidLooks := .later }
def FractionSumsUptoCardSaid : Prop := Claim7.holds Tryz.pinned (.plain (OpenSpec.upto fractionSumsSpec)) fractionSumsUptoCard

/-- THE SECOND FORM's CARD OF 'lorrylaw35.FractionChooses'. -/
def fractionChoosesUptoCard : Claim7 := { stood := { row := fractionChoosesUptoRow, standIns := [], harness := (true, "fd69444faee790247e3a655279baf9713fa828d802033c6ea68162a13520233a"), looks := true }, kinds := [], alts := [], laidByText := true, laidKinds := [.data, .data, .data, .sentinel, .sentinel], laidTests := true, laidLooks := .later }
def FractionChoosesUptoCardSaid : Prop := Claim7.holds Tryz.pinned (.plain (OpenSpec.upto fractionChoosesSpec)) fractionChoosesUptoCard

/-- THE SECOND FORM's CARD OF 'lorrylaw35.FractionSplits'. -/
def fractionSplitsUptoCard : Claim7 := { stood := { row := fractionSplitsUptoRow, standIns := [], harness := (true, "fd69444faee790247e3a655279baf9713fa828d802033c6ea68162a13520233a"), looks := true }, kinds := [], alts := [], laidByText := true, laidKinds := [.data, .data, .data, .sentinel, .sentinel], laidTests := true, laidLooks := .later }
def FractionSplitsUptoCardSaid : Prop := Claim7.holds Tryz.pinned (.plain (OpenSpec.upto fractionSplitsSpec)) fractionSplitsUptoCard
end Rows
end Go.Proofs.YtblefdgfmjegiaaGreatDoor
