/-
  DERIVED. GIVEN WITH THE SEED: THE CARDS: each row of YtljekdpgjaahjaaGreatDoorRows.lean that lists a variable, with what it lists TIED to the program's text (the seventh form; the later family's looks); each row that meets fmt, with fmt's text TOLD by the authors' own Lean function (tested against real Go, not proved from fmt's source: count such statements apart). THE CARD IS WHAT COUNTS. Prove the row's statement (the work); the ties are given (YtljekdpgjaahjaaGreatDoorTie.lean); close each card by the builder's one call (the guide's Derived/Test/ToyasCard.lean, 'card_holds'). Laid BY PROGRAM, IN A SANDBOX (cutbox-door.mjs). By AI agents, Wed Nov 11 2026. No macro, syntax, notation, axiom, sorry.
-/
import Derived.Test.YtljekdpgjaahjaaGreatDoorRows
import GoSem.ClaimSeven
namespace Go.Proofs.YtljekdpgjaahjaaGreatDoor
namespace Rows

/-- THE TIED CARD OF 'lorrylaw39.ProoftextPrints'. -/
def prooftextPrintsCard : Claim7 := { stood := { row := prooftextPrintsRow, standIns := [], harness := (true, "c88ab5d994132ab82bb3a866c65240e870ce878a199fcae5cb14b024cd8ad365"), looks := true }, kinds := [], alts := [], laidByText := true, laidKinds := [.data, .data, .data, .sentinel, .sentinel], laidTests := true, laidLooks := .later }
def ProoftextPrintsCardSaid : Prop := Claim7.holds Tryz.pinned (.plain (OpenSpec.ofChange prooftextPrintsSpec)) prooftextPrintsCard

/-- THE TIED CARD OF 'lorrylaw39.ProoftextParses'. -/
def prooftextParsesCard : Claim7 := { stood := { row := prooftextParsesRow, standIns := [], harness := (true, "c88ab5d994132ab82bb3a866c65240e870ce878a199fcae5cb14b024cd8ad365"), looks := true }, kinds := [], alts := [], laidByText := true, laidKinds := [.data, .data, .data, .sentinel, .sentinel], laidTests := true, laidLooks := .later }
def ProoftextParsesCardSaid : Prop := Claim7.holds Tryz.pinned (.plain (OpenSpec.ofChange prooftextParsesSpec)) prooftextParsesCard

/-- THE TIED CARD OF 'lorrylaw39.ProoftextReads'. -/
def prooftextReadsCard : Claim7 := { stood := { row := prooftextReadsRow, standIns := [], harness := (true, "c88ab5d994132ab82bb3a866c65240e870ce878a199fcae5cb14b024cd8ad365"), looks := true }, kinds := [], alts := [], laidByText := true, laidKinds := [.data, .data, .data, .sentinel, .sentinel], laidTests := true, laidLooks := .later }
def ProoftextReadsCardSaid : Prop := Claim7.holds Tryz.pinned (.plain (OpenSpec.ofChange prooftextReadsSpec)) prooftextReadsCard

/-- THE TIED CARD OF 'lorrylaw39.ProoftextSame'. -/
def prooftextSameCard : Claim7 := { stood := { row := prooftextSameRow, standIns := [], harness := (true, "c88ab5d994132ab82bb3a866c65240e870ce878a199fcae5cb14b024cd8ad365"), looks := true }, kinds := [], alts := [], laidByText := true, laidKinds := [.data, .data, .data, .sentinel, .sentinel], laidTests := true, laidLooks := .later }
def ProoftextSameCardSaid : Prop := Claim7.holds Tryz.pinned (.plain (OpenSpec.ofChange prooftextSameSpec)) prooftextSameCard

/-- THE TIED CARD OF 'lorrylaw39.ProoftextLarge'. -/
def prooftextLargeCard : Claim7 := { stood := { row := prooftextLargeRow, standIns := [], harness := (true, "c88ab5d994132ab82bb3a866c65240e870ce878a199fcae5cb14b024cd8ad365"), looks := true }, kinds := [], alts := [], laidByText := true, laidKinds := [.data, .data, .data, .sentinel, .sentinel], laidTests := true, laidLooks := .later }
def ProoftextLargeCardSaid : Prop := Claim7.holds Tryz.pinned (.plain (OpenSpec.ofChange prooftextLargeSpec)) prooftextLargeCard

/-- THE SECOND FORM's CARD OF 'lorrylaw39.ProoftextPrints'. -/
def prooftextPrintsUptoCard : Claim7 := { stood := { row := prooftextPrintsUptoRow, standIns := [], harness := (true, "c88ab5d994132ab82bb3a866c65240e870ce878a199fcae5cb14b024cd8ad365"), looks := true }, kinds := [], alts := [], laidByText := true, laidKinds := [.data, .data, .data, .sentinel, .sentinel], laidTests := true, laidLooks := .later }
def ProoftextPrintsUptoCardSaid : Prop := Claim7.holds Tryz.pinned (.plain (OpenSpec.upto prooftextPrintsSpec)) prooftextPrintsUptoCard

/-- THE SECOND FORM's CARD OF 'lorrylaw39.ProoftextParses'. -/
def prooftextParsesUptoCard : Claim7 := { stood := { row := prooftextParsesUptoRow, standIns := [], harness := (true, "c88ab5d994132ab82bb3a866c65240e870ce878a199fcae5cb14b024cd8ad365"), looks := true }, kinds := [], alts := [], laidByText := true, laidKinds := [.data, .data, .data, .sentinel, .sentinel], laidTests := true, laidLooks := .later }
def ProoftextParsesUptoCardSaid : Prop := Claim7.holds Tryz.pinned (.plain (OpenSpec.upto prooftextParsesSpec)) prooftextParsesUptoCard

/-- THE SECOND FORM's CARD OF 'lorrylaw39.ProoftextReads'. -/
def prooftextReadsUptoCard : Claim7 := { stood := { row := prooftextReadsUptoRow, standIns := [], harness := (true, "c88ab5d994132ab82bb3a866c65240e870ce878a199fcae5cb14b024cd8ad365"), looks := true }, kinds := [], alts := [], laidByText := true, laidKinds := [.data, .data, .data, .sentinel, .sentinel], laidTests := true, laidLooks := .later }
def ProoftextReadsUptoCardSaid : Prop := Claim7.holds Tryz.pinned (.plain (OpenSpec.upto prooftextReadsSpec)) prooftextReadsUptoCard

/-- THE SECOND FORM's CARD OF 'lorrylaw39.ProoftextSame'. -/
def prooftextSameUptoCard : Claim7 := { stood := { row := prooftextSameUptoRow, standIns := [], harness := (true, "c88ab5d994132ab82bb3a866c65240e870ce878a199fcae5cb14b024cd8ad365"), looks := true }, kinds := [], alts := [], laidByText := true, laidKinds := [.data, .data, .data, .sentinel, .sentinel], laidTests := true, laidLooks := .later }
def ProoftextSameUptoCardSaid : Prop := Claim7.holds Tryz.pinned (.plain (OpenSpec.upto prooftextSameSpec)) prooftextSameUptoCard

/-- THE SECOND FORM's CARD OF 'lorrylaw39.ProoftextLarge'. -/
def prooftextLargeUptoCard : Claim7 := { stood := { row := prooftextLargeUptoRow, standIns := [], harness := (true, "c88ab5d994132ab82bb3a866c65240e870ce878a199fcae5cb14b024cd8ad365"), looks := true }, kinds := [], alts := [], laidByText := true, laidKinds := [.data, .data, .data, .sentinel, .sentinel], laidTests := true, laidLooks := .later }
def ProoftextLargeUptoCardSaid : Prop := Claim7.holds Tryz.pinned (.plain (OpenSpec.upto prooftextLargeSpec)) prooftextLargeUptoCard
end Rows
end Go.Proofs.YtljekdpgjaahjaaGreatDoor
