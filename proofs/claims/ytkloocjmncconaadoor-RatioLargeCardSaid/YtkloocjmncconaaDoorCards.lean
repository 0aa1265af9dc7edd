/-
  DERIVED. GIVEN WITH THE SEED: THE CARDS: each row of YtkloocjmncconaaDoorRows.lean that lists a variable, with what it lists TIED to the program's text (the seventh form; the later family's looks); each row that meets fmt, with fmt's text TOLD by the authors' own Lean function (tested against real Go, not proved from fmt's source: count such statements apart). THE CARD IS WHAT COUNTS. Prove the row's statement (the work); the ties are given (YtkloocjmncconaaDoorTie.lean); close each card by the builder's one call (the guide's Derived/Test/ToyasCard.lean, 'card_holds'). Laid BY PROGRAM, IN A SANDBOX (cutbox-door.mjs). By AI agents, Wed Nov 11 2026. No macro, syntax, notation, axiom, sorry.
-/
import Derived.Test.YtkloocjmncconaaDoorRows
import GoSem.ClaimSeven
namespace Go.Proofs.YtkloocjmncconaaDoor
namespace Rows

/-- THE TIED CARD OF 'lorrylaw04.RatioLarge'. -/
def ratioLargeCard : Claim7 := { stood := { row := ratioLargeRow, standIns := [], harness := (true, "5089b1f4cbb3dd62222832ded6de83a60a3030f8860d335d26ba9aebf5aa94fd"), looks := false }, kinds := [], alts := [], laidByText := true, laidKinds := [.data, .data, .data], laidTests := true, laidLooks := .later }
def RatioLargeCardSaid : Prop := Claim7.holds Tryd.pinned (.plain (OpenSpec.ofChange ratioLargeSpec)) ratioLargeCard

/-- THE TIED CARD OF 'lorrylaw04.RatioOrders'. -/
def ratioOrdersCard : Claim7 := { stood := { row := ratioOrdersRow, standIns := [], harness := (true, "5089b1f4cbb3dd62222832ded6de83a60a3030f8860d335d26ba9aebf5aa94fd"), looks := false }, kinds := [], alts := [], laidByText := true, laidKinds := [.data, .data, .data], laidTests := true, laidLooks := .later }
def RatioOrdersCardSaid : Prop := Claim7.holds Tryd.pinned (.plain (OpenSpec.ofChange ratioOrdersSpec)) ratioOrdersCard

/-- THE TIED CARD OF 'lorrylaw04.RatioField'. -/
def ratioFieldCard : Claim7 := { stood := { row := ratioFieldRow, standIns := [], harness := (true, "5089b1f4cbb3dd62222832ded6de83a60a3030f8860d335d26ba9aebf5aa94fd"), looks := false }, kinds := [], alts := [], laidByText := true, laidKinds := [.data, .data, .data], laidTests := true, laidLooks := .later }
def RatioFieldCardSaid : Prop := Claim7.holds Tryd.pinned (.plain (OpenSpec.ofChange ratioFieldSpec)) ratioFieldCard

/-- THE SECOND FORM's CARD OF 'lorrylaw04.RatioLarge'. -/
def ratioLargeUptoCard : Claim7 := { stood := { row := ratioLargeUptoRow, standIns := [], harness := (true, "5089b1f4cbb3dd62222832ded6de83a60a3030f8860d335d26ba9aebf5aa94fd"), looks := false }, kinds := [], alts := [], laidByText := true, laidKinds := [.data, .data, .data], laidTests := true, laidLooks := .later }
def RatioLargeUptoCardSaid : Prop := Claim7.holds Tryd.pinned (.plain (OpenSpec.upto ratioLargeSpec)) ratioLargeUptoCard

/-- THE SECOND FORM's CARD OF 'lorrylaw04.RatioOrders'. -/
def ratioOrdersUptoCard : Claim7 := { stood := { row := ratioOrdersUptoRow, standIns := [], harness := (true, "5089b1f4cbb3dd62222832ded6de83a60a3030f8860d335d26ba9aebf5aa94fd"), looks := false }, kinds := [], alts := [], laidByText := true, laidKinds := [.data, .data, .data], laidTests := true, laidLooks := .later }
def RatioOrdersUptoCardSaid : Prop := Claim7.holds Tryd.pinned (.plain (OpenSpec.upto ratioOrdersSpec)) ratioOrdersUptoCard

/-- THE SECOND FORM's CARD OF 'lorrylaw04.RatioField'. -/
def ratioFieldUptoCard : Claim7 := { stood := { row := ratioFieldUptoRow, standIns := [], harness := (true, "5089b1f4cbb3dd62222832ded6de83a60a3030f8860d335d26ba9aebf5aa94fd"), looks := false }, kinds := [], alts := [], laidByText := true, laidKinds := [.data, .data, .data], laidTests := true, laidLooks := .later }
def RatioFieldUptoCardSaid : Prop := Claim7.holds Tryd.pinned (.plain (OpenSpec.upto ratioFieldSpec)) ratioFieldUptoCard
end Rows
end Go.Proofs.YtkloocjmncconaaDoor
