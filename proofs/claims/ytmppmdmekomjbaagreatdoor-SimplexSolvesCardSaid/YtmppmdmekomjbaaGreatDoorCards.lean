/-
  DERIVED. GIVEN WITH THE SEED: THE CARDS: each row of YtmppmdmekomjbaaGreatDoorRows.lean that lists a variable, with what it lists TIED to the program's text (the seventh form; the later family's looks); each row that meets fmt, with fmt's text TOLD by the authors' own Lean function (tested against real Go, not proved from fmt's source: count such statements apart). THE CARD IS WHAT COUNTS. Prove the row's statement (the work); the ties are given (YtmppmdmekomjbaaGreatDoorTie.lean); close each card by the builder's one call (the guide's Derived/Test/ToyasCard.lean, 'card_holds'). Laid BY PROGRAM, IN A SANDBOX (cutbox-door.mjs). By AI agents, Wed Nov 11 2026. No macro, syntax, notation, axiom, sorry.
-/
import Derived.Test.YtmppmdmekomjbaaGreatDoorRows
import GoSem.ClaimSeven
namespace Go.Proofs.YtmppmdmekomjbaaGreatDoor
namespace Rows

/-- THE TIED CARD OF 'lorrylaw26.SimplexSolves'. -/
def simplexSolvesCard : Claim7 := { stood := { row := simplexSolvesRow, standIns := [], harness := (true, "c038ed214a3c026c13ccfb56b685703d9cc01def5d58ee631fffe0e262061339"), looks := false }, kinds := [], alts := [], laidByText := true, laidKinds := [.data, .data, .data], laidTests := true, laidLooks := .later }
def SimplexSolvesCardSaid : Prop := Claim7.holds Tryz.pinned (.plain (OpenSpec.ofChange simplexSolvesSpec)) simplexSolvesCard

/-- THE TIED CARD OF 'lorrylaw26.SimplexChecks'. -/
def simplexChecksCard : Claim7 := { stood := { row := simplexChecksRow, standIns := [], harness := (true, "c038ed214a3c026c13ccfb56b685703d9cc01def5d58ee631fffe0e262061339"), looks := false }, kinds := [], alts := [], laidByText := true, laidKinds := [.data, .data, .data], laidTests := true, laidLooks := .later }
def SimplexChecksCardSaid : Prop := Claim7.holds Tryz.pinned (.plain (OpenSpec.ofChange simplexChecksSpec)) simplexChecksCard

/-- THE TIED CARD OF 'lorrylaw26.SimplexLeast'. -/
def simplexLeastCard : Claim7 := { stood := { row := simplexLeastRow, standIns := [], harness := (true, "c038ed214a3c026c13ccfb56b685703d9cc01def5d58ee631fffe0e262061339"), looks := false }, kinds := [], alts := [], laidByText := true, laidKinds := [.data, .data, .data], laidTests := true, laidLooks := .later }
def SimplexLeastCardSaid : Prop := Claim7.holds Tryz.pinned (.plain (OpenSpec.ofChange simplexLeastSpec)) simplexLeastCard

/-- THE TIED CARD OF 'lorrylaw26.SimplexTightens'. -/
def simplexTightensCard : Claim7 := { stood := { row := simplexTightensRow, standIns := [], harness := (true, "c038ed214a3c026c13ccfb56b685703d9cc01def5d58ee631fffe0e262061339"), looks := false }, kinds := [], alts := [], laidByText := true, laidKinds := [.data, .data, .data], laidTests := true, laidLooks := .later }
def SimplexTightensCardSaid : Prop := Claim7.holds Tryz.pinned (.plain (OpenSpec.ofChange simplexTightensSpec)) simplexTightensCard

/-- THE TIED CARD OF 'lorrylaw26.SimplexScales'. -/
def simplexScalesCard : Claim7 := { stood := { row := simplexScalesRow, standIns := [], harness := (true, "c038ed214a3c026c13ccfb56b685703d9cc01def5d58ee631fffe0e262061339"), looks := false }, kinds := [], alts := [], laidByText := true, laidKinds := [.data, .data, .data], laidTests := true, laidLooks := .later }
def SimplexScalesCardSaid : Prop := Claim7.holds Tryz.pinned (.plain (OpenSpec.ofChange simplexScalesSpec)) simplexScalesCard

/-- THE SECOND FORM's CARD OF 'lorrylaw26.SimplexSolves'. -/
def simplexSolvesUptoCard : Claim7 := { stood := { row := simplexSolvesUptoRow, standIns := [], harness := (true, "c038ed214a3c026c13ccfb56b685703d9cc01def5d58ee631fffe0e262061339"), looks := false }, kinds := [], alts := [], laidByText := true, laidKinds := [.data, .data, .data], laidTests := true, laidLooks := .later }
def SimplexSolvesUptoCardSaid : Prop := Claim7.holds Tryz.pinned (.plain (OpenSpec.upto simplexSolvesSpec)) simplexSolvesUptoCard

/-- THE SECOND FORM's CARD OF 'lorrylaw26.SimplexChecks'. -/
def simplexChecksUptoCard : Claim7 := { stood := { row := simplexChecksUptoRow, standIns := [], harness := (true, "c038ed214a3c026c13ccfb56b685703d9cc01def5d58ee631fffe0e262061339"), looks := false }, kinds := [], alts := [], laidByText := true, laidKinds := [.data, .data, .data], laidTests := true, laidLooks := .later }
def SimplexChecksUptoCardSaid : Prop := Claim7.holds Tryz.pinned (.plain (OpenSpec.upto simplexChecksSpec)) simplexChecksUptoCard

/-- THE SECOND FORM's CARD OF 'lorrylaw26.SimplexLeast'. -/
def simplexLeastUptoCard : Claim7 := { stood := { row := simplexLeastUptoRow, standIns := [], harness := (true, "c038ed214a3c026c13ccfb56b685703d9cc01def5d58ee631fffe0e262061339"), looks := false }, kinds := [], alts := [], laidByText := true, laidKinds := [.data, .data, .data], laidTests := true, laidLooks := .later }
def SimplexLeastUptoCardSaid : Prop := Claim7.holds Tryz.pinned (.plain (OpenSpec.upto simplexLeastSpec)) simplexLeastUptoCard

/-- THE SECOND FORM's CARD OF 'lorrylaw26.SimplexTightens'. -/
def simplexTightensUptoCard : Claim7 := { stood := { row := simplexTightensUptoRow, standIns := [], harness := (true, "c038ed214a3c026c13ccfb56b685703d9cc01def5d58ee631fffe0e262061339"), looks := false }, kinds := [], alts := [], laidByText := true, laidKinds := [.data, .data, .data], laidTests := true, laidLooks := .later }
def SimplexTightensUptoCardSaid : Prop := Claim7.holds Tryz.pinned (.plain (OpenSpec.upto simplexTightensSpec)) simplexTightensUptoCard

/-- THE SECOND FORM's CARD OF 'lorrylaw26.SimplexScales'. -/
def simplexScalesUptoCard : Claim7 := { stood := { row := simplexScalesUptoRow, standIns := [], harness := (true, "c038ed214a3c026c13ccfb56b685703d9cc01def5d58ee631fffe0e262061339"), looks := false }, kinds := [], alts := [], laidByText := true, laidKinds := [.data, .data, .data], laidTests := true, laidLooks := .later }
def SimplexScalesUptoCardSaid : Prop := Claim7.holds Tryz.pinned (.plain (OpenSpec.upto simplexScalesSpec)) simplexScalesUptoCard
end Rows
end Go.Proofs.YtmppmdmekomjbaaGreatDoor
