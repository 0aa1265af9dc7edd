/-
  DERIVED. GIVEN WITH THE SEED: THE CARDS: each row of YtblihfhbaafdoaaGreatDoorRows.lean that lists a variable, with what it lists TIED to the program's text (the seventh form; the later family's looks); each row that meets fmt, with fmt's text TOLD by the authors' own Lean function (tested against real Go, not proved from fmt's source: count such statements apart). THE CARD IS WHAT COUNTS. Prove the row's statement (the work); the ties are given (YtblihfhbaafdoaaGreatDoorTie.lean); close each card by the builder's one call (the guide's Derived/Test/ToyasCard.lean, 'card_holds'). Laid BY PROGRAM, IN A SANDBOX (cutbox-door.mjs). By AI agents, Wed Nov 11 2026. No macro, syntax, notation, axiom, sorry.
-/
import Derived.Test.YtblihfhbaafdoaaGreatDoorRows
import GoSem.ClaimSeven
namespace Go.Proofs.YtblihfhbaafdoaaGreatDoor
namespace Rows

/-- THE TIED CARD OF 'lorrylaw25.LinearChecks'. -/
def linearChecksCard : Claim7 := { stood := { row := linearChecksRow, standIns := [], harness := (true, "5e0f355ed983ba26bb424194067bc35b476624c8c84ca926ab27bf101415efb6"), looks := false }, kinds := [], alts := [], laidByText := true, laidKinds := [.data, .data, .data], laidTests := true, laidLooks := .later }
def LinearChecksCardSaid : Prop := Claim7.holds Tryz.pinned (.plain (OpenSpec.ofChange linearChecksSpec)) linearChecksCard

/-- THE TIED CARD OF 'lorrylaw25.LinearLimits'. -/
def linearLimitsCard : Claim7 := { stood := { row := linearLimitsRow, standIns := [], harness := (true, "5e0f355ed983ba26bb424194067bc35b476624c8c84ca926ab27bf101415efb6"), looks := false }, kinds := [], alts := [], laidByText := true, laidKinds := [.data, .data, .data], laidTests := true, laidLooks := .later }
def LinearLimitsCardSaid : Prop := Claim7.holds Tryz.pinned (.plain (OpenSpec.ofChange linearLimitsSpec)) linearLimitsCard

/-- THE TIED CARD OF 'lorrylaw25.LinearSums'. -/
def linearSumsCard : Claim7 := { stood := { row := linearSumsRow, standIns := [], harness := (true, "5e0f355ed983ba26bb424194067bc35b476624c8c84ca926ab27bf101415efb6"), looks := false }, kinds := [], alts := [], laidByText := true, laidKinds := [.data, .data, .data], laidTests := true, laidLooks := .later }
def LinearSumsCardSaid : Prop := Claim7.holds Tryz.pinned (.plain (OpenSpec.ofChange linearSumsSpec)) linearSumsCard

/-- THE TIED CARD OF 'lorrylaw25.LinearProves'. -/
def linearProvesCard : Claim7 := { stood := { row := linearProvesRow, standIns := [], harness := (true, "5e0f355ed983ba26bb424194067bc35b476624c8c84ca926ab27bf101415efb6"), looks := false }, kinds := [], alts := [], laidByText := true, laidKinds := [.data, .data, .data], laidTests := true, laidLooks := .later }
def LinearProvesCardSaid : Prop := Claim7.holds Tryz.pinned (.plain (OpenSpec.ofChange linearProvesSpec)) linearProvesCard

/-- THE TIED CARD OF 'lorrylaw25.LinearWeak'. -/
def linearWeakCard : Claim7 := { stood := { row := linearWeakRow, standIns := [], harness := (true, "5e0f355ed983ba26bb424194067bc35b476624c8c84ca926ab27bf101415efb6"), looks := false }, kinds := [], alts := [], laidByText := true, laidKinds := [.data, .data, .data], laidTests := true, laidLooks := .later }
def LinearWeakCardSaid : Prop := Claim7.holds Tryz.pinned (.plain (OpenSpec.ofChange linearWeakSpec)) linearWeakCard

/-- THE TIED CARD OF 'lorrylaw25.LinearMeans'. -/
def linearMeansCard : Claim7 := { stood := { row := linearMeansRow, standIns := [], harness := (true, "5e0f355ed983ba26bb424194067bc35b476624c8c84ca926ab27bf101415efb6"), looks := false }, kinds := [], alts := [], laidByText := true, laidKinds := [.data, .data, .data], laidTests := true, laidLooks := .later }
def LinearMeansCardSaid : Prop := Claim7.holds Tryz.pinned (.plain (OpenSpec.ofChange linearMeansSpec)) linearMeansCard

/-- THE SECOND FORM's CARD OF 'lorrylaw25.LinearChecks'. -/
def linearChecksUptoCard : Claim7 := { stood := { row := linearChecksUptoRow, standIns := [], harness := (true, "5e0f355ed983ba26bb424194067bc35b476624c8c84ca926ab27bf101415efb6"), looks := false }, kinds := [], alts := [], laidByText := true, laidKinds := [.data, .data, .data], laidTests := true, laidLooks := .later }
def LinearChecksUptoCardSaid : Prop := Claim7.holds Tryz.pinned (.plain (OpenSpec.upto linearChecksSpec)) linearChecksUptoCard

/-- THE SECOND FORM's CARD OF 'lorrylaw25.LinearLimits'. -/
def linearLimitsUptoCard : Claim7 := { stood := { row := linearLimitsUptoRow, standIns := [], harness := (true, "5e0f355ed983ba26bb424194067bc35b476624c8c84ca926ab27bf101415efb6"), looks := false }, kinds := [], alts := [], laidByText := true, laidKinds := [.data, .data, .data], laidTests := true, laidLooks := .later }
def LinearLimitsUptoCardSaid : Prop := Claim7.holds Tryz.pinned (.plain (OpenSpec.upto linearLimitsSpec)) linearLimitsUptoCard

/-- THE SECOND FORM's CARD OF 'lorrylaw25.LinearSums'. -/
def linearSumsUptoCard : Claim7 := { stood := { row := linearSumsUptoRow, standIns := [], harness := (true, "5e0f355ed983ba26bb424194067bc35b476624c8c84ca926ab27bf101415efb6"), looks := false }, kinds := [], alts := [], laidByText := true, laidKinds := [.data, .data, .data], laidTests := true, laidLooks := .later }
def LinearSumsUptoCardSaid : Prop := Claim7.holds Tryz.pinned (.plain (OpenSpec.upto linearSumsSpec)) linearSumsUptoCard

/-- THE SECOND FORM's CARD OF 'lorrylaw25.LinearProves'. -/
def linearProvesUptoCard : Claim7 := { stood := { row := linearProvesUptoRow, standIns := [], harness := (true, "5e0f355ed983ba26bb424194067bc35b476624c8c84ca926ab27bf101415efb6"), looks := false }, kinds := [], alts := [], laidByText := true, laidKinds := [.data, .data, .data], laidTests := true, laidLooks := .later }
def LinearProvesUptoCardSaid : Prop := Claim7.holds Tryz.pinned (.plain (OpenSpec.upto linearProvesSpec)) linearProvesUptoCard

/-- THE SECOND FORM's CARD OF 'lorrylaw25.LinearWeak'. -/
def linearWeakUptoCard : Claim7 := { stood := { row := linearWeakUptoRow, standIns := [], harness := (true, "5e0f355ed983ba26bb424194067bc35b476624c8c84ca926ab27bf101415efb6"), looks := false }, kinds := [], alts := [], laidByText := true, laidKinds := [.data, .data, .data], laidTests := true, laidLooks := .later }
def LinearWeakUptoCardSaid : Prop := Claim7.holds Tryz.pinned (.plain (OpenSpec.upto linearWeakSpec)) linearWeakUptoCard

/-- THE SECOND FORM's CARD OF 'lorrylaw25.LinearMeans'. -/
def linearMeansUptoCard : Claim7 := { stood := { row := linearMeansUptoRow, standIns := [], harness := (true, "5e0f355ed983ba26bb424194067bc35b476624c8c84ca926ab27bf101415efb6"), looks := false }, kinds := [], alts := [], laidByText := true, laidKinds := [.data, .data, .data], laidTests := true, laidLooks := .later }
def LinearMeansUptoCardSaid : Prop := Claim7.holds Tryz.pinned (.plain (OpenSpec.upto linearMeansSpec)) linearMeansUptoCard
end Rows
end Go.Proofs.YtblihfhbaafdoaaGreatDoor
