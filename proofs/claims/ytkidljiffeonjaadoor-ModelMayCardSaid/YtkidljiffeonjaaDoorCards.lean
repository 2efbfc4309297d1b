/-
  DERIVED. GIVEN WITH THE SEED: THE CARDS: each row of YtkidljiffeonjaaDoorRows.lean that lists a variable, with what it lists TIED to the program's text (the seventh form; the later family's looks); each row that meets fmt, with fmt's text TOLD by the authors' own Lean function (tested against real Go, not proved from fmt's source: count such statements apart). THE CARD IS WHAT COUNTS. Prove the row's statement (the work); the ties are given (YtkidljiffeonjaaDoorTie.lean); close each card by the builder's one call (the guide's Derived/Test/ToyasCard.lean, 'card_holds'). Laid BY PROGRAM, IN A SANDBOX (cutbox-door.mjs). By AI agents, Wed Nov 11 2026. No macro, syntax, notation, axiom, sorry.
-/
import Derived.Test.YtkidljiffeonjaaDoorRows
import GoSem.ClaimSeven
namespace Go.Proofs.YtkidljiffeonjaaDoor
namespace Rows

/-- THE TIED CARD OF 'liaisonlaw28.ClerkPlans'. -/
def clerkPlansCard : Claim7 := { stood := { row := clerkPlansRow, standIns := [], harness := (true, "6a46a96f20ce69d5549495ad9a3526a1ae41a3dd2a094dbe70b693e2da95c1db"), looks := true }, kinds := [], alts := [], laidByText := true, laidKinds := [.sentinel, .sentinel, .sentinel, .sentinel, .sentinel, .sentinel, .sentinel, .sentinel, .sentinel, .sentinel, .sentinel, .sentinel, .sentinel, .sentinel], laidTests := true, laidLooks := .later }
def ClerkPlansCardSaid : Prop := Claim7.holds Tryd.pinned (.plain (OpenSpec.ofChange clerkPlansSpec)) clerkPlansCard

/-- THE TIED CARD OF 'liaisonlaw18.VerdictAsks'. -/
def verdictAsksCard : Claim7 := { stood := { row := verdictAsksRow, standIns := [], harness := (true, "6a46a96f20ce69d5549495ad9a3526a1ae41a3dd2a094dbe70b693e2da95c1db"), looks := true }, kinds := [], alts := [], laidByText := true, laidKinds := [.sentinel, .sentinel], laidTests := true, laidLooks := .later }
def VerdictAsksCardSaid : Prop := Claim7.holds Tryd.pinned (.plain (OpenSpec.ofChange verdictAsksSpec)) verdictAsksCard

/-- THE TIED CARD OF 'liaisonlaw22.ModelMay'. -/
def modelMayCard : Claim7 := { stood := { row := modelMayRow, standIns := [], harness := (true, "6a46a96f20ce69d5549495ad9a3526a1ae41a3dd2a094dbe70b693e2da95c1db"), looks := true }, kinds := [], alts := [], laidByText := true, laidKinds := [.sentinel, .sentinel, .sentinel, .sentinel], laidTests := true, laidLooks := .later }
def ModelMayCardSaid : Prop := Claim7.holds Tryd.pinned (.plain (OpenSpec.ofChange modelMaySpec)) modelMayCard

/-- THE TIED CARD OF 'liaisonlaw13.TimersOrder'. -/
def timersOrderCard : Claim7 := { stood := { row := timersOrderRow, standIns := [], harness := (true, "6a46a96f20ce69d5549495ad9a3526a1ae41a3dd2a094dbe70b693e2da95c1db"), looks := true }, kinds := [], alts := [], laidByText := true, laidKinds := [.sentinel, .sentinel, .sentinel, .sentinel], laidTests := true, laidLooks := .later }
def TimersOrderCardSaid : Prop := Claim7.holds Tryd.pinned (.plain (OpenSpec.ofChange timersOrderSpec)) timersOrderCard

/-- THE TIED CARD OF 'liaisonlaw13.TimersComes'. -/
def timersComesCard : Claim7 := { stood := { row := timersComesRow, standIns := [], harness := (true, "6a46a96f20ce69d5549495ad9a3526a1ae41a3dd2a094dbe70b693e2da95c1db"), looks := true }, kinds := [], alts := [], laidByText := true, laidKinds := [.sentinel, .sentinel, .sentinel, .sentinel], laidTests := true, laidLooks := .later }
def TimersComesCardSaid : Prop := Claim7.holds Tryd.pinned (.plain (OpenSpec.ofChange timersComesSpec)) timersComesCard

/-- THE TIED CARD OF 'liaisonlaw13.TimersFull'. -/
def timersFullCard : Claim7 := { stood := { row := timersFullRow, standIns := [], harness := (true, "6a46a96f20ce69d5549495ad9a3526a1ae41a3dd2a094dbe70b693e2da95c1db"), looks := true }, kinds := [], alts := [], laidByText := true, laidKinds := [.sentinel, .sentinel, .sentinel, .sentinel, .sentinel, .sentinel, .sentinel, .sentinel, .sentinel, .sentinel, .sentinel, .sentinel, .sentinel, .sentinel], laidTests := true, laidLooks := .later }
def TimersFullCardSaid : Prop := Claim7.holds Tryd.pinned (.plain (OpenSpec.ofChange timersFullSpec)) timersFullCard

/-- THE TIED CARD OF 'liaisonlaw13.TimersPlays'. -/
def timersPlaysCard : Claim7 := { stood := { row := timersPlaysRow, standIns := [], harness := (true, "6a46a96f20ce69d5549495ad9a3526a1ae41a3dd2a094dbe70b693e2da95c1db"), looks := true }, kinds := [], alts := [], laidByText := true, laidKinds := [.sentinel, .sentinel, .sentinel, .sentinel, .sentinel, .sentinel, .sentinel, .sentinel, .sentinel, .sentinel, .sentinel, .sentinel, .sentinel, .sentinel], laidTests := true, laidLooks := .later }
def TimersPlaysCardSaid : Prop := Claim7.holds Tryd.pinned (.plain (OpenSpec.ofChange timersPlaysSpec)) timersPlaysCard

/-- THE SECOND FORM's CARD OF 'liaisonlaw28.ClerkPlans'. -/
def clerkPlansUptoCard : Claim7 := { stood := { row := clerkPlansUptoRow, standIns := [], harness := (true, "6a46a96f20ce69d5549495ad9a3526a1ae41a3dd2a094dbe70b693e2da95c1db"), looks := true }, kinds := [], alts := [], laidByText := true, laidKinds := [.sentinel, .sentinel, .sentinel, .sentinel, .sentinel, .sentinel, .sentinel, .sentinel, .sentinel, .sentinel, .sentinel, .sentinel, .sentinel, .sentinel], laidTests := true, laidLooks := .later }
def ClerkPlansUptoCardSaid : Prop := Claim7.holds Tryd.pinned (.plain (OpenSpec.upto clerkPlansSpec)) clerkPlansUptoCard

/-- THE SECOND FORM's CARD OF 'liaisonlaw18.VerdictAsks'. -/
def verdictAsksUptoCard : Claim7 := { stood := { row := verdictAsksUptoRow, standIns := [], harness := (true, "6a46a96f20ce69d5549495ad9a3526a1ae41a3dd2a094dbe70b693e2da95c1db"), looks := true }, kinds := [], alts := [], laidByText := true, laidKinds := [.sentinel, .sentinel], laidTests := true, laidLooks := .later }
def VerdictAsksUptoCardSaid : Prop := Claim7.holds Tryd.pinned (.plain (OpenSpec.upto verdictAsksSpec)) verdictAsksUptoCard

/-- THE SECOND FORM's CARD OF 'liaisonlaw22.ModelMay'. -/
def modelMayUptoCard : Claim7 := { stood := { row := modelMayUptoRow, standIns := [], harness := (true, "6a46a96f20ce69d5549495ad9a3526a1ae41a3dd2a094dbe70b693e2da95c1db"), looks := true }, kinds := [], alts := [], laidByText := true, laidKinds := [.sentinel, .sentinel, .sentinel, .sentinel], laidTests := true, laidLooks := .later }
def ModelMayUptoCardSaid : Prop := Claim7.holds Tryd.pinned (.plain (OpenSpec.upto modelMaySpec)) modelMayUptoCard

/-- THE SECOND FORM's CARD OF 'liaisonlaw13.TimersOrder'. -/
def timersOrderUptoCard : Claim7 := { stood := { row := timersOrderUptoRow, standIns := [], harness := (true, "6a46a96f20ce69d5549495ad9a3526a1ae41a3dd2a094dbe70b693e2da95c1db"), looks := true }, kinds := [], alts := [], laidByText := true, laidKinds := [.sentinel, .sentinel, .sentinel, .sentinel], laidTests := true, laidLooks := .later }
def TimersOrderUptoCardSaid : Prop := Claim7.holds Tryd.pinned (.plain (OpenSpec.upto timersOrderSpec)) timersOrderUptoCard

/-- THE SECOND FORM's CARD OF 'liaisonlaw13.TimersComes'. -/
def timersComesUptoCard : Claim7 := { stood := { row := timersComesUptoRow, standIns := [], harness := (true, "6a46a96f20ce69d5549495ad9a3526a1ae41a3dd2a094dbe70b693e2da95c1db"), looks := true }, kinds := [], alts := [], laidByText := true, laidKinds := [.sentinel, .sentinel, .sentinel, .sentinel], laidTests := true, laidLooks := .later }
def TimersComesUptoCardSaid : Prop := Claim7.holds Tryd.pinned (.plain (OpenSpec.upto timersComesSpec)) timersComesUptoCard

/-- THE SECOND FORM's CARD OF 'liaisonlaw13.TimersFull'. -/
def timersFullUptoCard : Claim7 := { stood := { row := timersFullUptoRow, standIns := [], harness := (true, "6a46a96f20ce69d5549495ad9a3526a1ae41a3dd2a094dbe70b693e2da95c1db"), looks := true }, kinds := [], alts := [], laidByText := true, laidKinds := [.sentinel, .sentinel, .sentinel, .sentinel, .sentinel, .sentinel, .sentinel, .sentinel, .sentinel, .sentinel, .sentinel, .sentinel, .sentinel, .sentinel], laidTests := true, laidLooks := .later }
def TimersFullUptoCardSaid : Prop := Claim7.holds Tryd.pinned (.plain (OpenSpec.upto timersFullSpec)) timersFullUptoCard

/-- THE SECOND FORM's CARD OF 'liaisonlaw13.TimersPlays'. -/
def timersPlaysUptoCard : Claim7 := { stood := { row := timersPlaysUptoRow, standIns := [], harness := (true, "6a46a96f20ce69d5549495ad9a3526a1ae41a3dd2a094dbe70b693e2da95c1db"), looks := true }, kinds := [], alts := [], laidByText := true, laidKinds := [.sentinel, .sentinel, .sentinel, .sentinel, .sentinel, .sentinel, .sentinel, .sentinel, .sentinel, .sentinel, .sentinel, .sentinel, .sentinel, .sentinel], laidTests := true, laidLooks := .later }
def TimersPlaysUptoCardSaid : Prop := Claim7.holds Tryd.pinned (.plain (OpenSpec.upto timersPlaysSpec)) timersPlaysUptoCard
end Rows
end Go.Proofs.YtkidljiffeonjaaDoor
