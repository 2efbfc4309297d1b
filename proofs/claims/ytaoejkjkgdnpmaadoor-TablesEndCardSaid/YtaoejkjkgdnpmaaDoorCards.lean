/-
  DERIVED. GIVEN WITH THE SEED: THE CARDS: each row of YtaoejkjkgdnpmaaDoorRows.lean that lists a variable, with what it lists TIED to the program's text (the seventh form; the later family's looks); each row that meets fmt, with fmt's text TOLD by the authors' own Lean function (tested against real Go, not proved from fmt's source: count such statements apart). THE CARD IS WHAT COUNTS. Prove the row's statement (the work); the ties are given (YtaoejkjkgdnpmaaDoorTie.lean); close each card by the builder's one call (the guide's Derived/Test/ToyasCard.lean, 'card_holds'). Laid BY PROGRAM, IN A SANDBOX (cutbox-door.mjs). By AI agents, Wed Nov 11 2026. No macro, syntax, notation, axiom, sorry.
-/
import Derived.Test.YtaoejkjkgdnpmaaDoorRows
import GoSem.ClaimSeven
namespace Go.Proofs.YtaoejkjkgdnpmaaDoor
namespace Rows

/-- THE TIED CARD OF 'liaisonlaw10.TablesAlike'. -/
def tablesAlikeCard : Claim7 := { stood := { row := tablesAlikeRow, standIns := [], harness := (true, "47997d22627833e75bc2c60b0dbaebf76a471cca6c83adcfabcd5027a4af1526"), looks := true }, kinds := [], alts := [], laidByText := true, laidKinds := [.sentinel, .sentinel, .sentinel], laidTests := true, laidLooks := .later }
def TablesAlikeCardSaid : Prop := Claim7.holds Tryd.pinned (.plain (OpenSpec.ofChange tablesAlikeSpec)) tablesAlikeCard

/-- THE TIED CARD OF 'liaisonlaw10.TablesLook'. -/
def tablesLookCard : Claim7 := { stood := { row := tablesLookRow, standIns := [], harness := (true, "47997d22627833e75bc2c60b0dbaebf76a471cca6c83adcfabcd5027a4af1526"), looks := true }, kinds := [], alts := [], laidByText := true, laidKinds := [.sentinel, .sentinel, .sentinel, .sentinel, .sentinel, .sentinel, .sentinel, .sentinel, .sentinel, .sentinel, .sentinel, .sentinel, .sentinel, .sentinel], laidTests := true, laidLooks := .later }
def TablesLookCardSaid : Prop := Claim7.holds Tryd.pinned (.plain (OpenSpec.ofChange tablesLookSpec)) tablesLookCard

/-- THE TIED CARD OF 'liaisonlaw10.TablesWaits'. -/
def tablesWaitsCard : Claim7 := { stood := { row := tablesWaitsRow, standIns := [], harness := (true, "47997d22627833e75bc2c60b0dbaebf76a471cca6c83adcfabcd5027a4af1526"), looks := true }, kinds := [], alts := [], laidByText := true, laidKinds := [.sentinel, .sentinel, .sentinel, .sentinel, .sentinel, .sentinel, .sentinel, .sentinel, .sentinel, .sentinel, .sentinel, .sentinel, .sentinel, .sentinel], laidTests := true, laidLooks := .later }
def TablesWaitsCardSaid : Prop := Claim7.holds Tryd.pinned (.plain (OpenSpec.ofChange tablesWaitsSpec)) tablesWaitsCard

/-- THE TIED CARD OF 'liaisonlaw10.TablesSteps'. -/
def tablesStepsCard : Claim7 := { stood := { row := tablesStepsRow, standIns := [], harness := (true, "47997d22627833e75bc2c60b0dbaebf76a471cca6c83adcfabcd5027a4af1526"), looks := true }, kinds := [], alts := [], laidByText := true, laidKinds := [.sentinel, .sentinel, .sentinel, .sentinel, .sentinel, .sentinel, .sentinel, .sentinel, .sentinel, .sentinel, .sentinel, .sentinel, .sentinel, .sentinel], laidTests := true, laidLooks := .later }
def TablesStepsCardSaid : Prop := Claim7.holds Tryd.pinned (.plain (OpenSpec.ofChange tablesStepsSpec)) tablesStepsCard

/-- THE TIED CARD OF 'liaisonlaw10.TablesMeet'. -/
def tablesMeetCard : Claim7 := { stood := { row := tablesMeetRow, standIns := [], harness := (true, "47997d22627833e75bc2c60b0dbaebf76a471cca6c83adcfabcd5027a4af1526"), looks := true }, kinds := [], alts := [], laidByText := true, laidKinds := [.sentinel, .sentinel, .sentinel], laidTests := true, laidLooks := .later }
def TablesMeetCardSaid : Prop := Claim7.holds Tryd.pinned (.plain (OpenSpec.ofChange tablesMeetSpec)) tablesMeetCard

/-- THE TIED CARD OF 'liaisonlaw10.TablesEnd'. -/
def tablesEndCard : Claim7 := { stood := { row := tablesEndRow, standIns := [], harness := (true, "47997d22627833e75bc2c60b0dbaebf76a471cca6c83adcfabcd5027a4af1526"), looks := true }, kinds := [], alts := [], laidByText := true, laidKinds := [.sentinel, .sentinel, .sentinel, .sentinel], laidTests := true, laidLooks := .later }
def TablesEndCardSaid : Prop := Claim7.holds Tryd.pinned (.plain (OpenSpec.ofChange tablesEndSpec)) tablesEndCard

/-- THE TIED CARD OF 'liaisonlaw10.TablesLists'. -/
def tablesListsCard : Claim7 := { stood := { row := tablesListsRow, standIns := [], harness := (true, "47997d22627833e75bc2c60b0dbaebf76a471cca6c83adcfabcd5027a4af1526"), looks := true }, kinds := [], alts := [], laidByText := true, laidKinds := [.sentinel, .sentinel, .sentinel, .sentinel, .sentinel, .sentinel, .sentinel, .sentinel, .sentinel, .sentinel, .sentinel, .sentinel, .sentinel, .sentinel], laidTests := true, laidLooks := .later }
def TablesListsCardSaid : Prop := Claim7.holds Tryd.pinned (.plain (OpenSpec.ofChange tablesListsSpec)) tablesListsCard

/-- THE SECOND FORM's CARD OF 'liaisonlaw10.TablesAlike'. -/
def tablesAlikeUptoCard : Claim7 := { stood := { row := tablesAlikeUptoRow, standIns := [], harness := (true, "47997d22627833e75bc2c60b0dbaebf76a471cca6c83adcfabcd5027a4af1526"), looks := true }, kinds := [], alts := [], laidByText := true, laidKinds := [.sentinel, .sentinel, .sentinel], laidTests := true, laidLooks := .later }
def TablesAlikeUptoCardSaid : Prop := Claim7.holds Tryd.pinned (.plain (OpenSpec.upto tablesAlikeSpec)) tablesAlikeUptoCard

/-- THE SECOND FORM's CARD OF 'liaisonlaw10.TablesLook'. -/
def tablesLookUptoCard : Claim7 := { stood := { row := tablesLookUptoRow, standIns := [], harness := (true, "47997d22627833e75bc2c60b0dbaebf76a471cca6c83adcfabcd5027a4af1526"), looks := true }, kinds := [], alts := [], laidByText := true, laidKinds := [.sentinel, .sentinel, .sentinel, .sentinel, .sentinel, .sentinel, .sentinel, .sentinel, .sentinel, .sentinel, .sentinel, .sentinel, .sentinel, .sentinel], laidTests := true, laidLooks := .later }
def TablesLookUptoCardSaid : Prop := Claim7.holds Tryd.pinned (.plain (OpenSpec.upto tablesLookSpec)) tablesLookUptoCard

/-- THE SECOND FORM's CARD OF 'liaisonlaw10.TablesWaits'. -/
def tablesWaitsUptoCard : Claim7 := { stood := { row := tablesWaitsUptoRow, standIns := [], harness := (true, "47997d22627833e75bc2c60b0dbaebf76a471cca6c83adcfabcd5027a4af1526"), looks := true }, kinds := [], alts := [], laidByText := true, laidKinds := [.sentinel, .sentinel, .sentinel, .sentinel, .sentinel, .sentinel, .sentinel, .sentinel, .sentinel, .sentinel, .sentinel, .sentinel, .sentinel, .sentinel], laidTests := true, laidLooks := .later }
def TablesWaitsUptoCardSaid : Prop := Claim7.holds Tryd.pinned (.plain (OpenSpec.upto tablesWaitsSpec)) tablesWaitsUptoCard

/-- THE SECOND FORM's CARD OF 'liaisonlaw10.TablesSteps'. -/
def tablesStepsUptoCard : Claim7 := { stood := { row := tablesStepsUptoRow, standIns := [], harness := (true, "47997d22627833e75bc2c60b0dbaebf76a471cca6c83adcfabcd5027a4af1526"), looks := true }, kinds := [], alts := [], laidByText := true, laidKinds := [.sentinel, .sentinel, .sentinel, .sentinel, .sentinel, .sentinel, .sentinel, .sentinel, .sentinel, .sentinel, .sentinel, .sentinel, .sentinel, .sentinel], laidTests := true, laidLooks := .later }
def TablesStepsUptoCardSaid : Prop := Claim7.holds Tryd.pinned (.plain (OpenSpec.upto tablesStepsSpec)) tablesStepsUptoCard

/-- THE SECOND FORM's CARD OF 'liaisonlaw10.TablesMeet'. -/
def tablesMeetUptoCard : Claim7 := { stood := { row := tablesMeetUptoRow, standIns := [], harness := (true, "47997d22627833e75bc2c60b0dbaebf76a471cca6c83adcfabcd5027a4af1526"), looks := true }, kinds := [], alts := [], laidByText := true, laidKinds := [.sentinel, .sentinel, .sentinel], laidTests := true, laidLooks := .later }
def TablesMeetUptoCardSaid : Prop := Claim7.holds Tryd.pinned (.plain (OpenSpec.upto tablesMeetSpec)) tablesMeetUptoCard

/-- THE SECOND FORM's CARD OF 'liaisonlaw10.TablesEnd'. -/
def tablesEndUptoCard : Claim7 := { stood := { row := tablesEndUptoRow, standIns := [], harness := (true, "47997d22627833e75bc2c60b0dbaebf76a471cca6c83adcfabcd5027a4af1526"), looks := true }, kinds := [], alts := [], laidByText := true, laidKinds := [.sentinel, .sentinel, .sentinel, .sentinel], laidTests := true, laidLooks := .later }
def TablesEndUptoCardSaid : Prop := Claim7.holds Tryd.pinned (.plain (OpenSpec.upto tablesEndSpec)) tablesEndUptoCard

/-- THE SECOND FORM's CARD OF 'liaisonlaw10.TablesLists'. -/
def tablesListsUptoCard : Claim7 := { stood := { row := tablesListsUptoRow, standIns := [], harness := (true, "47997d22627833e75bc2c60b0dbaebf76a471cca6c83adcfabcd5027a4af1526"), looks := true }, kinds := [], alts := [], laidByText := true, laidKinds := [.sentinel, .sentinel, .sentinel, .sentinel, .sentinel, .sentinel, .sentinel, .sentinel, .sentinel, .sentinel, .sentinel, .sentinel, .sentinel, .sentinel], laidTests := true, laidLooks := .later }
def TablesListsUptoCardSaid : Prop := Claim7.holds Tryd.pinned (.plain (OpenSpec.upto tablesListsSpec)) tablesListsUptoCard
end Rows
end Go.Proofs.YtaoejkjkgdnpmaaDoor
