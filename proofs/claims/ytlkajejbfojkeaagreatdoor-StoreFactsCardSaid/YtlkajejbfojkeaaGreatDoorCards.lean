/-
  DERIVED. GIVEN WITH THE SEED: THE CARDS: each row of YtlkajejbfojkeaaGreatDoorRows.lean that lists a variable, with what it lists TIED to the program's text (the seventh form; the later family's looks); each row that meets fmt, with fmt's text TOLD by the authors' own Lean function (tested against real Go, not proved from fmt's source: count such statements apart). THE CARD IS WHAT COUNTS. Prove the row's statement (the work); the ties are given (YtlkajejbfojkeaaGreatDoorTie.lean); close each card by the builder's one call (the guide's Derived/Test/ToyasCard.lean, 'card_holds'). Laid BY PROGRAM, IN A SANDBOX (cutbox-door.mjs). By AI agents, Wed Nov 11 2026. No macro, syntax, notation, axiom, sorry.
-/
import Derived.Test.YtlkajejbfojkeaaGreatDoorRows
import GoSem.ClaimSeven
namespace Go.Proofs.YtlkajejbfojkeaaGreatDoor
namespace Rows

/-- THE TIED CARD OF 'liaisonlaw15.StorePlays'. -/
def storePlaysCard : Claim7 := { stood := { row := storePlaysRow, standIns := [], harness := (true, "9b8d786d2c7fdc1a303f5abec2a1ae25177c66a6261dd4025a7a75d56b550917"), looks := true }, kinds := [], alts := [], laidByText := true, laidKinds := [.data, .data, .data, .sentinel, .sentinel, .sentinel, .sentinel, .sentinel, .sentinel, .sentinel, .sentinel, .sentinel, .sentinel, .sentinel, .sentinel, .sentinel, .sentinel], laidTests := true, laidLooks := .later }
def StorePlaysCardSaid : Prop := Claim7.holds Tryz.pinned (.plain (OpenSpec.ofChange storePlaysSpec)) storePlaysCard

/-- THE TIED CARD OF 'liaisonlaw15.StoreApart'. -/
def storeApartCard : Claim7 := { stood := { row := storeApartRow, standIns := [], harness := (true, "9b8d786d2c7fdc1a303f5abec2a1ae25177c66a6261dd4025a7a75d56b550917"), looks := true }, kinds := [], alts := [], laidByText := true, laidKinds := [.data, .data, .data, .sentinel, .sentinel, .sentinel, .sentinel, .sentinel, .sentinel, .sentinel, .sentinel, .sentinel, .sentinel, .sentinel, .sentinel, .sentinel, .sentinel], laidTests := true, laidLooks := .later }
def StoreApartCardSaid : Prop := Claim7.holds Tryz.pinned (.plain (OpenSpec.ofChange storeApartSpec)) storeApartCard

/-- THE TIED CARD OF 'liaisonlaw15.StoreReplays'. -/
def storeReplaysCard : Claim7 := { stood := { row := storeReplaysRow, standIns := [], harness := (true, "9b8d786d2c7fdc1a303f5abec2a1ae25177c66a6261dd4025a7a75d56b550917"), looks := true }, kinds := [], alts := [], laidByText := true, laidKinds := [.data, .data, .data, .sentinel, .sentinel, .sentinel, .sentinel, .sentinel, .sentinel, .sentinel, .sentinel, .sentinel, .sentinel, .sentinel, .sentinel, .sentinel, .sentinel], laidTests := true, laidLooks := .later }
def StoreReplaysCardSaid : Prop := Claim7.holds Tryz.pinned (.plain (OpenSpec.ofChange storeReplaysSpec)) storeReplaysCard

/-- THE TIED CARD OF 'liaisonlaw15.StoreStays'. -/
def storeStaysCard : Claim7 := { stood := { row := storeStaysRow, standIns := [], harness := (true, "9b8d786d2c7fdc1a303f5abec2a1ae25177c66a6261dd4025a7a75d56b550917"), looks := true }, kinds := [], alts := [], laidByText := true, laidKinds := [.data, .data, .data, .sentinel, .sentinel, .sentinel, .sentinel, .sentinel, .sentinel, .sentinel, .sentinel, .sentinel, .sentinel, .sentinel, .sentinel, .sentinel, .sentinel], laidTests := true, laidLooks := .later }
def StoreStaysCardSaid : Prop := Claim7.holds Tryz.pinned (.plain (OpenSpec.ofChange storeStaysSpec)) storeStaysCard

/-- THE TIED CARD OF 'liaisonlaw15.StoreFacts'. -/
def storeFactsCard : Claim7 := { stood := { row := storeFactsRow, standIns := [], harness := (true, "9b8d786d2c7fdc1a303f5abec2a1ae25177c66a6261dd4025a7a75d56b550917"), looks := true }, kinds := [], alts := [], laidByText := true, laidKinds := [.data, .data, .data, .sentinel, .sentinel, .sentinel, .sentinel, .sentinel, .sentinel, .sentinel, .sentinel, .sentinel, .sentinel, .sentinel, .sentinel, .sentinel, .sentinel], laidTests := true, laidLooks := .later }
def StoreFactsCardSaid : Prop := Claim7.holds Tryz.pinned (.plain (OpenSpec.ofChange storeFactsSpec)) storeFactsCard

/-- THE TIED CARD OF 'liaisonlaw16.PartnerOnce'. -/
def partnerOnceCard : Claim7 := { stood := { row := partnerOnceRow, standIns := [], harness := (true, "9b8d786d2c7fdc1a303f5abec2a1ae25177c66a6261dd4025a7a75d56b550917"), looks := true }, kinds := [], alts := [], laidByText := true, laidKinds := [.data, .data, .data, .sentinel, .sentinel, .sentinel, .sentinel, .sentinel, .sentinel, .sentinel, .sentinel, .sentinel, .sentinel, .sentinel, .sentinel, .sentinel, .sentinel], laidTests := true, laidLooks := .later }
def PartnerOnceCardSaid : Prop := Claim7.holds Tryz.pinned (.plain (OpenSpec.ofChange partnerOnceSpec)) partnerOnceCard

/-- THE TIED CARD OF 'liaisonlaw16.PartnerJoins'. -/
def partnerJoinsCard : Claim7 := { stood := { row := partnerJoinsRow, standIns := [], harness := (true, "9b8d786d2c7fdc1a303f5abec2a1ae25177c66a6261dd4025a7a75d56b550917"), looks := true }, kinds := [], alts := [], laidByText := true, laidKinds := [.data, .data, .data, .sentinel, .sentinel, .sentinel, .sentinel, .sentinel, .sentinel, .sentinel, .sentinel, .sentinel, .sentinel, .sentinel, .sentinel, .sentinel, .sentinel], laidTests := true, laidLooks := .later }
def PartnerJoinsCardSaid : Prop := Claim7.holds Tryz.pinned (.plain (OpenSpec.ofChange partnerJoinsSpec)) partnerJoinsCard

/-- THE TIED CARD OF 'liaisonlaw16.PartnerAnswers'. -/
def partnerAnswersCard : Claim7 := { stood := { row := partnerAnswersRow, standIns := [], harness := (true, "9b8d786d2c7fdc1a303f5abec2a1ae25177c66a6261dd4025a7a75d56b550917"), looks := true }, kinds := [], alts := [], laidByText := true, laidKinds := [.data, .data, .data, .sentinel, .sentinel, .sentinel, .sentinel, .sentinel, .sentinel, .sentinel, .sentinel, .sentinel, .sentinel, .sentinel, .sentinel, .sentinel, .sentinel], laidTests := true, laidLooks := .later }
def PartnerAnswersCardSaid : Prop := Claim7.holds Tryz.pinned (.plain (OpenSpec.ofChange partnerAnswersSpec)) partnerAnswersCard

/-- THE TIED CARD OF 'liaisonlaw16.PartnerDoes'. -/
def partnerDoesCard : Claim7 := { stood := { row := partnerDoesRow, standIns := [], harness := (true, "9b8d786d2c7fdc1a303f5abec2a1ae25177c66a6261dd4025a7a75d56b550917"), looks := true }, kinds := [], alts := [], laidByText := true, laidKinds := [.data, .data, .data, .sentinel, .sentinel, .sentinel, .sentinel, .sentinel, .sentinel, .sentinel, .sentinel, .sentinel, .sentinel, .sentinel, .sentinel, .sentinel, .sentinel], laidTests := true, laidLooks := .later }
def PartnerDoesCardSaid : Prop := Claim7.holds Tryz.pinned (.plain (OpenSpec.ofChange partnerDoesSpec)) partnerDoesCard

/-- THE TIED CARD OF 'liaisonlaw18.VerdictDecides'. -/
def verdictDecidesCard : Claim7 := { stood := { row := verdictDecidesRow, standIns := [], harness := (true, "9b8d786d2c7fdc1a303f5abec2a1ae25177c66a6261dd4025a7a75d56b550917"), looks := true }, kinds := [], alts := [], laidByText := true, laidKinds := [.data, .data, .data, .sentinel, .sentinel, .sentinel, .sentinel, .sentinel, .sentinel, .sentinel, .sentinel, .sentinel, .sentinel, .sentinel, .sentinel, .sentinel, .sentinel], laidTests := true, laidLooks := .later }
def VerdictDecidesCardSaid : Prop := Claim7.holds Tryz.pinned (.plain (OpenSpec.ofChange verdictDecidesSpec)) verdictDecidesCard

/-- THE TIED CARD OF 'liaisonlaw18.VerdictUniform'. -/
def verdictUniformCard : Claim7 := { stood := { row := verdictUniformRow, standIns := [], harness := (true, "9b8d786d2c7fdc1a303f5abec2a1ae25177c66a6261dd4025a7a75d56b550917"), looks := true }, kinds := [], alts := [], laidByText := true, laidKinds := [.data, .data, .data, .sentinel, .sentinel, .sentinel, .sentinel, .sentinel, .sentinel, .sentinel, .sentinel, .sentinel, .sentinel, .sentinel, .sentinel, .sentinel, .sentinel], laidTests := true, laidLooks := .later }
def VerdictUniformCardSaid : Prop := Claim7.holds Tryz.pinned (.plain (OpenSpec.ofChange verdictUniformSpec)) verdictUniformCard

/-- THE TIED CARD OF 'liaisonlaw17.LeadOnce'. -/
def leadOnceCard : Claim7 := { stood := { row := leadOnceRow, standIns := [], harness := (true, "9b8d786d2c7fdc1a303f5abec2a1ae25177c66a6261dd4025a7a75d56b550917"), looks := true }, kinds := [], alts := [], laidByText := true, laidKinds := [.data, .data, .data, .sentinel, .sentinel, .sentinel, .sentinel, .sentinel, .sentinel, .sentinel, .sentinel, .sentinel, .sentinel, .sentinel, .sentinel, .sentinel, .sentinel], laidTests := true, laidLooks := .later }
def LeadOnceCardSaid : Prop := Claim7.holds Tryz.pinned (.plain (OpenSpec.ofChange leadOnceSpec)) leadOnceCard

/-- THE TIED CARD OF 'liaisonlaw17.LeadAnswers'. -/
def leadAnswersCard : Claim7 := { stood := { row := leadAnswersRow, standIns := [], harness := (true, "9b8d786d2c7fdc1a303f5abec2a1ae25177c66a6261dd4025a7a75d56b550917"), looks := true }, kinds := [], alts := [], laidByText := true, laidKinds := [.data, .data, .data, .sentinel, .sentinel, .sentinel, .sentinel, .sentinel, .sentinel, .sentinel, .sentinel, .sentinel, .sentinel, .sentinel, .sentinel, .sentinel, .sentinel], laidTests := true, laidLooks := .later }
def LeadAnswersCardSaid : Prop := Claim7.holds Tryz.pinned (.plain (OpenSpec.ofChange leadAnswersSpec)) leadAnswersCard

/-- THE TIED CARD OF 'liaisonlaw17.LeadDirects'. -/
def leadDirectsCard : Claim7 := { stood := { row := leadDirectsRow, standIns := [], harness := (true, "9b8d786d2c7fdc1a303f5abec2a1ae25177c66a6261dd4025a7a75d56b550917"), looks := true }, kinds := [], alts := [], laidByText := true, laidKinds := [.data, .data, .data, .sentinel, .sentinel, .sentinel, .sentinel, .sentinel, .sentinel, .sentinel, .sentinel, .sentinel, .sentinel, .sentinel, .sentinel, .sentinel, .sentinel], laidTests := true, laidLooks := .later }
def LeadDirectsCardSaid : Prop := Claim7.holds Tryz.pinned (.plain (OpenSpec.ofChange leadDirectsSpec)) leadDirectsCard

/-- THE TIED CARD OF 'liaisonlaw17.LeadOpens'. -/
def leadOpensCard : Claim7 := { stood := { row := leadOpensRow, standIns := [], harness := (true, "9b8d786d2c7fdc1a303f5abec2a1ae25177c66a6261dd4025a7a75d56b550917"), looks := true }, kinds := [], alts := [], laidByText := true, laidKinds := [.data, .data, .data, .sentinel, .sentinel, .sentinel, .sentinel, .sentinel, .sentinel, .sentinel, .sentinel, .sentinel, .sentinel, .sentinel, .sentinel, .sentinel, .sentinel], laidTests := true, laidLooks := .later }
def LeadOpensCardSaid : Prop := Claim7.holds Tryz.pinned (.plain (OpenSpec.ofChange leadOpensSpec)) leadOpensCard

/-- THE SECOND FORM's CARD OF 'liaisonlaw15.StorePlays'. -/
def storePlaysUptoCard : Claim7 := { stood := { row := storePlaysUptoRow, standIns := [], harness := (true, "9b8d786d2c7fdc1a303f5abec2a1ae25177c66a6261dd4025a7a75d56b550917"), looks := true }, kinds := [], alts := [], laidByText := true, laidKinds := [.data, .data, .data, .sentinel, .sentinel, .sentinel, .sentinel, .sentinel, .sentinel, .sentinel, .sentinel, .sentinel, .sentinel, .sentinel, .sentinel, .sentinel, .sentinel], laidTests := true, laidLooks := .later }
def StorePlaysUptoCardSaid : Prop := Claim7.holds Tryz.pinned (.plain (OpenSpec.upto storePlaysSpec)) storePlaysUptoCard

/-- THE SECOND FORM's CARD OF 'liaisonlaw15.StoreApart'. -/
def storeApartUptoCard : Claim7 := { stood := { row := storeApartUptoRow, standIns := [], harness := (true, "9b8d786d2c7fdc1a303f5abec2a1ae25177c66a6261dd4025a7a75d56b550917"), looks := true }, kinds := [], alts := [], laidByText := true, laidKinds := [.data, .data, .data, .sentinel, .sentinel, .sentinel, .sentinel, .sentinel, .sentinel, .sentinel, .sentinel, .sentinel, .sentinel, .sentinel, .sentinel, .sentinel, .sentinel], laidTests := true, laidLooks := .later }
def StoreApartUptoCardSaid : Prop := Claim7.holds Tryz.pinned (.plain (OpenSpec.upto storeApartSpec)) storeApartUptoCard

/-- THE SECOND FORM's CARD OF 'liaisonlaw15.StoreReplays'. -/
def storeReplaysUptoCard : Claim7 := { stood := { row := storeReplaysUptoRow, standIns := [], harness := (true, "9b8d786d2c7fdc1a303f5abec2a1ae25177c66a6261dd4025a7a75d56b550917"), looks := true }, kinds := [], alts := [], laidByText := true, laidKinds := [.data, .data, .data, .sentinel, .sentinel, .sentinel, .sentinel, .sentinel, .sentinel, .sentinel, .sentinel, .sentinel, .sentinel, .sentinel, .sentinel, .sentinel, .sentinel], laidTests := true, laidLooks := .later }
def StoreReplaysUptoCardSaid : Prop := Claim7.holds Tryz.pinned (.plain (OpenSpec.upto storeReplaysSpec)) storeReplaysUptoCard

/-- THE SECOND FORM's CARD OF 'liaisonlaw15.StoreStays'. -/
def storeStaysUptoCard : Claim7 := { stood := { row := storeStaysUptoRow, standIns := [], harness := (true, "9b8d786d2c7fdc1a303f5abec2a1ae25177c66a6261dd4025a7a75d56b550917"), looks := true }, kinds := [], alts := [], laidByText := true, laidKinds := [.data, .data, .data, .sentinel, .sentinel, .sentinel, .sentinel, .sentinel, .sentinel, .sentinel, .sentinel, .sentinel, .sentinel, .sentinel, .sentinel, .sentinel, .sentinel], laidTests := true, laidLooks := .later }
def StoreStaysUptoCardSaid : Prop := Claim7.holds Tryz.pinned (.plain (OpenSpec.upto storeStaysSpec)) storeStaysUptoCard

/-- THE SECOND FORM's CARD OF 'liaisonlaw15.StoreFacts'. -/
def storeFactsUptoCard : Claim7 := { stood := { row := storeFactsUptoRow, standIns := [], harness := (true, "9b8d786d2c7fdc1a303f5abec2a1ae25177c66a6261dd4025a7a75d56b550917"), looks := true }, kinds := [], alts := [], laidByText := true, laidKinds := [.data, .data, .data, .sentinel, .sentinel, .sentinel, .sentinel, .sentinel, .sentinel, .sentinel, .sentinel, .sentinel, .sentinel, .sentinel, .sentinel, .sentinel, .sentinel], laidTests := true, laidLooks := .later }
def StoreFactsUptoCardSaid : Prop := Claim7.holds Tryz.pinned (.plain (OpenSpec.upto storeFactsSpec)) storeFactsUptoCard

/-- THE SECOND FORM's CARD OF 'liaisonlaw16.PartnerOnce'. -/
def partnerOnceUptoCard : Claim7 := { stood := { row := partnerOnceUptoRow, standIns := [], harness := (true, "9b8d786d2c7fdc1a303f5abec2a1ae25177c66a6261dd4025a7a75d56b550917"), looks := true }, kinds := [], alts := [], laidByText := true, laidKinds := [.data, .data, .data, .sentinel, .sentinel, .sentinel, .sentinel, .sentinel, .sentinel, .sentinel, .sentinel, .sentinel, .sentinel, .sentinel, .sentinel, .sentinel, .sentinel], laidTests := true, laidLooks := .later }
def PartnerOnceUptoCardSaid : Prop := Claim7.holds Tryz.pinned (.plain (OpenSpec.upto partnerOnceSpec)) partnerOnceUptoCard

/-- THE SECOND FORM's CARD OF 'liaisonlaw16.PartnerJoins'. -/
def partnerJoinsUptoCard : Claim7 := { stood := { row := partnerJoinsUptoRow, standIns := [], harness := (true, "9b8d786d2c7fdc1a303f5abec2a1ae25177c66a6261dd4025a7a75d56b550917"), looks := true }, kinds := [], alts := [], laidByText := true, laidKinds := [.data, .data, .data, .sentinel, .sentinel, .sentinel, .sentinel, .sentinel, .sentinel, .sentinel, .sentinel, .sentinel, .sentinel, .sentinel, .sentinel, .sentinel, .sentinel], laidTests := true, laidLooks := .later }
def PartnerJoinsUptoCardSaid : Prop := Claim7.holds Tryz.pinned (.plain (OpenSpec.upto partnerJoinsSpec)) partnerJoinsUptoCard

/-- THE SECOND FORM's CARD OF 'liaisonlaw16.PartnerAnswers'. -/
def partnerAnswersUptoCard : Claim7 := { stood := { row := partnerAnswersUptoRow, standIns := [], harness := (true, "9b8d786d2c7fdc1a303f5abec2a1ae25177c66a6261dd4025a7a75d56b550917"), looks := true }, kinds := [], alts := [], laidByText := true, laidKinds := [.data, .data, .data, .sentinel, .sentinel, .sentinel, .sentinel, .sentinel, .sentinel, .sentinel, .sentinel, .sentinel, .sentinel, .sentinel, .sentinel, .sentinel, .sentinel], laidTests := true, laidLooks := .later }
def PartnerAnswersUptoCardSaid : Prop := Claim7.holds Tryz.pinned (.plain (OpenSpec.upto partnerAnswersSpec)) partnerAnswersUptoCard

/-- THE SECOND FORM's CARD OF 'liaisonlaw16.PartnerDoes'. -/
def partnerDoesUptoCard : Claim7 := { stood := { row := partnerDoesUptoRow, standIns := [], harness := (true, "9b8d786d2c7fdc1a303f5abec2a1ae25177c66a6261dd4025a7a75d56b550917"), looks := true }, kinds := [], alts := [], laidByText := true, laidKinds := [.data, .data, .data, .sentinel, .sentinel, .sentinel, .sentinel, .sentinel, .sentinel, .sentinel, .sentinel, .sentinel, .sentinel, .sentinel, .sentinel, .sentinel, .sentinel], laidTests := true, laidLooks := .later }
def PartnerDoesUptoCardSaid : Prop := Claim7.holds Tryz.pinned (.plain (OpenSpec.upto partnerDoesSpec)) partnerDoesUptoCard

/-- THE SECOND FORM's CARD OF 'liaisonlaw18.VerdictDecides'. -/
def verdictDecidesUptoCard : Claim7 := { stood := { row := verdictDecidesUptoRow, standIns := [], harness := (true, "9b8d786d2c7fdc1a303f5abec2a1ae25177c66a6261dd4025a7a75d56b550917"), looks := true }, kinds := [], alts := [], laidByText := true, laidKinds := [.data, .data, .data, .sentinel, .sentinel, .sentinel, .sentinel, .sentinel, .sentinel, .sentinel, .sentinel, .sentinel, .sentinel, .sentinel, .sentinel, .sentinel, .sentinel], laidTests := true, laidLooks := .later }
def VerdictDecidesUptoCardSaid : Prop := Claim7.holds Tryz.pinned (.plain (OpenSpec.upto verdictDecidesSpec)) verdictDecidesUptoCard

/-- THE SECOND FORM's CARD OF 'liaisonlaw18.VerdictUniform'. -/
def verdictUniformUptoCard : Claim7 := { stood := { row := verdictUniformUptoRow, standIns := [], harness := (true, "9b8d786d2c7fdc1a303f5abec2a1ae25177c66a6261dd4025a7a75d56b550917"), looks := true }, kinds := [], alts := [], laidByText := true, laidKinds := [.data, .data, .data, .sentinel, .sentinel, .sentinel, .sentinel, .sentinel, .sentinel, .sentinel, .sentinel, .sentinel, .sentinel, .sentinel, .sentinel, .sentinel, .sentinel], laidTests := true, laidLooks := .later }
def VerdictUniformUptoCardSaid : Prop := Claim7.holds Tryz.pinned (.plain (OpenSpec.upto verdictUniformSpec)) verdictUniformUptoCard

/-- THE SECOND FORM's CARD OF 'liaisonlaw17.LeadOnce'. -/
def leadOnceUptoCard : Claim7 := { stood := { row := leadOnceUptoRow, standIns := [], harness := (true, "9b8d786d2c7fdc1a303f5abec2a1ae25177c66a6261dd4025a7a75d56b550917"), looks := true }, kinds := [], alts := [], laidByText := true, laidKinds := [.data, .data, .data, .sentinel, .sentinel, .sentinel, .sentinel, .sentinel, .sentinel, .sentinel, .sentinel, .sentinel, .sentinel, .sentinel, .sentinel, .sentinel, .sentinel], laidTests := true, laidLooks := .later }
def LeadOnceUptoCardSaid : Prop := Claim7.holds Tryz.pinned (.plain (OpenSpec.upto leadOnceSpec)) leadOnceUptoCard

/-- THE SECOND FORM's CARD OF 'liaisonlaw17.LeadAnswers'. -/
def leadAnswersUptoCard : Claim7 := { stood := { row := leadAnswersUptoRow, standIns := [], harness := (true, "9b8d786d2c7fdc1a303f5abec2a1ae25177c66a6261dd4025a7a75d56b550917"), looks := true }, kinds := [], alts := [], laidByText := true, laidKinds := [.data, .data, .data, .sentinel, .sentinel, .sentinel, .sentinel, .sentinel, .sentinel, .sentinel, .sentinel, .sentinel, .sentinel, .sentinel, .sentinel, .sentinel, .sentinel], laidTests := true, laidLooks := .later }
def LeadAnswersUptoCardSaid : Prop := Claim7.holds Tryz.pinned (.plain (OpenSpec.upto leadAnswersSpec)) leadAnswersUptoCard

/-- THE SECOND FORM's CARD OF 'liaisonlaw17.LeadDirects'. -/
def leadDirectsUptoCard : Claim7 := { stood := { row := leadDirectsUptoRow, standIns := [], harness := (true, "9b8d786d2c7fdc1a303f5abec2a1ae25177c66a6261dd4025a7a75d56b550917"), looks := true }, kinds := [], alts := [], laidByText := true, laidKinds := [.data, .data, .data, .sentinel, .sentinel, .sentinel, .sentinel, .sentinel, .sentinel, .sentinel, .sentinel, .sentinel, .sentinel, .sentinel, .sentinel, .sentinel, .sentinel], laidTests := true, laidLooks := .later }
def LeadDirectsUptoCardSaid : Prop := Claim7.holds Tryz.pinned (.plain (OpenSpec.upto leadDirectsSpec)) leadDirectsUptoCard

/-- THE SECOND FORM's CARD OF 'liaisonlaw17.LeadOpens'. -/
def leadOpensUptoCard : Claim7 := { stood := { row := leadOpensUptoRow, standIns := [], harness := (true, "9b8d786d2c7fdc1a303f5abec2a1ae25177c66a6261dd4025a7a75d56b550917"), looks := true }, kinds := [], alts := [], laidByText := true, laidKinds := [.data, .data, .data, .sentinel, .sentinel, .sentinel, .sentinel, .sentinel, .sentinel, .sentinel, .sentinel, .sentinel, .sentinel, .sentinel, .sentinel, .sentinel, .sentinel], laidTests := true, laidLooks := .later }
def LeadOpensUptoCardSaid : Prop := Claim7.holds Tryz.pinned (.plain (OpenSpec.upto leadOpensSpec)) leadOpensUptoCard
end Rows
end Go.Proofs.YtlkajejbfojkeaaGreatDoor
