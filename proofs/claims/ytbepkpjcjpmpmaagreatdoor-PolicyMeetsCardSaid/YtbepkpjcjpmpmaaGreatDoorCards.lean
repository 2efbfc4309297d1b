/-
  DERIVED. GIVEN WITH THE SEED: THE CARDS: each row of YtbepkpjcjpmpmaaGreatDoorRows.lean that lists a variable, with what it lists TIED to the program's text (the seventh form; the later family's looks); each row that meets fmt, with fmt's text TOLD by the authors' own Lean function (tested against real Go, not proved from fmt's source: count such statements apart). THE CARD IS WHAT COUNTS. Prove the row's statement (the work); the ties are given (YtbepkpjcjpmpmaaGreatDoorTie.lean); close each card by the builder's one call (the guide's Derived/Test/ToyasCard.lean, 'card_holds'). Laid BY PROGRAM, IN A SANDBOX (cutbox-door.mjs). By AI agents, Wed Nov 11 2026. No macro, syntax, notation, axiom, sorry.
-/
import Derived.Test.YtbepkpjcjpmpmaaGreatDoorRows
import GoSem.ClaimSeven
namespace Go.Proofs.YtbepkpjcjpmpmaaGreatDoor
namespace Rows

/-- THE TIED CARD OF 'liaisonlaw29.PolicyNormal'. -/
def policyNormalCard : Claim7 := { stood := { row := policyNormalRow, standIns := [], harness := (true, "c4c86d4ece0d81f45d3b0362a31eafcc19d0a7ff6747c6773b1bca5490647523"), looks := true }, kinds := [], alts := [], laidByText := true, laidKinds := [.sentinel, .sentinel, .sentinel, .sentinel, .sentinel, .sentinel, .sentinel, .sentinel, .sentinel, .sentinel, .sentinel, .sentinel, .sentinel, .sentinel], laidTests := true, laidLooks := .later }
def PolicyNormalCardSaid : Prop := Claim7.holds Tryz.pinned (.plain (OpenSpec.ofChange policyNormalSpec)) policyNormalCard

/-- THE TIED CARD OF 'liaisonlaw29.PolicyParses'. -/
def policyParsesCard : Claim7 := { stood := { row := policyParsesRow, standIns := [], harness := (true, "c4c86d4ece0d81f45d3b0362a31eafcc19d0a7ff6747c6773b1bca5490647523"), looks := true }, kinds := [], alts := [], laidByText := true, laidKinds := [.sentinel, .sentinel, .sentinel, .sentinel, .sentinel, .sentinel, .sentinel, .sentinel, .sentinel, .sentinel, .sentinel, .sentinel, .sentinel, .sentinel], laidTests := true, laidLooks := .later }
def PolicyParsesCardSaid : Prop := Claim7.holds Tryz.pinned (.plain (OpenSpec.ofChange policyParsesSpec)) policyParsesCard

/-- THE TIED CARD OF 'liaisonlaw29.PolicyMeets'. -/
def policyMeetsCard : Claim7 := { stood := { row := policyMeetsRow, standIns := [], harness := (true, "c4c86d4ece0d81f45d3b0362a31eafcc19d0a7ff6747c6773b1bca5490647523"), looks := true }, kinds := [], alts := [], laidByText := true, laidKinds := [.sentinel, .sentinel, .sentinel, .sentinel, .sentinel, .sentinel, .sentinel, .sentinel, .sentinel, .sentinel, .sentinel, .sentinel, .sentinel, .sentinel], laidTests := true, laidLooks := .later }
def PolicyMeetsCardSaid : Prop := Claim7.holds Tryz.pinned (.plain (OpenSpec.ofChange policyMeetsSpec)) policyMeetsCard

/-- THE TIED CARD OF 'liaisonlaw29.PolicyTexts'. -/
def policyTextsCard : Claim7 := { stood := { row := policyTextsRow, standIns := [], harness := (true, "c4c86d4ece0d81f45d3b0362a31eafcc19d0a7ff6747c6773b1bca5490647523"), looks := true }, kinds := [], alts := [], laidByText := true, laidKinds := [.sentinel, .sentinel, .sentinel, .sentinel, .sentinel, .sentinel, .sentinel, .sentinel, .sentinel, .sentinel, .sentinel, .sentinel, .sentinel, .sentinel], laidTests := true, laidLooks := .later }
def PolicyTextsCardSaid : Prop := Claim7.holds Tryz.pinned (.plain (OpenSpec.ofChange policyTextsSpec)) policyTextsCard

/-- THE TIED CARD OF 'liaisonlaw29.PolicyOf'. -/
def policyOfCard : Claim7 := { stood := { row := policyOfRow, standIns := [], harness := (true, "c4c86d4ece0d81f45d3b0362a31eafcc19d0a7ff6747c6773b1bca5490647523"), looks := true }, kinds := [], alts := [], laidByText := true, laidKinds := [.sentinel, .sentinel, .sentinel, .sentinel, .sentinel, .sentinel, .sentinel, .sentinel, .sentinel, .sentinel, .sentinel, .sentinel, .sentinel, .sentinel], laidTests := true, laidLooks := .later }
def PolicyOfCardSaid : Prop := Claim7.holds Tryz.pinned (.plain (OpenSpec.ofChange policyOfSpec)) policyOfCard

/-- THE SECOND FORM's CARD OF 'liaisonlaw29.PolicyNormal'. -/
def policyNormalUptoCard : Claim7 := { stood := { row := policyNormalUptoRow, standIns := [], harness := (true, "c4c86d4ece0d81f45d3b0362a31eafcc19d0a7ff6747c6773b1bca5490647523"), looks := true }, kinds := [], alts := [], laidByText := true, laidKinds := [.sentinel, .sentinel, .sentinel, .sentinel, .sentinel, .sentinel, .sentinel, .sentinel, .sentinel, .sentinel, .sentinel, .sentinel, .sentinel, .sentinel], laidTests := true, laidLooks := .later }
def PolicyNormalUptoCardSaid : Prop := Claim7.holds Tryz.pinned (.plain (OpenSpec.upto policyNormalSpec)) policyNormalUptoCard

/-- THE SECOND FORM's CARD OF 'liaisonlaw29.PolicyParses'. -/
def policyParsesUptoCard : Claim7 := { stood := { row := policyParsesUptoRow, standIns := [], harness := (true, "c4c86d4ece0d81f45d3b0362a31eafcc19d0a7ff6747c6773b1bca5490647523"), looks := true }, kinds := [], alts := [], laidByText := true, laidKinds := [.sentinel, .sentinel, .sentinel, .sentinel, .sentinel, .sentinel, .sentinel, .sentinel, .sentinel, .sentinel, .sentinel, .sentinel, .sentinel, .sentinel], laidTests := true, laidLooks := .later }
def PolicyParsesUptoCardSaid : Prop := Claim7.holds Tryz.pinned (.plain (OpenSpec.upto policyParsesSpec)) policyParsesUptoCard

/-- THE SECOND FORM's CARD OF 'liaisonlaw29.PolicyMeets'. -/
def policyMeetsUptoCard : Claim7 := { stood := { row := policyMeetsUptoRow, standIns := [], harness := (true, "c4c86d4ece0d81f45d3b0362a31eafcc19d0a7ff6747c6773b1bca5490647523"), looks := true }, kinds := [], alts := [], laidByText := true, laidKinds := [.sentinel, .sentinel, .sentinel, .sentinel, .sentinel, .sentinel, .sentinel, .sentinel, .sentinel, .sentinel, .sentinel, .sentinel, .sentinel, .sentinel], laidTests := true, laidLooks := .later }
def PolicyMeetsUptoCardSaid : Prop := Claim7.holds Tryz.pinned (.plain (OpenSpec.upto policyMeetsSpec)) policyMeetsUptoCard

/-- THE SECOND FORM's CARD OF 'liaisonlaw29.PolicyTexts'. -/
def policyTextsUptoCard : Claim7 := { stood := { row := policyTextsUptoRow, standIns := [], harness := (true, "c4c86d4ece0d81f45d3b0362a31eafcc19d0a7ff6747c6773b1bca5490647523"), looks := true }, kinds := [], alts := [], laidByText := true, laidKinds := [.sentinel, .sentinel, .sentinel, .sentinel, .sentinel, .sentinel, .sentinel, .sentinel, .sentinel, .sentinel, .sentinel, .sentinel, .sentinel, .sentinel], laidTests := true, laidLooks := .later }
def PolicyTextsUptoCardSaid : Prop := Claim7.holds Tryz.pinned (.plain (OpenSpec.upto policyTextsSpec)) policyTextsUptoCard

/-- THE SECOND FORM's CARD OF 'liaisonlaw29.PolicyOf'. -/
def policyOfUptoCard : Claim7 := { stood := { row := policyOfUptoRow, standIns := [], harness := (true, "c4c86d4ece0d81f45d3b0362a31eafcc19d0a7ff6747c6773b1bca5490647523"), looks := true }, kinds := [], alts := [], laidByText := true, laidKinds := [.sentinel, .sentinel, .sentinel, .sentinel, .sentinel, .sentinel, .sentinel, .sentinel, .sentinel, .sentinel, .sentinel, .sentinel, .sentinel, .sentinel], laidTests := true, laidLooks := .later }
def PolicyOfUptoCardSaid : Prop := Claim7.holds Tryz.pinned (.plain (OpenSpec.upto policyOfSpec)) policyOfUptoCard
end Rows
end Go.Proofs.YtbepkpjcjpmpmaaGreatDoor
