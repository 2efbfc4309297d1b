/-
  DERIVED. GIVEN WITH THE SEED: THE CARDS: each row of YtbepkpjcjpmpmaaDoorRows.lean that lists a variable, with what it lists TIED to the program's text (the seventh form; the later family's looks); each row that meets fmt, with fmt's text TOLD by the authors' own Lean function (tested against real Go, not proved from fmt's source: count such statements apart). THE CARD IS WHAT COUNTS. Prove the row's statement (the work); the ties are given (YtbepkpjcjpmpmaaDoorTie.lean); close each card by the builder's one call (the guide's Derived/Test/ToyasCard.lean, 'card_holds'). Laid BY PROGRAM, IN A SANDBOX (cutbox-door.mjs). By AI agents, Wed Nov 11 2026. No macro, syntax, notation, axiom, sorry.
-/
import Derived.Test.YtbepkpjcjpmpmaaDoorRows
import GoSem.ClaimSeven
namespace Go.Proofs.YtbepkpjcjpmpmaaDoor
namespace Rows

/-- THE TIED CARD OF 'liaisonlaw29.PolicyAgain'. -/
def policyAgainCard : Claim7 := { stood := { row := policyAgainRow, standIns := [], harness := (true, "e7ec36bb913a4879352ed1b30dde0865b97b39e2e05d2249ab37d9ad7a1c9681"), looks := true }, kinds := [], alts := [], laidByText := true, laidKinds := [.sentinel, .sentinel, .sentinel, .sentinel, .sentinel, .sentinel, .sentinel, .sentinel, .sentinel, .sentinel, .sentinel, .sentinel, .sentinel, .sentinel], laidTests := true, laidLooks := .later }
def PolicyAgainCardSaid : Prop := Claim7.holds Tryd.pinned (.plain (OpenSpec.ofChange policyAgainSpec)) policyAgainCard

/-- THE SECOND FORM's CARD OF 'liaisonlaw29.PolicyAgain'. -/
def policyAgainUptoCard : Claim7 := { stood := { row := policyAgainUptoRow, standIns := [], harness := (true, "e7ec36bb913a4879352ed1b30dde0865b97b39e2e05d2249ab37d9ad7a1c9681"), looks := true }, kinds := [], alts := [], laidByText := true, laidKinds := [.sentinel, .sentinel, .sentinel, .sentinel, .sentinel, .sentinel, .sentinel, .sentinel, .sentinel, .sentinel, .sentinel, .sentinel, .sentinel, .sentinel], laidTests := true, laidLooks := .later }
def PolicyAgainUptoCardSaid : Prop := Claim7.holds Tryd.pinned (.plain (OpenSpec.upto policyAgainSpec)) policyAgainUptoCard
end Rows
end Go.Proofs.YtbepkpjcjpmpmaaDoor
