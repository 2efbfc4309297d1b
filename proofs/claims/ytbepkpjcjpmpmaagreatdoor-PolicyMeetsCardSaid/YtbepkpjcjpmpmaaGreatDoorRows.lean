/-
  NARROWER THAN 'FOR EVERY INPUT', by the rows' own cells (each row's printed sentence says how): PolicyNormal: laid · PolicyParses: laid · PolicyMeets: laid · PolicyTexts: laid · PolicyOf: laid.
  DERIVED. THE GIVEN ROWS OF THIS SEAT. 5 by the template 'for every input the law returns true; each argument reads behind the call as it read before'; 0 by the template 'total and deterministic' (their statements: YtbepkpjcjpmpmaaGreatDoorTotals.lean).
  GIVEN WITH THE SEED: the statements are not yours to turn. If you find one false, say at which input.
  Laid BY PROGRAM, IN A SANDBOX (cutbox-rows.mjs): the forced cells as the released guide's own fill.sh prints them over the translation f38f853c8b97c703… (all of the seat's roots in one cut). By AI agents, Wed Nov 11 2026. No macro, syntax, notation, axiom, sorry.
-/
import Derived.Test.YtbepkpjcjpmpmaaGreatDoorChecked
import GoSem.Claim
import GoSem.ClaimJoined
import GoSem.ClaimMapViews
import Derived.JoinedTies
import Derived.KernelRfl
namespace Go.Proofs.YtbepkpjcjpmpmaaGreatDoor
/- THE CELL 'sum', in the pinned program and in every row, IS THE sha256 OF THE DUMP (.gsa) THAT YtbepkpjcjpmpmaaGreatDoorProg.lean LOADS. Nothing in Lean hashes anything: it is a label: what it is worth is what the hold of that sum in a sandbox is worth. -/
noncomputable def Tryz.pinned : Pinned := { name := "ytbepkpjcjpmpmaagreatdoor", sum := "f38f853c8b97c7039958523de142292621da69d15d1c04255ef571dd2c32fdda", checked := Tryz.checked }
namespace Rows
def none {H : Type} : Left H := { results := [], args := [] }

/- WHAT THE LISTED PACKAGE-LEVEL VARIABLES READ AS WHEN THE CALL BEGINS. Each datum BY PROGRAM (the guide's laid-datum.mjs) off the statement by which the dump's own 'gosem.cut.vars' lays the variable. In a bare row this is a premise. The card (YtbepkpjcjpmpmaaGreatDoorCards.lean) ties it to the program's text. -/
def laid_liaison_api_ErrRange {H : Type} : DataW H := .iface "*errors.errorString" (.ptr (.agg [.lit (.string [108, 105, 97, 105, 115, 111, 110, 58, 32, 114, 97, 110, 103, 101])]))
def laid_liaison_api_ErrShort {H : Type} : DataW H := .iface "*errors.errorString" (.ptr (.agg [.lit (.string [108, 105, 97, 105, 115, 111, 110, 58, 32, 115, 104, 111, 114, 116])]))
def laid_liaison_api_ErrLong {H : Type} : DataW H := .iface "*errors.errorString" (.ptr (.agg [.lit (.string [108, 105, 97, 105, 115, 111, 110, 58, 32, 108, 111, 110, 103])]))
def laid_liaison_api_ErrForm {H : Type} : DataW H := .iface "*errors.errorString" (.ptr (.agg [.lit (.string [108, 105, 97, 105, 115, 111, 110, 58, 32, 102, 111, 114, 109])]))
def laid_liaison_api_ErrCheck {H : Type} : DataW H := .iface "*errors.errorString" (.ptr (.agg [.lit (.string [108, 105, 97, 105, 115, 111, 110, 58, 32, 99, 104, 101, 99, 107])]))
def laid_liaison_api_ErrFull {H : Type} : DataW H := .iface "*errors.errorString" (.ptr (.agg [.lit (.string [108, 105, 97, 105, 115, 111, 110, 58, 32, 102, 117, 108, 108])]))
def laid_liaison_api_ErrPower {H : Type} : DataW H := .iface "*errors.errorString" (.ptr (.agg [.lit (.string [108, 105, 97, 105, 115, 111, 110, 58, 32, 112, 111, 119, 101, 114])]))
def laid_liaison_api_ErrNone {H : Type} : DataW H := .iface "*errors.errorString" (.ptr (.agg [.lit (.string [108, 105, 97, 105, 115, 111, 110, 58, 32, 110, 111, 110, 101])]))
def laid_liaison_api_ErrState {H : Type} : DataW H := .iface "*errors.errorString" (.ptr (.agg [.lit (.string [108, 105, 97, 105, 115, 111, 110, 58, 32, 115, 116, 97, 116, 101])]))
def laid_liaison_api_ErrTwice {H : Type} : DataW H := .iface "*errors.errorString" (.ptr (.agg [.lit (.string [108, 105, 97, 105, 115, 111, 110, 58, 32, 116, 119, 105, 99, 101])]))
def laid_liaison_api_ErrDepth {H : Type} : DataW H := .iface "*errors.errorString" (.ptr (.agg [.lit (.string [108, 105, 97, 105, 115, 111, 110, 58, 32, 100, 101, 112, 116, 104])]))
def laid_liaison_api_ErrExpired {H : Type} : DataW H := .iface "*errors.errorString" (.ptr (.agg [.lit (.string [108, 105, 97, 105, 115, 111, 110, 58, 32, 101, 120, 112, 105, 114, 101, 100])]))
def laid_liaison_api_ErrPanic {H : Type} : DataW H := .iface "*errors.errorString" (.ptr (.agg [.lit (.string [108, 105, 97, 105, 115, 111, 110, 58, 32, 112, 97, 110, 105, 99])]))
def laid_liaison_api_ErrProtocol {H : Type} : DataW H := .iface "*errors.errorString" (.ptr (.agg [.lit (.string [108, 105, 97, 105, 115, 111, 110, 58, 32, 112, 114, 111, 116, 111, 99, 111, 108])]))

/-- 'liaisonlaw29.PolicyNormal': WHATEVER THE INPUT: true; the input reads as it did. -/
def policyNormalSpec : ChangeSpec := { name := "policyNormal", fn := fun _ => fun
  | [d] => { results := [.lit (.bool true)], args := [d] }
  | _ => none }
def policyNormalRow : OpenClaim := { program := "ytbepkpjcjpmpmaagreatdoor", sum := "f38f853c8b97c7039958523de142292621da69d15d1c04255ef571dd2c32fdda", func := "liaison/liaisonlaw29.PolicyNormal", spec := "policyNormal", inPlace := ["internal/reflectlite.TypeOf"], unfollowed := true, recurses := true, named := ["liaison/api.ErrLong", "liaison/api.ErrForm", "liaison/api.ErrPanic", "liaison/api.ErrRange", "liaison/api.ErrShort", "liaison/api.ErrCheck", "liaison/api.ErrFull", "liaison/api.ErrPower", "liaison/api.ErrNone", "liaison/api.ErrState", "liaison/api.ErrTwice", "liaison/api.ErrDepth", "liaison/api.ErrExpired", "liaison/api.ErrProtocol"], apart := false, laid := [("liaison/api.ErrRange", laid_liaison_api_ErrRange), ("liaison/api.ErrShort", laid_liaison_api_ErrShort), ("liaison/api.ErrLong", laid_liaison_api_ErrLong), ("liaison/api.ErrForm", laid_liaison_api_ErrForm), ("liaison/api.ErrCheck", laid_liaison_api_ErrCheck), ("liaison/api.ErrFull", laid_liaison_api_ErrFull), ("liaison/api.ErrPower", laid_liaison_api_ErrPower), ("liaison/api.ErrNone", laid_liaison_api_ErrNone), ("liaison/api.ErrState", laid_liaison_api_ErrState), ("liaison/api.ErrTwice", laid_liaison_api_ErrTwice), ("liaison/api.ErrDepth", laid_liaison_api_ErrDepth), ("liaison/api.ErrExpired", laid_liaison_api_ErrExpired), ("liaison/api.ErrPanic", laid_liaison_api_ErrPanic), ("liaison/api.ErrProtocol", laid_liaison_api_ErrProtocol)] }
def PolicyNormalSaid : Prop := policyNormalRow.holds Tryz.pinned (OpenSpec.ofChange policyNormalSpec)

/-- ITS FALSE NEIGHBOUR: 'it returns false'. Refute it at one input. -/
def policyNormalWrong : ChangeSpec := { name := "policyNormal", fn := fun _ => fun
  | [d] => { results := [.lit (.bool false)], args := [d] }
  | _ => none }
def PolicyNormalWrongFalsely : Prop := policyNormalRow.holds Tryz.pinned (OpenSpec.ofChange policyNormalWrong)

/-- 'liaisonlaw29.PolicyParses': WHATEVER THE INPUT: true; the input reads as it did. -/
def policyParsesSpec : ChangeSpec := { name := "policyParses", fn := fun _ => fun
  | [d] => { results := [.lit (.bool true)], args := [d] }
  | _ => none }
def policyParsesRow : OpenClaim := { program := "ytbepkpjcjpmpmaagreatdoor", sum := "f38f853c8b97c7039958523de142292621da69d15d1c04255ef571dd2c32fdda", func := "liaison/liaisonlaw29.PolicyParses", spec := "policyParses", inPlace := ["internal/reflectlite.TypeOf"], unfollowed := true, recurses := true, named := ["liaison/api.ErrLong", "liaison/api.ErrForm", "liaison/api.ErrPanic", "liaison/api.ErrRange", "liaison/api.ErrShort", "liaison/api.ErrCheck", "liaison/api.ErrFull", "liaison/api.ErrPower", "liaison/api.ErrNone", "liaison/api.ErrState", "liaison/api.ErrTwice", "liaison/api.ErrDepth", "liaison/api.ErrExpired", "liaison/api.ErrProtocol"], apart := false, laid := [("liaison/api.ErrRange", laid_liaison_api_ErrRange), ("liaison/api.ErrShort", laid_liaison_api_ErrShort), ("liaison/api.ErrLong", laid_liaison_api_ErrLong), ("liaison/api.ErrForm", laid_liaison_api_ErrForm), ("liaison/api.ErrCheck", laid_liaison_api_ErrCheck), ("liaison/api.ErrFull", laid_liaison_api_ErrFull), ("liaison/api.ErrPower", laid_liaison_api_ErrPower), ("liaison/api.ErrNone", laid_liaison_api_ErrNone), ("liaison/api.ErrState", laid_liaison_api_ErrState), ("liaison/api.ErrTwice", laid_liaison_api_ErrTwice), ("liaison/api.ErrDepth", laid_liaison_api_ErrDepth), ("liaison/api.ErrExpired", laid_liaison_api_ErrExpired), ("liaison/api.ErrPanic", laid_liaison_api_ErrPanic), ("liaison/api.ErrProtocol", laid_liaison_api_ErrProtocol)] }
def PolicyParsesSaid : Prop := policyParsesRow.holds Tryz.pinned (OpenSpec.ofChange policyParsesSpec)

/-- ITS FALSE NEIGHBOUR: 'it returns false'. Refute it at one input. -/
def policyParsesWrong : ChangeSpec := { name := "policyParses", fn := fun _ => fun
  | [d] => { results := [.lit (.bool false)], args := [d] }
  | _ => none }
def PolicyParsesWrongFalsely : Prop := policyParsesRow.holds Tryz.pinned (OpenSpec.ofChange policyParsesWrong)

/-- 'liaisonlaw29.PolicyMeets': WHATEVER THE INPUT: true; the input reads as it did. -/
def policyMeetsSpec : ChangeSpec := { name := "policyMeets", fn := fun _ => fun
  | [d1, d2, d3] => { results := [.lit (.bool true)], args := [d1, d2, d3] }
  | _ => none }
def policyMeetsRow : OpenClaim := { program := "ytbepkpjcjpmpmaagreatdoor", sum := "f38f853c8b97c7039958523de142292621da69d15d1c04255ef571dd2c32fdda", func := "liaison/liaisonlaw29.PolicyMeets", spec := "policyMeets", inPlace := ["internal/reflectlite.TypeOf"], unfollowed := true, recurses := true, named := ["liaison/api.ErrLong", "liaison/api.ErrForm", "liaison/api.ErrPanic", "liaison/api.ErrRange", "liaison/api.ErrShort", "liaison/api.ErrCheck", "liaison/api.ErrFull", "liaison/api.ErrPower", "liaison/api.ErrNone", "liaison/api.ErrState", "liaison/api.ErrTwice", "liaison/api.ErrDepth", "liaison/api.ErrExpired", "liaison/api.ErrProtocol"], apart := false, laid := [("liaison/api.ErrRange", laid_liaison_api_ErrRange), ("liaison/api.ErrShort", laid_liaison_api_ErrShort), ("liaison/api.ErrLong", laid_liaison_api_ErrLong), ("liaison/api.ErrForm", laid_liaison_api_ErrForm), ("liaison/api.ErrCheck", laid_liaison_api_ErrCheck), ("liaison/api.ErrFull", laid_liaison_api_ErrFull), ("liaison/api.ErrPower", laid_liaison_api_ErrPower), ("liaison/api.ErrNone", laid_liaison_api_ErrNone), ("liaison/api.ErrState", laid_liaison_api_ErrState), ("liaison/api.ErrTwice", laid_liaison_api_ErrTwice), ("liaison/api.ErrDepth", laid_liaison_api_ErrDepth), ("liaison/api.ErrExpired", laid_liaison_api_ErrExpired), ("liaison/api.ErrPanic", laid_liaison_api_ErrPanic), ("liaison/api.ErrProtocol", laid_liaison_api_ErrProtocol)] }
def PolicyMeetsSaid : Prop := policyMeetsRow.holds Tryz.pinned (OpenSpec.ofChange policyMeetsSpec)

/-- ITS FALSE NEIGHBOUR: 'it returns false'. Refute it at one input. -/
def policyMeetsWrong : ChangeSpec := { name := "policyMeets", fn := fun _ => fun
  | [d1, d2, d3] => { results := [.lit (.bool false)], args := [d1, d2, d3] }
  | _ => none }
def PolicyMeetsWrongFalsely : Prop := policyMeetsRow.holds Tryz.pinned (OpenSpec.ofChange policyMeetsWrong)

/-- 'liaisonlaw29.PolicyTexts': WHATEVER THE INPUT: true; the input reads as it did. -/
def policyTextsSpec : ChangeSpec := { name := "policyTexts", fn := fun _ => fun
  | [d1, d2] => { results := [.lit (.bool true)], args := [d1, d2] }
  | _ => none }
def policyTextsRow : OpenClaim := { program := "ytbepkpjcjpmpmaagreatdoor", sum := "f38f853c8b97c7039958523de142292621da69d15d1c04255ef571dd2c32fdda", func := "liaison/liaisonlaw29.PolicyTexts", spec := "policyTexts", inPlace := ["internal/reflectlite.TypeOf", "internal/abi.NoEscape", "internal/bytealg.MakeNoZero"], unfollowed := true, recurses := true, named := ["liaison/api.ErrLong", "liaison/api.ErrForm", "liaison/api.ErrPanic", "liaison/api.ErrRange", "liaison/api.ErrShort", "liaison/api.ErrCheck", "liaison/api.ErrFull", "liaison/api.ErrPower", "liaison/api.ErrNone", "liaison/api.ErrState", "liaison/api.ErrTwice", "liaison/api.ErrDepth", "liaison/api.ErrExpired", "liaison/api.ErrProtocol"], apart := false, laid := [("liaison/api.ErrRange", laid_liaison_api_ErrRange), ("liaison/api.ErrShort", laid_liaison_api_ErrShort), ("liaison/api.ErrLong", laid_liaison_api_ErrLong), ("liaison/api.ErrForm", laid_liaison_api_ErrForm), ("liaison/api.ErrCheck", laid_liaison_api_ErrCheck), ("liaison/api.ErrFull", laid_liaison_api_ErrFull), ("liaison/api.ErrPower", laid_liaison_api_ErrPower), ("liaison/api.ErrNone", laid_liaison_api_ErrNone), ("liaison/api.ErrState", laid_liaison_api_ErrState), ("liaison/api.ErrTwice", laid_liaison_api_ErrTwice), ("liaison/api.ErrDepth", laid_liaison_api_ErrDepth), ("liaison/api.ErrExpired", laid_liaison_api_ErrExpired), ("liaison/api.ErrPanic", laid_liaison_api_ErrPanic), ("liaison/api.ErrProtocol", laid_liaison_api_ErrProtocol)] }
def PolicyTextsSaid : Prop := policyTextsRow.holds Tryz.pinned (OpenSpec.ofChange policyTextsSpec)

/-- ITS FALSE NEIGHBOUR: 'it returns false'. Refute it at one input. -/
def policyTextsWrong : ChangeSpec := { name := "policyTexts", fn := fun _ => fun
  | [d1, d2] => { results := [.lit (.bool false)], args := [d1, d2] }
  | _ => none }
def PolicyTextsWrongFalsely : Prop := policyTextsRow.holds Tryz.pinned (OpenSpec.ofChange policyTextsWrong)

/-- 'liaisonlaw29.PolicyOf': WHATEVER THE INPUT: true; the input reads as it did. -/
def policyOfSpec : ChangeSpec := { name := "policyOf", fn := fun _ => fun
  | [d1, d2, d3] => { results := [.lit (.bool true)], args := [d1, d2, d3] }
  | _ => none }
def policyOfRow : OpenClaim := { program := "ytbepkpjcjpmpmaagreatdoor", sum := "f38f853c8b97c7039958523de142292621da69d15d1c04255ef571dd2c32fdda", func := "liaison/liaisonlaw29.PolicyOf", spec := "policyOf", inPlace := ["internal/reflectlite.TypeOf", "internal/abi.NoEscape", "internal/bytealg.MakeNoZero"], unfollowed := true, recurses := true, named := ["liaison/api.ErrLong", "liaison/api.ErrForm", "liaison/api.ErrPanic", "liaison/api.ErrRange", "liaison/api.ErrShort", "liaison/api.ErrCheck", "liaison/api.ErrFull", "liaison/api.ErrPower", "liaison/api.ErrNone", "liaison/api.ErrState", "liaison/api.ErrTwice", "liaison/api.ErrDepth", "liaison/api.ErrExpired", "liaison/api.ErrProtocol"], apart := false, laid := [("liaison/api.ErrRange", laid_liaison_api_ErrRange), ("liaison/api.ErrShort", laid_liaison_api_ErrShort), ("liaison/api.ErrLong", laid_liaison_api_ErrLong), ("liaison/api.ErrForm", laid_liaison_api_ErrForm), ("liaison/api.ErrCheck", laid_liaison_api_ErrCheck), ("liaison/api.ErrFull", laid_liaison_api_ErrFull), ("liaison/api.ErrPower", laid_liaison_api_ErrPower), ("liaison/api.ErrNone", laid_liaison_api_ErrNone), ("liaison/api.ErrState", laid_liaison_api_ErrState), ("liaison/api.ErrTwice", laid_liaison_api_ErrTwice), ("liaison/api.ErrDepth", laid_liaison_api_ErrDepth), ("liaison/api.ErrExpired", laid_liaison_api_ErrExpired), ("liaison/api.ErrPanic", laid_liaison_api_ErrPanic), ("liaison/api.ErrProtocol", laid_liaison_api_ErrProtocol)] }
def PolicyOfSaid : Prop := policyOfRow.holds Tryz.pinned (OpenSpec.ofChange policyOfSpec)

/-- ITS FALSE NEIGHBOUR: 'it returns false'. Refute it at one input. -/
def policyOfWrong : ChangeSpec := { name := "policyOf", fn := fun _ => fun
  | [d1, d2, d3] => { results := [.lit (.bool false)], args := [d1, d2, d3] }
  | _ => none }
def PolicyOfWrongFalsely : Prop := policyOfRow.holds Tryz.pinned (OpenSpec.ofChange policyOfWrong)

/- THE SECOND FORM. 'bulk': how many values and letters a reading holds, each counted each time it is reached (what is shared counts as often as it is met; a slice's spare places count too). A statement '..UptoSaid' is the law's where the arguments, and the package variables that the reading takes, are together of bulk at most 1048576: NARROWER than '..Said'. Prove '..Said' where nothing that the law and all that it calls make is longer than what came in: it says more and counts as full. Else prove '..UptoSaid'. A law counts once. -/
mutual
def uptoBulk {H : Type} : DataW H → Nat
  | .lit (.string bytes) => bytes.length + 1
  | .lit _ => 1
  | .nil => 1
  | .ptr d => uptoBulk d + 1
  | .slice elems spare => uptoBulkAll elems + uptoBulkAll spare + 1
  | .agg parts => uptoBulkAll parts + 1
  | .iface _ d => uptoBulk d + 1
  | .map entries => uptoBulkEntries entries + 1
  | .held _ => 1
def uptoBulkAll {H : Type} : List (DataW H) → Nat
  | [] => 0
  | d :: r => uptoBulk d + uptoBulkAll r
def uptoBulkEntries {H : Type} : List (Lit × DataW H) → Nat
  | [] => 0
  | x :: r => uptoBulkEntry x + uptoBulkEntries r
def uptoBulkEntry {H : Type} : Lit × DataW H → Nat
  | (.string bytes, d) => bytes.length + uptoBulk d + 1
  | (_, d) => uptoBulk d + 1
 end
def uptoSmall : (H : Type) → List (DataW H) → Bool := fun _ ds => decide (uptoBulkAll ds ≤ 1048576)
def OpenSpec.upto (s : _root_.Go.ChangeSpec) : _root_.Go.OpenSpec := { _root_.Go.OpenSpec.ofChange s with cond := some uptoSmall }

/-- 'liaisonlaw29.PolicyNormal', WHERE WHAT IT READS IS OF BULK AT MOST 1048576: true; the input reads as it did. -/
def policyNormalUptoRow : OpenClaim := { program := "ytbepkpjcjpmpmaagreatdoor", sum := "f38f853c8b97c7039958523de142292621da69d15d1c04255ef571dd2c32fdda", func := "liaison/liaisonlaw29.PolicyNormal", spec := "policyNormal", inPlace := ["internal/reflectlite.TypeOf"], unfollowed := true, recurses := true, named := ["liaison/api.ErrLong", "liaison/api.ErrForm", "liaison/api.ErrPanic", "liaison/api.ErrRange", "liaison/api.ErrShort", "liaison/api.ErrCheck", "liaison/api.ErrFull", "liaison/api.ErrPower", "liaison/api.ErrNone", "liaison/api.ErrState", "liaison/api.ErrTwice", "liaison/api.ErrDepth", "liaison/api.ErrExpired", "liaison/api.ErrProtocol"], apart := false, laid := [("liaison/api.ErrRange", laid_liaison_api_ErrRange), ("liaison/api.ErrShort", laid_liaison_api_ErrShort), ("liaison/api.ErrLong", laid_liaison_api_ErrLong), ("liaison/api.ErrForm", laid_liaison_api_ErrForm), ("liaison/api.ErrCheck", laid_liaison_api_ErrCheck), ("liaison/api.ErrFull", laid_liaison_api_ErrFull), ("liaison/api.ErrPower", laid_liaison_api_ErrPower), ("liaison/api.ErrNone", laid_liaison_api_ErrNone), ("liaison/api.ErrState", laid_liaison_api_ErrState), ("liaison/api.ErrTwice", laid_liaison_api_ErrTwice), ("liaison/api.ErrDepth", laid_liaison_api_ErrDepth), ("liaison/api.ErrExpired", laid_liaison_api_ErrExpired), ("liaison/api.ErrPanic", laid_liaison_api_ErrPanic), ("liaison/api.ErrProtocol", laid_liaison_api_ErrProtocol)], narrowed := true }
def PolicyNormalUptoSaid : Prop := policyNormalUptoRow.holds Tryz.pinned (OpenSpec.upto policyNormalSpec)

/-- 'liaisonlaw29.PolicyParses', WHERE WHAT IT READS IS OF BULK AT MOST 1048576: true; the input reads as it did. -/
def policyParsesUptoRow : OpenClaim := { program := "ytbepkpjcjpmpmaagreatdoor", sum := "f38f853c8b97c7039958523de142292621da69d15d1c04255ef571dd2c32fdda", func := "liaison/liaisonlaw29.PolicyParses", spec := "policyParses", inPlace := ["internal/reflectlite.TypeOf"], unfollowed := true, recurses := true, named := ["liaison/api.ErrLong", "liaison/api.ErrForm", "liaison/api.ErrPanic", "liaison/api.ErrRange", "liaison/api.ErrShort", "liaison/api.ErrCheck", "liaison/api.ErrFull", "liaison/api.ErrPower", "liaison/api.ErrNone", "liaison/api.ErrState", "liaison/api.ErrTwice", "liaison/api.ErrDepth", "liaison/api.ErrExpired", "liaison/api.ErrProtocol"], apart := false, laid := [("liaison/api.ErrRange", laid_liaison_api_ErrRange), ("liaison/api.ErrShort", laid_liaison_api_ErrShort), ("liaison/api.ErrLong", laid_liaison_api_ErrLong), ("liaison/api.ErrForm", laid_liaison_api_ErrForm), ("liaison/api.ErrCheck", laid_liaison_api_ErrCheck), ("liaison/api.ErrFull", laid_liaison_api_ErrFull), ("liaison/api.ErrPower", laid_liaison_api_ErrPower), ("liaison/api.ErrNone", laid_liaison_api_ErrNone), ("liaison/api.ErrState", laid_liaison_api_ErrState), ("liaison/api.ErrTwice", laid_liaison_api_ErrTwice), ("liaison/api.ErrDepth", laid_liaison_api_ErrDepth), ("liaison/api.ErrExpired", laid_liaison_api_ErrExpired), ("liaison/api.ErrPanic", laid_liaison_api_ErrPanic), ("liaison/api.ErrProtocol", laid_liaison_api_ErrProtocol)], narrowed := true }
def PolicyParsesUptoSaid : Prop := policyParsesUptoRow.holds Tryz.pinned (OpenSpec.upto policyParsesSpec)

/-- 'liaisonlaw29.PolicyMeets', WHERE WHAT IT READS IS OF BULK AT MOST 1048576: true; the input reads as it did. -/
def policyMeetsUptoRow : OpenClaim := { program := "ytbepkpjcjpmpmaagreatdoor", sum := "f38f853c8b97c7039958523de142292621da69d15d1c04255ef571dd2c32fdda", func := "liaison/liaisonlaw29.PolicyMeets", spec := "policyMeets", inPlace := ["internal/reflectlite.TypeOf"], unfollowed := true, recurses := true, named := ["liaison/api.ErrLong", "liaison/api.ErrForm", "liaison/api.ErrPanic", "liaison/api.ErrRange", "liaison/api.ErrShort", "liaison/api.ErrCheck", "liaison/api.ErrFull", "liaison/api.ErrPower", "liaison/api.ErrNone", "liaison/api.ErrState", "liaison/api.ErrTwice", "liaison/api.ErrDepth", "liaison/api.ErrExpired", "liaison/api.ErrProtocol"], apart := false, laid := [("liaison/api.ErrRange", laid_liaison_api_ErrRange), ("liaison/api.ErrShort", laid_liaison_api_ErrShort), ("liaison/api.ErrLong", laid_liaison_api_ErrLong), ("liaison/api.ErrForm", laid_liaison_api_ErrForm), ("liaison/api.ErrCheck", laid_liaison_api_ErrCheck), ("liaison/api.ErrFull", laid_liaison_api_ErrFull), ("liaison/api.ErrPower", laid_liaison_api_ErrPower), ("liaison/api.ErrNone", laid_liaison_api_ErrNone), ("liaison/api.ErrState", laid_liaison_api_ErrState), ("liaison/api.ErrTwice", laid_liaison_api_ErrTwice), ("liaison/api.ErrDepth", laid_liaison_api_ErrDepth), ("liaison/api.ErrExpired", laid_liaison_api_ErrExpired), ("liaison/api.ErrPanic", laid_liaison_api_ErrPanic), ("liaison/api.ErrProtocol", laid_liaison_api_ErrProtocol)], narrowed := true }
def PolicyMeetsUptoSaid : Prop := policyMeetsUptoRow.holds Tryz.pinned (OpenSpec.upto policyMeetsSpec)

/-- 'liaisonlaw29.PolicyTexts', WHERE WHAT IT READS IS OF BULK AT MOST 1048576: true; the input reads as it did. -/
def policyTextsUptoRow : OpenClaim := { program := "ytbepkpjcjpmpmaagreatdoor", sum := "f38f853c8b97c7039958523de142292621da69d15d1c04255ef571dd2c32fdda", func := "liaison/liaisonlaw29.PolicyTexts", spec := "policyTexts", inPlace := ["internal/reflectlite.TypeOf", "internal/abi.NoEscape", "internal/bytealg.MakeNoZero"], unfollowed := true, recurses := true, named := ["liaison/api.ErrLong", "liaison/api.ErrForm", "liaison/api.ErrPanic", "liaison/api.ErrRange", "liaison/api.ErrShort", "liaison/api.ErrCheck", "liaison/api.ErrFull", "liaison/api.ErrPower", "liaison/api.ErrNone", "liaison/api.ErrState", "liaison/api.ErrTwice", "liaison/api.ErrDepth", "liaison/api.ErrExpired", "liaison/api.ErrProtocol"], apart := false, laid := [("liaison/api.ErrRange", laid_liaison_api_ErrRange), ("liaison/api.ErrShort", laid_liaison_api_ErrShort), ("liaison/api.ErrLong", laid_liaison_api_ErrLong), ("liaison/api.ErrForm", laid_liaison_api_ErrForm), ("liaison/api.ErrCheck", laid_liaison_api_ErrCheck), ("liaison/api.ErrFull", laid_liaison_api_ErrFull), ("liaison/api.ErrPower", laid_liaison_api_ErrPower), ("liaison/api.ErrNone", laid_liaison_api_ErrNone), ("liaison/api.ErrState", laid_liaison_api_ErrState), ("liaison/api.ErrTwice", laid_liaison_api_ErrTwice), ("liaison/api.ErrDepth", laid_liaison_api_ErrDepth), ("liaison/api.ErrExpired", laid_liaison_api_ErrExpired), ("liaison/api.ErrPanic", laid_liaison_api_ErrPanic), ("liaison/api.ErrProtocol", laid_liaison_api_ErrProtocol)], narrowed := true }
def PolicyTextsUptoSaid : Prop := policyTextsUptoRow.holds Tryz.pinned (OpenSpec.upto policyTextsSpec)

/-- 'liaisonlaw29.PolicyOf', WHERE WHAT IT READS IS OF BULK AT MOST 1048576: true; the input reads as it did. -/
def policyOfUptoRow : OpenClaim := { program := "ytbepkpjcjpmpmaagreatdoor", sum := "f38f853c8b97c7039958523de142292621da69d15d1c04255ef571dd2c32fdda", func := "liaison/liaisonlaw29.PolicyOf", spec := "policyOf", inPlace := ["internal/reflectlite.TypeOf", "internal/abi.NoEscape", "internal/bytealg.MakeNoZero"], unfollowed := true, recurses := true, named := ["liaison/api.ErrLong", "liaison/api.ErrForm", "liaison/api.ErrPanic", "liaison/api.ErrRange", "liaison/api.ErrShort", "liaison/api.ErrCheck", "liaison/api.ErrFull", "liaison/api.ErrPower", "liaison/api.ErrNone", "liaison/api.ErrState", "liaison/api.ErrTwice", "liaison/api.ErrDepth", "liaison/api.ErrExpired", "liaison/api.ErrProtocol"], apart := false, laid := [("liaison/api.ErrRange", laid_liaison_api_ErrRange), ("liaison/api.ErrShort", laid_liaison_api_ErrShort), ("liaison/api.ErrLong", laid_liaison_api_ErrLong), ("liaison/api.ErrForm", laid_liaison_api_ErrForm), ("liaison/api.ErrCheck", laid_liaison_api_ErrCheck), ("liaison/api.ErrFull", laid_liaison_api_ErrFull), ("liaison/api.ErrPower", laid_liaison_api_ErrPower), ("liaison/api.ErrNone", laid_liaison_api_ErrNone), ("liaison/api.ErrState", laid_liaison_api_ErrState), ("liaison/api.ErrTwice", laid_liaison_api_ErrTwice), ("liaison/api.ErrDepth", laid_liaison_api_ErrDepth), ("liaison/api.ErrExpired", laid_liaison_api_ErrExpired), ("liaison/api.ErrPanic", laid_liaison_api_ErrPanic), ("liaison/api.ErrProtocol", laid_liaison_api_ErrProtocol)], narrowed := true }
def PolicyOfUptoSaid : Prop := policyOfUptoRow.holds Tryz.pinned (OpenSpec.upto policyOfSpec)

end Rows
end Go.Proofs.YtbepkpjcjpmpmaaGreatDoor
