/- A short name for hiding a fact; numbers as cells. -/
import Derived.Lib.Hide
import GoSem.Claim
set_option linter.unusedVariables false
namespace Go.Proofs.YtbepkpjcjpmpmaaGreatDoor
theorem qq {p:Prop} (h:p):Go.RowKit.Hid p:=Go.Lib.hid h
instance intCell:Coe Int Go.Value:=⟨fun n=> .int .i64 n⟩
instance natCell:Coe Nat Go.Value:=⟨fun n=> .int .i64 (n:Int)⟩
end Go.Proofs.YtbepkpjcjpmpmaaGreatDoor
