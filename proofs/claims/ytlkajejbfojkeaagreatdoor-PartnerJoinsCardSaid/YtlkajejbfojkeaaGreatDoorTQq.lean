/- A short name for hiding a fact. -/
import Derived.Lib.Hide
set_option linter.unusedVariables false
namespace Go.Proofs.YtlkajejbfojkeaaGreatDoor
theorem qq {p : Prop} (h : p) : Go.RowKit.Hid p := Go.Lib.hid h
end Go.Proofs.YtlkajejbfojkeaaGreatDoor
