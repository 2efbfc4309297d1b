/- The walks of the reference's tables (liaisonref10), third part: the participant's cells. -/
import Derived.Test.YtkidljiffeonjaaDoorRows
import Derived.WalkKit
import Derived.WalkSpells
import Derived.WalkLawsBesides
import Derived.BigQuiet
import Derived.Deep.QuietTactic
import Derived.StillTailTactics
import Derived.Handy
import Derived.Lib.Hide
import Derived.Test.YtkidljiffeonjaaDoorRefA
set_option linter.unusedSimpArgs false
set_option linter.unusedVariables false
namespace Go.Proofs.YtkidljiffeonjaaDoor
open Go.RowKit

set_option maxHeartbeats 4000000 in
theorem rpart_any (k s : Int) (w : World) : Calls Tryd.prog 139 #[.int .i64 k, .int .i64 s] w (Makes (cell3 (rPart k s)) w) := by
  go_enter Tryd.func139, Tryd.ntmps139
  go_wp2_with (first | (go_at_call 165; refine (rfailing_any _ _).mono ?_; rintro e w' ⟨rfl, rfl⟩) | (go_at_call 166; refine (rwaits_any _ _ _).mono ?_; rintro e w' ⟨rfl, rfl⟩) | go_in)
  all_goals go_returns
  all_goals (refine ⟨ret_cell ?_, by go_grown⟩; (try simp only [rFailing] at *); (try simp only [beq_iff_eq, beq_eq_false_iff_ne, bne_iff_ne, bne_eq_false_iff_eq, ne_eq, decide_eq_true_eq, decide_eq_false_iff_not, Bool.not_eq_true', Bool.not_eq_false'] at *); unfold rPart)
  all_goals (try simp [*])
  all_goals (try ((repeat' split) <;> (first | rfl | omega | (simp only [Prod.mk.injEq]; omega) | (intro h; exact absurd (by decide) h))))
  all_goals (try (intro h; exact absurd (by decide) h))
end Go.Proofs.YtkidljiffeonjaaDoor
