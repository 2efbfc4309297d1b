/- The chapter's example. -/
import Derived.Test.YtaoejkjkgdnpmaaDoorRows
import Derived.WalkKit
import Derived.WalkSpells
import Derived.WalkLawsBesides
import Derived.BigQuiet
import Derived.Deep.QuietTactic
import Derived.StillTailTactics
import Derived.Handy
import Derived.Lib.Hide
import Derived.Test.YtaoejkjkgdnpmaaDoorTabH
set_option linter.unusedSimpArgs false
set_option linter.unusedVariables false
namespace Go.Proofs.YtaoejkjkgdnpmaaDoor
open Go.RowKit

set_option maxHeartbeats 1000000 in
theorem alive10 (ea : Int → Addr) (w : World) (h : Err3 ea w) : Calls Tryd.prog 10 #[] w (Makes (.bool true) w) := by
  have hL1 : ∀ W, Err3 ea W → Calls Tryd.prog 11 #[.int .i64 1, .int .i64 1, .int .i64 3, .int .i64 2] W (Makes (.tuple #[.agg #[.int .i64 1, .int .i64 5, .int .i64 0], .nilIface]) W) := fun W hW => look_any 1 1 3 2 ea W hW
  have hL2 : ∀ W, Err3 ea W → Calls Tryd.prog 11 #[.int .i64 2, .int .i64 2, .int .i64 10, .int .i64 5] W (Makes (.tuple #[.agg #[.int .i64 3, .int .i64 0, .int .i64 3], .nilIface]) W) := fun W hW => look_any 2 2 10 5 ea W hW
  have H1 := Lib.hid hL1; clear hL1
  have H2 := Lib.hid hL2; clear hL2
  have H := Lib.hid h; clear h
  go_enter Tryd.func10, Tryd.ntmps10
  go_wp2_with fail
  refine (H1.out _ H.out).mono ?_
  rintro e w1 ⟨rfl, hb1⟩
  have B1 : Below w.heap.size w w1 := hb1
  have hz1 := hb1.size
  go_wp2_with fail
  refine (H2.out _ (H.out.below (by go_grown))).mono ?_
  rintro e w2 ⟨rfl, hb2⟩
  obtain ⟨q1, f1⟩ := (((Blk.fresh w1 _ _ _ rfl).below hb2).alloc (.cells #[.int .i64 3, .int .i64 0, .int .i64 3] 24)).out
  have hz2 := hb2.size
  simp only [World.size_alloc] at hz2
  have B2 : Below w.heap.size w w2 := below_then (by go_grown) hb2
  go_wp2_with fail
  go_ret
  exact ⟨rfl, by go_grown⟩
end Go.Proofs.YtaoejkjkgdnpmaaDoor
