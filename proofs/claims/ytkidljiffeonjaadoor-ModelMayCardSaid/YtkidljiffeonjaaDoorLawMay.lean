/- liaisonlaw22.ModelMay, walked: it answers true at all seats. -/
import Derived.Test.YtkidljiffeonjaaDoorRows
import Derived.WalkKit
import Derived.WalkSpells
import Derived.WalkLawsBesides
import Derived.BigQuiet
import Derived.Deep.QuietTactic
import Derived.StillTailTactics
import Derived.Handy
import Derived.Lib.Hide
import Derived.Test.YtkidljiffeonjaaDoorModD
import Derived.Test.YtkidljiffeonjaaDoorModE
set_option linter.unusedSimpArgs false
set_option linter.unusedVariables false
namespace Go.Proofs.YtkidljiffeonjaaDoor
open Go.RowKit

theorem may_of (a b : MSeat) (ea : Int → Addr) (w : World) (hE : Err39 ea w) : Calls Tryd.prog 28 #[seatV a, seatV b] w (Makes (.bool (mMay a b)) w) := by
  by_cases hab : a = b
  · subst hab
    have : mMay a a = true := by unfold mMay; simp
    rw [this]
    exact may_eq a w
  · exact (callsIn_wide (n := 16)).1 (may_ne 16 (by omega) a b ea w hE hab)
theorem rmay_of (a b : MSeat) (w : World) : Calls Tryd.prog 29 #[seatV a, seatV b] w (Makes (.bool (mMay a b)) w) := by
  rw [may_same]
  by_cases hab : a = b
  · subst hab
    have : rMay a a = true := by unfold rMay; simp
    rw [this]
    exact rmay_eq a w
  · exact rmay_ne a b w hab
theorem may_yes : mMay ⟨1, 1, 1, 0⟩ ⟨1, 1, 5, 0⟩ = true := by decide +kernel
theorem may_no : mMay ⟨1, 1, 1, 0⟩ ⟨1, 1, 6, 0⟩ = false := by decide +kernel
set_option maxRecDepth 100000 in
set_option maxHeartbeats 4000000 in
theorem alive22 (ea : Int → Addr) (w : World) (hE : Err39 ea w) : Calls Tryd.prog 27 #[] w (Makes (.bool true) w) := by
  have HY := Lib.hid (fun W hW => may_yes ▸ may_of ⟨1, 1, 1, 0⟩ ⟨1, 1, 5, 0⟩ ea W hW)
  have HN := Lib.hid (fun W hW => may_no ▸ may_of ⟨1, 1, 1, 0⟩ ⟨1, 1, 6, 0⟩ ea W hW)
  have HE := Lib.hid hE
  clear hE
  dsimp only [seatV] at HY HN
  go_enter Tryd.func27, Tryd.ntmps27
  go_wp2_with fail
  go_region
  all_goals go_wp2_with fail
  all_goals (refine (HY.out _ (HE.out.below (by go_grown))).mono ?_; rintro e w1 ⟨rfl, hb1⟩)
  all_goals have k0 := fun o => hb1.cell (p := ⟨w.heap.size, o, none⟩) (by simp <;> omega)
  all_goals have k1 := fun o => hb1.cell (p := ⟨w.heap.size + 1, o, none⟩) (by simp <;> omega)
  all_goals have k2 := fun o => hb1.cell (p := ⟨w.heap.size + 1 + 1, o, none⟩) (by simp <;> omega)
  all_goals go_wp2_with fail
  all_goals (refine (HN.out _ (HE.out.below (below_then (by go_grown) hb1))).mono ?_; rintro e w2 ⟨rfl, hb2⟩)
  all_goals go_wp2_with fail
  all_goals go_ret
  all_goals exact ⟨(by first | rfl | exact ret_bool (by simp)), below_then (below_then (by go_grown) hb1) hb2⟩
set_option maxRecDepth 100000 in
set_option maxHeartbeats 4000000 in
theorem law_may (a b : MSeat) (ea : Int → Addr) (w : World) (hE : Err39 ea w) : Calls Tryd.prog 5 #[seatV a, seatV b] w (Makes (.bool true) w) := by
  have HM := Lib.hid (fun W hW => may_of a b ea W hW)
  have HR := Lib.hid (fun W => rmay_of a b W)
  have HA := Lib.hid (fun W hW => alive22 ea W hW)
  have HE := Lib.hid (fun W (hb : Below w.heap.size w W) => hE.below hb)
  clear hE
  generalize mMay a b = r at *
  obtain ⟨p, d, s, h⟩ := a
  obtain ⟨p', d', s', h'⟩ := b
  dsimp only [seatV] at *
  have B2 : Below w.heap.size w ((w.alloc (.cells #[.int .i64 p, .int .i64 d, .int .i64 s, .int .i64 h] 52)).alloc (.cells #[.int .i64 p', .int .i64 d', .int .i64 s', .int .i64 h'] 52)) := ((Below.refl _ _).alloc (Nat.le_refl _) _).alloc (by simp) _
  have HX := Lib.hid ((Blk.fresh w #[.int .i64 p, .int .i64 d, .int .i64 s, .int .i64 h] 52 _ rfl).alloc (.cells #[.int .i64 p', .int .i64 d', .int .i64 s', .int .i64 h'] 52))
  have HY := Lib.hid (Blk.fresh (w.alloc (.cells #[.int .i64 p, .int .i64 d, .int .i64 s, .int .i64 h] 52)) #[.int .i64 p', .int .i64 d', .int .i64 s', .int .i64 h'] 52 (w.heap.size + 1) (by simp))
  go_enter Tryd.func5, Tryd.ntmps5
  go_wp2_with fail
  generalize (w.alloc (.cells #[.int .i64 p, .int .i64 d, .int .i64 s, .int .i64 h] 52)).alloc (.cells #[.int .i64 p', .int .i64 d', .int .i64 s', .int .i64 h'] 52) = W2 at *
  have qx := HX.out.cell; have qy := HY.out.cell
  have BB := Lib.hid B2.drew
  clear B2
  go_region_held3 (fun w' => (w'.cell? ⟨w.heap.size, 0, none⟩ = some (.int .i64 p) ∧ w'.cell? ⟨w.heap.size, 1, none⟩ = some (.int .i64 d) ∧ w'.cell? ⟨w.heap.size, 2, none⟩ = some (.int .i64 s) ∧ w'.cell? ⟨w.heap.size, 3, none⟩ = some (.int .i64 h)) ∧ w'.cell? ⟨w.heap.size + 1, 0, none⟩ = some (.int .i64 p') ∧ w'.cell? ⟨w.heap.size + 1, 1, none⟩ = some (.int .i64 d') ∧ w'.cell? ⟨w.heap.size + 1, 2, none⟩ = some (.int .i64 s') ∧ w'.cell? ⟨w.heap.size + 1, 3, none⟩ = some (.int .i64 h'))
    (exact ⟨⟨qx 0, qx 1, qx 2, qx 3⟩, qy 0, qy 1, qy 2, qy 3⟩) (first
    | (go_at_call 27; refine (HA.out _ (HE.out _ BB.out)).mono ?_; rintro e w1 ⟨rfl, hb1⟩; have HX := Lib.hid (HX.out.drew.below hb1); have HY := Lib.hid (HY.out.drew.below hb1); have BB := Lib.hid (below_then BB.out hb1); clear qx qy; have qx := HX.out.cell; have qy := HY.out.cell)
    | (go_at_call 28; refine (HM.out _ (HE.out _ BB.out)).mono ?_; rintro e w1 ⟨rfl, hb1⟩; have HX := Lib.hid (HX.out.below hb1); have HY := Lib.hid (HY.out.below hb1); have BB := Lib.hid (below_then BB.out hb1); clear qx qy; have qx := HX.out.cell; have qy := HY.out.cell)
    | (go_at_call 29; refine (HR.out _).mono ?_; rintro e w1 ⟨rfl, hb1⟩; have HX := Lib.hid (HX.out.below hb1); have HY := Lib.hid (HY.out.below hb1); have BB := Lib.hid (below_then BB.out hb1); clear qx qy; have qx := HX.out.cell; have qy := HY.out.cell))
  all_goals go_wp2_with fail
  all_goals go_ret
  all_goals exact ⟨(by first | rfl | exact ret_bool (by simp)), BB.out⟩
end Go.Proofs.YtkidljiffeonjaaDoor
