/- liaisonlaw28.ClerkPlans answers true at every plan and case (all numbers, all floats), and changes nothing that was there: the tied card. No condition. -/
import Derived.Test.YtkidljiffeonjaaDoorRows
import Derived.WalkKit
import Derived.WalkSpells
import Derived.WalkLawsBesides
import Derived.BigQuiet
import Derived.Deep.QuietTactic
import Derived.StillTailTactics
import Derived.Handy
import Derived.Lib.Hide
import Derived.Test.YtkidljiffeonjaaDoorLawClerk
import Derived.Test.YtkidljiffeonjaaDoorFlOpen
import Derived.Lib.SmallJoins
import Derived.ChangeArms
import Derived.Test.YtkidljiffeonjaaDoorTie
import Derived.Test.YtkidljiffeonjaaDoorCards
set_option linter.unusedSimpArgs false
set_option linter.unusedVariables false
namespace Go.Proofs.YtkidljiffeonjaaDoor
open Go.ChangeShapes Go.WideShapes Go.ChangeAt Go.WideMaps Go.WideElems Go.RowKit Go.Joins

set_option maxRecDepth 100000 in
theorem clerkPlans_lifted (os : Os) (started : os.Started) (H : Type) (enc : TypeId × Value → H) :
    ReturnsInHanded {} Tryd.checked os 3 .any (fun w args => (Rows.clerkPlansSpec.pre enc Tryd.prog Tryd.f3 [] false w args ∧ laidMetH Tryd.prog Rows.clerkPlansRow.laid w) ∧ sizedMet enc Tryd.prog Tryd.f3 (OpenSpec.ofChange Rows.clerkPlansSpec) false w args)
      (Rows.clerkPlansSpec.post enc Tryd.prog Tryd.f3 false true false false) := by
  refine returnsInHanded_of_change_and (C := Tryd.checked) (X := fun w _ => laidMetH Tryd.prog Rows.clerkPlansRow.laid w) (fun _ _ _ hh h => h.of_heap hh) Tryd.own started (by kernel_rfl) Tryd.func3
    (ChangeSpec.witness_shaped (enc := enc) (C := Tryd.checked) (os := os) (X := fun w _ => laidMetH Tryd.prog Rows.clerkPlansRow.laid w) false (World.doorLaid Tryd.prog 400 os) #[.agg #[.int .i64 0, .float .f64 0, .int .i64 0], .agg #[.int .i64 0, .int .i64 0, .float .f64 0]] 8 rfl (World.shaped_of_RefB (by kernel_rfl) (by kernel_rfl)) (by kernel_rfl) (by kernel_rfl) (by kernel_rfl)
      (laidMetH_of_parts3 (fuel := 8) (laidMet_of_run' 8 (by kernel_rfl) (by kernel_rfl)) (by kernel_rfl) (by kernel_rfl))) ?_
  intro W base args ds gs before hval0 hW _ hsz hL _
  have hval : ∀ (j : Nat) t v, Tryd.f3.params[j]? = some t → args[j]? = some v → Value.okWide Tryd.prog W .any base t v := hval0
  have hpost : ∀ W', Below W.heap.size W W' → Rows.clerkPlansSpec.post enc Tryd.prog Tryd.f3 false true false false W args (.bool true) W' := fun W' hb =>
    frame_post (by rw [Tryd.params3]; decide +kernel) rfl rfl (fun ds h => by rw [Tryd.params3] at h; match ds, h with | [d0, d1], _ => exact ⟨rfl, rfl, rfl⟩) hW hb
  obtain ⟨p, q, hA0, hV, rfl, hfz, hnd⟩ := hW
  have hA : DataW.TrodAll enc Tryd.prog W 0 (fun _ => true) true Tryd.f3.params.toList args.toList ds p := hA0
  rw [Tryd.params3] at hA hval
  obtain ⟨v0, v1, d0, d1, p0, p1, rfl, rfl, rfl, h0, h1⟩ := trodAll_two hA
  obtain ⟨k0, k1, k2, y0, y1, y2, n, rfl, _, _, t0, t1, t2⟩ := Go.Joins.open_agg3 Tryd.underlying24 (by kernel_rfl) (by kernel_rfl) (hval 0 _ v0 rfl rfl) h0
  obtain ⟨i0, e0, _⟩ := DataW.trod_int Tryd.underlying3 t0
  obtain ⟨i1, rfl, f1⟩ := trod_f64 Tryd.underlying22 t1
  obtain ⟨i2, e2, _⟩ := DataW.trod_int Tryd.underlying3 t2
  simp only [List.cons.injEq, and_true] at e0
  simp only [List.cons.injEq, and_true] at e2
  subst e0
  subst e2
  obtain ⟨l0, l1, l2, z0, z1, z2, m, rfl, _, _, s0, s1, s2⟩ := Go.Joins.open_agg3 Tryd.underlying26 (by kernel_rfl) (by kernel_rfl) (hval 1 _ v1 rfl rfl) h1
  obtain ⟨j0, g0, _⟩ := DataW.trod_int Tryd.underlying3 s0
  obtain ⟨j1, g1, _⟩ := DataW.trod_int Tryd.underlying3 s1
  obtain ⟨j2, rfl, f2⟩ := trod_f64 Tryd.underlying22 s2
  simp only [List.cons.injEq, and_true] at g0
  simp only [List.cons.injEq, and_true] at g1
  subst g0
  subst g1
  obtain ⟨ea, hE⟩ := errs_of_laid (by rfl) hL
  exact (law_clerk ⟨i0, i1, i2⟩ j0 j1 j2 f1 f2 ea W hE).mono fun e W' ⟨he, hb⟩ => ⟨_, he, hpost W' hb⟩

theorem clerkPlans_said : Rows.ClerkPlansSaid :=
  OpenClaim.holds_of_wide 3 Tryd.f3 rfl rfl rfl rfl rfl rfl rfl ⟨rfl, rfl, rfl, rfl, rfl⟩ rfl rfl rfl rfl rfl (by kernel_rfl) Tryd.func3 (by kernel_rfl)
    (of_decide_eq_true (by kernel_rfl)) (by unfold Func.isWrapper; first | (rw [if_pos (by decide +kernel)]; kernel_rfl) | (rw [if_neg (by decide +kernel)]; exact ⟨rfl, rfl⟩))
    (fun os started H enc _ => clerkPlans_lifted os started H enc)

theorem clerkPlans_holds : Rows.ClerkPlansCardSaid :=
  Claim7.holds_tied_plain_at .later [] _ true (true, _) true
    clerkPlans_said (fun _ h => by cases h) (by kernel_rfl) (fun _ h => by cases h) clerkPlans_row_tie rfl ⟨rfl, rfl⟩ (by kernel_rfl) rfl
    (fun f fn hf hfn => by
      obtain rfl : f = 3 := Option.some.inj ((show Tryd.prog.funcNamed "liaison/liaisonlaw28.ClerkPlans" = some 3 by kernel_rfl).symm.trans hf) |>.symm
      obtain rfl : fn = Tryd.f3 := (Option.some.inj (Tryd.func3.symm.trans hfn)).symm
      exact ⟨by kernel_rfl, fun j t ht => by
        rw [Tryd.params3] at ht
        have hm : t ∈ [24, 26] := by simpa using Array.mem_of_getElem? ht
        have hall : ([24, 26].all fun u => !Tryd.prog.wantsStandIn u) = true := by kernel_rfl
        exact (show Tryd.prog.wantsStandIn t = false by simpa using List.all_eq_true.1 hall t hm)⟩)
    (by kernel_rfl)
#print axioms clerkPlans_holds
end Go.Proofs.YtkidljiffeonjaaDoor
