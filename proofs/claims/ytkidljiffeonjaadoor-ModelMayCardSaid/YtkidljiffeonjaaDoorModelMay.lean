/- liaisonlaw22.ModelMay answers true at every two seats (all numbers), and changes nothing that was there: the tied card. No condition. -/
import Derived.Test.YtkidljiffeonjaaDoorRows
import Derived.WalkKit
import Derived.WalkSpells
import Derived.WalkLawsBesides
import Derived.BigQuiet
import Derived.Deep.QuietTactic
import Derived.StillTailTactics
import Derived.Handy
import Derived.Lib.Hide
import Derived.Test.YtkidljiffeonjaaDoorLawMay
import Derived.Test.YtkidljiffeonjaaDoorErrs
import Derived.Lib.SmallJoins
import Derived.ChangeArms
import Derived.Test.YtkidljiffeonjaaDoorTie
import Derived.Test.YtkidljiffeonjaaDoorCards
set_option linter.unusedSimpArgs false
set_option linter.unusedVariables false
namespace Go.Proofs.YtkidljiffeonjaaDoor
open Go.ChangeShapes Go.WideShapes Go.ChangeAt Go.WideMaps Go.WideElems Go.RowKit Go.Joins

def errs39 : List LaidE := [err1, err4, err9, err14]
theorem err39_of_laid {W : World} {l : List (String × DataW Unit)} (hl : l = errs39.map LaidE.datum) (h : laidMetH Tryd.prog l W) : ∃ ea, Err39 ea W := by
  rw [MakeChecks.laidMetH_plain _ _ _ (by rw [hl]; rfl)] at h
  obtain ⟨ps, h, hnd, hrows⟩ := h
  rw [hl] at h
  obtain ⟨ea, h1, h2⟩ := sentinels errs39 ps (by decide) (fun x hx => ok14 x (by
    simp only [errs39, List.mem_cons, List.not_mem_nil, or_false] at hx
    rcases hx with rfl | rfl | rfl | rfl <;> simp [errs14])) h hnd hrows
  exact ⟨ea, ⟨(h1 err1 (by simp [errs39])).1, (h1 err4 (by simp [errs39])).1, (h1 err14 (by simp [errs39])).1⟩, (h1 err9 (by simp [errs39])).1⟩
set_option maxRecDepth 100000 in
theorem modelMay_lifted (os : Os) (started : os.Started) (H : Type) (enc : TypeId × Value → H) :
    ReturnsInHanded {} Tryd.checked os 5 .any (fun w args => (Rows.modelMaySpec.pre enc Tryd.prog Tryd.f5 [] false w args ∧ laidMetH Tryd.prog Rows.modelMayRow.laid w) ∧ sizedMet enc Tryd.prog Tryd.f5 (OpenSpec.ofChange Rows.modelMaySpec) false w args)
      (Rows.modelMaySpec.post enc Tryd.prog Tryd.f5 false true false false) := by
  refine returnsInHanded_of_change_and (C := Tryd.checked) (X := fun w _ => laidMetH Tryd.prog Rows.modelMayRow.laid w) (fun _ _ _ hh h => h.of_heap hh) Tryd.own started (by kernel_rfl) Tryd.func5
    (ChangeSpec.witness_shaped (enc := enc) (C := Tryd.checked) (os := os) (X := fun w _ => laidMetH Tryd.prog Rows.modelMayRow.laid w) false (World.doorLaid Tryd.prog 400 os) #[.agg #[.int .i64 0, .int .i64 0, .int .i64 0, .int .i64 0], .agg #[.int .i64 0, .int .i64 0, .int .i64 0, .int .i64 0]] 8 rfl (World.shaped_of_RefB (by kernel_rfl) (by kernel_rfl)) (by kernel_rfl) (by kernel_rfl) (by kernel_rfl)
      (laidMetH_of_parts3 (fuel := 8) (laidMet_of_run' 8 (by kernel_rfl) (by kernel_rfl)) (by kernel_rfl) (by kernel_rfl))) ?_
  intro W base args ds gs before hval0 hW _ hsz hL _
  have hval : ∀ (j : Nat) t v, Tryd.f5.params[j]? = some t → args[j]? = some v → Value.okWide Tryd.prog W .any base t v := hval0
  have hpost : ∀ W', Below W.heap.size W W' → Rows.modelMaySpec.post enc Tryd.prog Tryd.f5 false true false false W args (.bool true) W' := fun W' hb =>
    frame_post (by rw [Tryd.params5]; decide +kernel) rfl rfl (fun ds h => by rw [Tryd.params5] at h; match ds, h with | [d0, d1], _ => exact ⟨rfl, rfl, rfl⟩) hW hb
  obtain ⟨p, q, hA0, hV, rfl, hfz, hnd⟩ := hW
  have hA : DataW.TrodAll enc Tryd.prog W 0 (fun _ => true) true Tryd.f5.params.toList args.toList ds p := hA0
  rw [Tryd.params5] at hA hval
  obtain ⟨v0, v1, d0, d1, p0, p1, rfl, rfl, rfl, h0, h1⟩ := trodAll_two hA
  obtain ⟨a0, b0, c0, e0, y00, y01, y02, y03, n0, rfl, _, _, t00, t01, t02, t03⟩ := Go.Joins.open_agg4 Tryd.underlying52 (by kernel_rfl) (by kernel_rfl) (hval 0 _ v0 rfl rfl) h0
  obtain ⟨i00, z00, _⟩ := DataW.trod_int Tryd.underlying3 t00
  obtain ⟨i01, z01, _⟩ := DataW.trod_int Tryd.underlying3 t01
  obtain ⟨i02, z02, _⟩ := DataW.trod_int Tryd.underlying3 t02
  obtain ⟨i03, z03, _⟩ := DataW.trod_int Tryd.underlying3 t03
  simp only [List.cons.injEq, and_true] at z00
  simp only [List.cons.injEq, and_true] at z01
  simp only [List.cons.injEq, and_true] at z02
  simp only [List.cons.injEq, and_true] at z03
  subst z00
  subst z01
  subst z02
  subst z03
  obtain ⟨a1, b1, c1, e1, y10, y11, y12, y13, n1, rfl, _, _, t10, t11, t12, t13⟩ := Go.Joins.open_agg4 Tryd.underlying52 (by kernel_rfl) (by kernel_rfl) (hval 1 _ v1 rfl rfl) h1
  obtain ⟨i10, z10, _⟩ := DataW.trod_int Tryd.underlying3 t10
  obtain ⟨i11, z11, _⟩ := DataW.trod_int Tryd.underlying3 t11
  obtain ⟨i12, z12, _⟩ := DataW.trod_int Tryd.underlying3 t12
  obtain ⟨i13, z13, _⟩ := DataW.trod_int Tryd.underlying3 t13
  simp only [List.cons.injEq, and_true] at z10
  simp only [List.cons.injEq, and_true] at z11
  simp only [List.cons.injEq, and_true] at z12
  simp only [List.cons.injEq, and_true] at z13
  subst z10
  subst z11
  subst z12
  subst z13
  obtain ⟨ea, hE⟩ := err39_of_laid (by rfl) hL
  exact (law_may ⟨i00, i01, i02, i03⟩ ⟨i10, i11, i12, i13⟩ ea W hE).mono fun e W' ⟨he, hb⟩ => ⟨_, he, hpost W' hb⟩

theorem modelMay_said : Rows.ModelMaySaid :=
  OpenClaim.holds_of_wide 5 Tryd.f5 rfl rfl rfl rfl rfl rfl rfl ⟨rfl, rfl, rfl, rfl, rfl⟩ rfl rfl rfl rfl rfl (by kernel_rfl) Tryd.func5 (by kernel_rfl)
    (of_decide_eq_true (by kernel_rfl)) (by unfold Func.isWrapper; first | (rw [if_pos (by decide +kernel)]; kernel_rfl) | (rw [if_neg (by decide +kernel)]; exact ⟨rfl, rfl⟩))
    (fun os started H enc _ => modelMay_lifted os started H enc)

theorem modelMay_holds : Rows.ModelMayCardSaid :=
  Claim7.holds_tied_plain_at .later [] _ true (true, _) true
    modelMay_said (fun _ h => by cases h) (by kernel_rfl) (fun _ h => by cases h) modelMay_row_tie rfl ⟨rfl, rfl⟩ (by kernel_rfl) rfl
    (fun f fn hf hfn => by
      obtain rfl : f = 5 := Option.some.inj ((show Tryd.prog.funcNamed "liaison/liaisonlaw22.ModelMay" = some 5 by kernel_rfl).symm.trans hf) |>.symm
      obtain rfl : fn = Tryd.f5 := (Option.some.inj (Tryd.func5.symm.trans hfn)).symm
      exact ⟨by kernel_rfl, fun j t ht => by
        rw [Tryd.params5] at ht
        have hm : t ∈ [52] := by simpa using Array.mem_of_getElem? ht
        have hall : ([52].all fun u => !Tryd.prog.wantsStandIn u) = true := by kernel_rfl
        exact (show Tryd.prog.wantsStandIn t = false by simpa using List.all_eq_true.1 hall t hm)⟩)
    (by kernel_rfl)
#print axioms modelMay_holds
end Go.Proofs.YtkidljiffeonjaaDoor
