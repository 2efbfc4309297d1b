/- PartnerOnceL, JoinS, PartnerOnceJ -/
import Derived.Test.YtlkajejbfojkeaaGreatDoorRows
import Derived.WalkKit
import Derived.WalkSpells
import Derived.WalkLawsBesides
import Derived.BigQuiet
import Derived.Deep.QuietTactic
import Derived.StillTailTactics
import Derived.Handy
import Derived.Lib.Hide
import Derived.Test.YtlkajejbfojkeaaGreatDoorQRstEToLaidS
import Derived.Lib.SmallJoins
import Derived.ChangeArms
import Derived.Lay
import Derived.JoinedOf
set_option linter.unusedSimpArgs false
set_option linter.unusedVariables false
namespace Go.Proofs.YtlkajejbfojkeaaGreatDoor
open Go.ChangeShapes Go.WideShapes Go.ChangeAt Go.WideMaps Go.WideElems Go.RowKit Go.Joins

theorem partnerOnce_laid {l : List (String × DataW Unit)} (hl : l = Rows.partnerOnceRow.laid) {W : World} (h : laidMetH Tryz.prog l W) : ∃ ea, EnvS ea W := by
  subst hl
  exact envS_of_laid (A := Rows.partnerOnceRow.laid.take 2) (B := Rows.partnerOnceRow.laid.drop 3) ⟨by rw [pow10_dataS]; rfl, Rows.partnerOnceRow.laid.drop 17, rfl⟩ (by kernel_rfl) h
set_option maxRecDepth 100000 in
theorem partnerOnce_lifted (os : Os) (started : os.Started) (H : Type) (enc : TypeId × Value → H) :
    ReturnsInHanded {} Tryz.checked os 8 .any (fun w args => (Rows.partnerOnceSpec.pre enc Tryz.prog Tryz.f8 [] false w args ∧ laidMetH Tryz.prog Rows.partnerOnceRow.laid w) ∧ sizedMet enc Tryz.prog Tryz.f8 (OpenSpec.ofChange Rows.partnerOnceSpec) false w args)
      (Rows.partnerOnceSpec.post enc Tryz.prog Tryz.f8 false true false false) := by
  refine handed_and_shaped (C := Tryz.checked) (X := fun w _ => laidMetH Tryz.prog Rows.partnerOnceRow.laid w) (fun _ _ _ hh h => h.of_heap hh) Tryz.own started (by kernel_rfl) Tryz.func8
    (ChangeSpec.witness_shaped (enc := enc) (C := Tryz.checked) (os := os) (X := fun w _ => laidMetH Tryz.prog Rows.partnerOnceRow.laid w) false (World.laidAll Tryz.prog os Rows.partnerOnceRow.laid) #[.int .i64 0, .slice none 0 0, .agg #[.int .i64 0, .int .i64 0, .int .i64 0, .int .i64 0, .int .i64 0, .int .i64 0, .int .i64 0, .int .i64 0, .int .i64 0]] 8 (World.laidAll_os _ _ _) (World.shaped_of_ZipB (by kernel_rfl) (by kernel_rfl)) (by kernel_rfl) (by kernel_rfl) (by kernel_rfl)
      (by rw [MakeChecks.laidMetH_plain _ _ _ (by kernel_rfl)]; exact laidMet_laidAll _ (by kernel_rfl) (by kernel_rfl))) ?_
  intro W base args ds gs before hval0 hW _ hsz hL hshape _
  have hval : ∀ (j : Nat) t v, Tryz.f8.params[j]? = some t → args[j]? = some v → Value.okWide Tryz.prog W .any base t v := hval0
  have hpost : ∀ W', Below W.heap.size W W' → Rows.partnerOnceSpec.post enc Tryz.prog Tryz.f8 false true false false W args (.bool true) W' := fun W' hb =>
    frame_post (by rw [Tryz.params8]; decide +kernel) rfl rfl (fun ds h => by rw [Tryz.params8] at h; match ds, h with | [d0, d1, d2], _ => exact ⟨rfl, rfl, rfl⟩) hW hb
  obtain ⟨p, q, hA0, hV, rfl, hfz, hnd⟩ := hW
  have hA : DataW.TrodAll enc Tryz.prog W 0 (fun _ => true) true Tryz.f8.params.toList args.toList ds p := hA0
  rw [Tryz.params8] at hA hval
  obtain ⟨v0, v1, v2, d0, d1, d2, p0, p1, p2, rfl, rfl, rfl, h0, h1, h2⟩ := trodAll_three hA
  obtain ⟨x, rfl, _, _, wx⟩ := open_int Tryz.underlying3 (hval 0 _ v0 rfl rfl) h0
  obtain ⟨a1, n1, c1, rfl⟩ := okWide_slice Tryz.underlying22 (hval 1 _ v1 rfl rfl)
  obtain ⟨fs, hR, hF⟩ := open_facts h1
  obtain ⟨m, rfl⟩ := open_msg (hval 2 _ v2 rfl rfl) h2
  obtain ⟨ea, hE⟩ := (partnerOnce_laid rfl hL)
  exact (law_once x _ fs m ea W hE hR hF).mono fun e W' ⟨he, hb⟩ => ⟨_, he, hpost W' hb⟩

end Go.Proofs.YtlkajejbfojkeaaGreatDoor

namespace Go.Proofs.YtlkajejbfojkeaaGreatDoor

theorem js_laid : laidOutB Tryz.pinned.checked.prog = true := by kernel_rfl
theorem js_maps : mapsRowed Tryz.pinned.checked.prog = true := by kernel_rfl
theorem js_heard : Tryz.pinned.checked.prog.stopsHeard = true := by kernel_rfl
theorem js_enter : Tryz.pinned.checked.prog.mayEnter = true := by kernel_rfl
theorem js_plain : (Rows.partnerOnceRow.plainKeys == Tryz.pinned.checked.prog.plainKeys) = true := by kernel_rfl
theorem js_lift : (Rows.partnerOnceRow.lifted == Tryz.pinned.checked.prog.liftsFinal) = true := by kernel_rfl
theorem js_make : (Tryz.pinned.checked.prog.make == some Rows.partnerOnceRow.make) = true := by kernel_rfl
end Go.Proofs.YtlkajejbfojkeaaGreatDoor

namespace Go.Proofs.YtlkajejbfojkeaaGreatDoor

set_option maxHeartbeats 16000000 in
theorem partnerOnce_joined : joinedFacts Tryz.pinned.checked.prog 8 Tryz.f8 Rows.partnerOnceSpec Rows.partnerOnceRow = true := by
  unfold joinedFacts
  simp only [Bool.and_eq_true]
  repeat' apply And.intro
  · as_aux_lemma => kernel_rfl
  · exact js_laid
  · exact js_maps
  · as_aux_lemma => kernel_rfl
  · as_aux_lemma => kernel_rfl
  · as_aux_lemma => kernel_rfl
  · as_aux_lemma => kernel_rfl
  · as_aux_lemma => kernel_rfl
  · as_aux_lemma => kernel_rfl
  · as_aux_lemma => kernel_rfl
  · as_aux_lemma => kernel_rfl
  · as_aux_lemma => kernel_rfl
  · as_aux_lemma => kernel_rfl
  · as_aux_lemma => kernel_rfl
  · as_aux_lemma => kernel_rfl
  · as_aux_lemma => kernel_rfl
  · as_aux_lemma => kernel_rfl
  · as_aux_lemma => kernel_rfl
  · as_aux_lemma => kernel_rfl
  · as_aux_lemma => kernel_rfl
  · as_aux_lemma => kernel_rfl
  · as_aux_lemma => kernel_rfl
  · exact js_plain
  · as_aux_lemma => kernel_rfl
  · exact js_heard
  · exact js_enter
  · exact js_lift
  · exact js_make
  · as_aux_lemma => kernel_rfl
  · as_aux_lemma => kernel_rfl
  · as_aux_lemma => kernel_rfl
  · as_aux_lemma => kernel_rfl
end Go.Proofs.YtlkajejbfojkeaaGreatDoor
