/- liaisonlaw27.TraceTexts answers true at every list of events, word and node, and changes nothing that was there: the tied card. No condition. -/
import Derived.Test.YthjdaehiebcoaaaGreatDoorRows
import Derived.WalkKit
import Derived.WalkSpells
import Derived.WalkLawsBesides
import Derived.BigQuiet
import Derived.Deep.QuietTactic
import Derived.StillTailTactics
import Derived.Handy
import Derived.Lib.Hide
import Derived.Test.YthjdaehiebcoaaaGreatDoorLawText
import Derived.Test.YthjdaehiebcoaaaGreatDoorEvOpen
import Derived.Test.YthjdaehiebcoaaaGreatDoorLaidT
import Derived.Lib.SmallJoins
import Derived.ChangeArms
import Derived.ChangeMaps5
import Derived.Lay
import Derived.Test.YthjdaehiebcoaaaGreatDoorTie
import Derived.Test.YthjdaehiebcoaaaGreatDoorCards
set_option linter.unusedSimpArgs false
set_option linter.unusedVariables false
namespace Go.Proofs.YthjdaehiebcoaaaGreatDoor
open Go.ChangeShapes Go.WideShapes Go.ChangeAt Go.WideMaps Go.WideElems Go.RowKit Go.Joins

theorem texts_laid {l : List (String × DataW Unit)} (hl : l = Rows.traceTextsRow.laid) {W : World} (h : laidMetH Tryz.prog l W) (hs : W.ShapedOpen Tryz.prog) : ∃ ea, Env ea W := by
  subst hl
  exact env_of_laid (A := Rows.traceTextsRow.laid.take 2) (B := Rows.traceTextsRow.laid.drop 3) ⟨by rw [pow10_data]; rfl, Rows.traceTextsRow.laid.drop 3 |>.take 1, Rows.traceTextsRow.laid.drop 18, rfl⟩ (by kernel_rfl) h hs
set_option maxRecDepth 100000 in
theorem traceTexts_lifted (os : Os) (started : os.Started) (H : Type) (enc : TypeId × Value → H) :
    ReturnsInHanded {} Tryz.checked os 4 .any (fun w args => (Rows.traceTextsSpec.pre enc Tryz.prog Tryz.f4 [] false w args ∧ laidMetH Tryz.prog Rows.traceTextsRow.laid w) ∧ sizedMet enc Tryz.prog Tryz.f4 (OpenSpec.ofChange Rows.traceTextsSpec) false w args)
      (Rows.traceTextsSpec.post enc Tryz.prog Tryz.f4 false true false false) := by
  refine handed_and_shaped (C := Tryz.checked) (X := fun w _ => laidMetH Tryz.prog Rows.traceTextsRow.laid w) (fun _ _ _ hh h => h.of_heap hh) Tryz.own started (by kernel_rfl) Tryz.func4
    (ChangeSpec.witness_shaped (enc := enc) (C := Tryz.checked) (os := os) (X := fun w _ => laidMetH Tryz.prog Rows.traceTextsRow.laid w) false (World.laidAll Tryz.prog os Rows.traceTextsRow.laid) #[.slice none 0 0, .string ⟨#[]⟩, .int .i64 0] 8 (World.laidAll_os _ _ _) (World.shaped_of_ZipB (by kernel_rfl) (by kernel_rfl)) (by kernel_rfl) (by kernel_rfl) (by kernel_rfl)
      (by rw [MakeChecks.laidMetH_plain _ _ _ (by kernel_rfl)]; exact laidMet_laidAll _ (by kernel_rfl) (by kernel_rfl))) ?_
  intro W base args ds gs before hval0 hW _ hsz hL hshape _
  have hval : ∀ (j : Nat) t v, Tryz.f4.params[j]? = some t → args[j]? = some v → Value.okWide Tryz.prog W .any base t v := hval0
  have hpost : ∀ W', Below W.heap.size W W' → Rows.traceTextsSpec.post enc Tryz.prog Tryz.f4 false true false false W args (.bool true) W' := fun W' hb =>
    frame_post (by rw [Tryz.params4]; decide +kernel) rfl rfl (fun ds h => by rw [Tryz.params4] at h; match ds, h with | [d0, d1, d2], _ => exact ⟨rfl, rfl, rfl⟩) hW hb
  obtain ⟨p, q, hA0, hV, rfl, hfz, hnd⟩ := hW
  have hA : DataW.TrodAll enc Tryz.prog W 0 (fun _ => true) true Tryz.f4.params.toList args.toList ds p := hA0
  rw [Tryz.params4] at hA hval
  obtain ⟨v0, v1, v2, d0, d1, d2, p0, p1, p2, rfl, rfl, rfl, h0, h1, h2⟩ := trodAll_three hA
  obtain ⟨a1, n1, c1, rfl⟩ := okWide_slice Tryz.underlying33 (hval 0 _ v0 rfl rfl)
  obtain ⟨es, hR⟩ := open_events h0
  obtain ⟨s1, rfl, _, _, _⟩ := Go.ChangeMaps.open_string Tryz.underlying9 (hval 1 _ v1 rfl rfl) h1
  obtain ⟨nd, rfl, rfl, rfl, wp⟩ := open_int Tryz.underlying3 (hval 2 _ v2 rfl rfl) h2
  obtain ⟨ea, hE⟩ := texts_laid rfl hL hshape
  exact ((by have := law_texts es s1.data.toList nd _ ea W hE hR; simp only [bs_of] at this; exact this : Calls Tryz.prog 4 #[.slice a1 n1 c1, .string s1, .int .i64 nd] W (Makes (.bool true) W))).mono fun e W' ⟨he, hb⟩ => ⟨_, he, hpost W' hb⟩

theorem traceTexts_said : Rows.TraceTextsSaid :=
  OpenClaim.holds_of_wide 4 Tryz.f4 rfl rfl rfl rfl rfl rfl rfl ⟨rfl, rfl, rfl, rfl, rfl⟩ rfl rfl rfl rfl rfl (by kernel_rfl) Tryz.func4 (by kernel_rfl)
    (of_decide_eq_true (by kernel_rfl)) (by unfold Func.isWrapper; first | (rw [if_pos (by decide +kernel)]; kernel_rfl) | (rw [if_neg (by decide +kernel)]; exact ⟨rfl, rfl⟩))
    (fun os started H enc _ => traceTexts_lifted os started H enc)

theorem traceTexts_holds : Rows.TraceTextsCardSaid :=
  Claim7.holds_tied_plain_at .later [] _ true (true, _) true
    traceTexts_said (fun _ h => by cases h) (by kernel_rfl) (fun _ h => by cases h) traceTexts_row_tie rfl ⟨rfl, rfl⟩ (by kernel_rfl) rfl
    (fun f fn hf hfn => by
      obtain rfl : f = 4 := Option.some.inj ((show Tryz.prog.funcNamed "liaison/liaisonlaw27.TraceTexts" = some 4 by kernel_rfl).symm.trans hf) |>.symm
      obtain rfl : fn = Tryz.f4 := (Option.some.inj (Tryz.func4.symm.trans hfn)).symm
      exact ⟨by kernel_rfl, fun j t ht => by
        rw [Tryz.params4] at ht
        have hm : t ∈ [33, 9, 3] := by simpa using Array.mem_of_getElem? ht
        have hall : ([33, 9, 3].all fun u => !Tryz.prog.wantsStandIn u) = true := by kernel_rfl
        exact (show Tryz.prog.wantsStandIn t = false by simpa using List.all_eq_true.1 hall t hm)⟩)
    (by kernel_rfl)
#print axioms traceTexts_holds
end Go.Proofs.YthjdaehiebcoaaaGreatDoor
