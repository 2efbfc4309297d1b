/- liaisonlaw27.TraceParses answers true at every text, and changes nothing that was there: the tied card. No condition. -/
import Derived.Test.YthjdaehiebcoaaaGreatDoorRows
import Derived.WalkKit
import Derived.WalkSpells
import Derived.WalkLawsBesides
import Derived.BigQuiet
import Derived.Deep.QuietTactic
import Derived.StillTailTactics
import Derived.Handy
import Derived.Lib.Hide
import Derived.Test.YthjdaehiebcoaaaGreatDoorLawPars
import Derived.Test.YthjdaehiebcoaaaGreatDoorLaidT
import Derived.Lib.SmallJoins
import Derived.ChangeArms
import Derived.ChangeMaps5
import Derived.Lay
import Derived.Test.YthjdaehiebcoaaaGreatDoorTie
import Derived.Test.YthjdaehiebcoaaaGreatDoorCards
set_option linter.unusedSimpArgs false
set_option linter.unusedVariables false
namespace Go.Proofs.YthjdaehiebcoaaaGreatDoor
open Go.ChangeShapes Go.WideShapes Go.ChangeAt Go.WideMaps Go.WideElems Go.RowKit Go.Joins

theorem parses_laid {l : List (String × DataW Unit)} (hl : l = Rows.traceParsesRow.laid) {W : World} (h : laidMetH Tryz.prog l W) (hs : W.ShapedOpen Tryz.prog) : ∃ ea, Env ea W := by
  subst hl
  exact env_of_laid (A := Rows.traceParsesRow.laid.take 2) (B := Rows.traceParsesRow.laid.drop 3) ⟨by rw [pow10_data]; rfl, Rows.traceParsesRow.laid.drop 3 |>.take 1, Rows.traceParsesRow.laid.drop 18, rfl⟩ (by kernel_rfl) h hs
set_option maxRecDepth 100000 in
theorem traceParses_lifted (os : Os) (started : os.Started) (H : Type) (enc : TypeId × Value → H) :
    ReturnsInHanded {} Tryz.checked os 3 .any (fun w args => (Rows.traceParsesSpec.pre enc Tryz.prog Tryz.f3 [] false w args ∧ laidMetH Tryz.prog Rows.traceParsesRow.laid w) ∧ sizedMet enc Tryz.prog Tryz.f3 (OpenSpec.ofChange Rows.traceParsesSpec) false w args)
      (Rows.traceParsesSpec.post enc Tryz.prog Tryz.f3 false true false false) := by
  refine handed_and_shaped (C := Tryz.checked) (X := fun w _ => laidMetH Tryz.prog Rows.traceParsesRow.laid w) (fun _ _ _ hh h => h.of_heap hh) Tryz.own started (by kernel_rfl) Tryz.func3
    (ChangeSpec.witness_shaped (enc := enc) (C := Tryz.checked) (os := os) (X := fun w _ => laidMetH Tryz.prog Rows.traceParsesRow.laid w) false (World.laidAll Tryz.prog os Rows.traceParsesRow.laid) #[.string ⟨#[]⟩] 8 (World.laidAll_os _ _ _) (World.shaped_of_ZipB (by kernel_rfl) (by kernel_rfl)) (by kernel_rfl) (by kernel_rfl) (by kernel_rfl)
      (by rw [MakeChecks.laidMetH_plain _ _ _ (by kernel_rfl)]; exact laidMet_laidAll _ (by kernel_rfl) (by kernel_rfl))) ?_
  intro W base args ds gs before hval0 hW _ hsz hL hshape _
  have hval : ∀ (j : Nat) t v, Tryz.f3.params[j]? = some t → args[j]? = some v → Value.okWide Tryz.prog W .any base t v := hval0
  have hpost : ∀ W', Below W.heap.size W W' → Rows.traceParsesSpec.post enc Tryz.prog Tryz.f3 false true false false W args (.bool true) W' := fun W' hb =>
    frame_post (by rw [Tryz.params3]; decide +kernel) rfl rfl (fun ds h => by rw [Tryz.params3] at h; match ds, h with | [d0], _ => exact ⟨rfl, rfl, rfl⟩) hW hb
  obtain ⟨p, q, hA0, hV, rfl, hfz, hnd⟩ := hW
  have hA : DataW.TrodAll enc Tryz.prog W 0 (fun _ => true) true Tryz.f3.params.toList args.toList ds p := hA0
  rw [Tryz.params3] at hA hval
  obtain ⟨v0, d0, rfl, rfl, h0⟩ := trodAll_one hA
  obtain ⟨s1, rfl, _, _, _⟩ := Go.ChangeMaps.open_string Tryz.underlying9 (hval 0 _ v0 rfl rfl) h0
  obtain ⟨ea, hE⟩ := parses_laid rfl hL hshape
  exact ((by have := law_parses s1.data.toList ea W hE; simp only [bs_of] at this; exact this : Calls Tryz.prog 3 #[.string s1] W (Makes (.bool true) W))).mono fun e W' ⟨he, hb⟩ => ⟨_, he, hpost W' hb⟩

theorem traceParses_said : Rows.TraceParsesSaid :=
  OpenClaim.holds_of_wide 3 Tryz.f3 rfl rfl rfl rfl rfl rfl rfl ⟨rfl, rfl, rfl, rfl, rfl⟩ rfl rfl rfl rfl rfl (by kernel_rfl) Tryz.func3 (by kernel_rfl)
    (of_decide_eq_true (by kernel_rfl)) (by unfold Func.isWrapper; first | (rw [if_pos (by decide +kernel)]; kernel_rfl) | (rw [if_neg (by decide +kernel)]; exact ⟨rfl, rfl⟩))
    (fun os started H enc _ => traceParses_lifted os started H enc)

theorem traceParses_holds : Rows.TraceParsesCardSaid :=
  Claim7.holds_tied_plain_at .later [] _ true (true, _) true
    traceParses_said (fun _ h => by cases h) (by kernel_rfl) (fun _ h => by cases h) traceParses_row_tie rfl ⟨rfl, rfl⟩ (by kernel_rfl) rfl
    (fun f fn hf hfn => by
      obtain rfl : f = 3 := Option.some.inj ((show Tryz.prog.funcNamed "liaison/liaisonlaw27.TraceParses" = some 3 by kernel_rfl).symm.trans hf) |>.symm
      obtain rfl : fn = Tryz.f3 := (Option.some.inj (Tryz.func3.symm.trans hfn)).symm
      exact ⟨by kernel_rfl, fun j t ht => by
        rw [Tryz.params3] at ht
        have hm : t ∈ [9] := by simpa using Array.mem_of_getElem? ht
        have hall : ([9].all fun u => !Tryz.prog.wantsStandIn u) = true := by kernel_rfl
        exact (show Tryz.prog.wantsStandIn t = false by simpa using List.all_eq_true.1 hall t hm)⟩)
    (by kernel_rfl)
#print axioms traceParses_holds
end Go.Proofs.YthjdaehiebcoaaaGreatDoor
