/- liaisonlaw27.TraceLines answers true at every event (all numbers, all texts), and changes nothing that was there: the tied card. No condition. -/
import Derived.Test.YthjdaehiebcoaaaDoorRows
import Derived.WalkKit
import Derived.WalkSpells
import Derived.WalkLawsBesides
import Derived.BigQuiet
import Derived.Deep.QuietTactic
import Derived.StillTailTactics
import Derived.Handy
import Derived.Lib.Hide
import Derived.Test.YthjdaehiebcoaaaDoorLawLine
import Derived.Test.YthjdaehiebcoaaaDoorLaidT
import Derived.Lib.SmallJoins
import Derived.ChangeArms
import Derived.Lay
import Derived.Test.YthjdaehiebcoaaaDoorTie
import Derived.Test.YthjdaehiebcoaaaDoorCards
set_option linter.unusedSimpArgs false
set_option linter.unusedVariables false
namespace Go.Proofs.YthjdaehiebcoaaaDoor
open Go.ChangeShapes Go.WideShapes Go.ChangeAt Go.WideMaps Go.WideElems Go.RowKit Go.Joins

theorem lines_laid {l : List (String × DataW Unit)} (hl : l = Rows.traceLinesRow.laid) {W : World} (h : laidMetH Tryd.prog l W) (hs : W.ShapedOpen Tryd.prog) : ∃ ea, Env ea W := by
  subst hl
  exact env_of_laid (A := Rows.traceLinesRow.laid.take 2) (B := Rows.traceLinesRow.laid.drop 3) ⟨by rw [pow10_data]; rfl, Rows.traceLinesRow.laid.drop 3 |>.take 1, Rows.traceLinesRow.laid.drop 18, rfl⟩ (by kernel_rfl) h hs
set_option maxRecDepth 100000 in
theorem traceLines_lifted (os : Os) (started : os.Started) (H : Type) (enc : TypeId × Value → H) :
    ReturnsInHanded {} Tryd.checked os 3 .any (fun w args => (Rows.traceLinesSpec.pre enc Tryd.prog Tryd.f3 [] false w args ∧ laidMetH Tryd.prog Rows.traceLinesRow.laid w) ∧ sizedMet enc Tryd.prog Tryd.f3 (OpenSpec.ofChange Rows.traceLinesSpec) false w args)
      (Rows.traceLinesSpec.post enc Tryd.prog Tryd.f3 false true false false) := by
  refine handed_and_shaped (C := Tryd.checked) (X := fun w _ => laidMetH Tryd.prog Rows.traceLinesRow.laid w) (fun _ _ _ hh h => h.of_heap hh) Tryd.own started (by kernel_rfl) Tryd.func3
    (ChangeSpec.witness_shaped (enc := enc) (C := Tryd.checked) (os := os) (X := fun w _ => laidMetH Tryd.prog Rows.traceLinesRow.laid w) false (World.laidAll Tryd.prog os Rows.traceLinesRow.laid) #[.agg #[.int .i64 0, .string ⟨#[]⟩, .int .i64 0, .string ⟨#[]⟩, .string ⟨#[]⟩]] 8 (World.laidAll_os _ _ _) (World.shaped_of_ZipB (by kernel_rfl) (by kernel_rfl)) (by kernel_rfl) (by kernel_rfl) (by kernel_rfl)
      (by rw [MakeChecks.laidMetH_plain _ _ _ (by kernel_rfl)]; exact laidMet_laidAll _ (by kernel_rfl) (by kernel_rfl))) ?_
  intro W base args ds gs before hval0 hW _ hsz hL hshape _
  have hval : ∀ (j : Nat) t v, Tryd.f3.params[j]? = some t → args[j]? = some v → Value.okWide Tryd.prog W .any base t v := hval0
  have hpost : ∀ W', Below W.heap.size W W' → Rows.traceLinesSpec.post enc Tryd.prog Tryd.f3 false true false false W args (.bool true) W' := fun W' hb =>
    frame_post (by rw [Tryd.params3]; decide +kernel) rfl rfl (fun ds h => by rw [Tryd.params3] at h; match ds, h with | [d0], _ => exact ⟨rfl, rfl, rfl⟩) hW hb
  obtain ⟨p, q, hA0, hV, rfl, hfz, hnd⟩ := hW
  have hA : DataW.TrodAll enc Tryd.prog W 0 (fun _ => true) true Tryd.f3.params.toList args.toList ds p := hA0
  rw [Tryd.params3] at hA hval
  obtain ⟨v0, d0, rfl, rfl, h0⟩ := trodAll_one hA
  obtain ⟨a0, a1, a2, a3, a4, y0, y1, y2, y3, y4, n0, rfl, _, _, t0, t1, t2, t3, t4⟩ := open_agg5 Tryd.underlying23 (by kernel_rfl) (by kernel_rfl) (hval 0 _ v0 rfl rfl) h0
  obtain ⟨i0, z0, _⟩ := DataW.trod_int Tryd.underlying3 t0
  obtain ⟨s1, z1, _⟩ := DataW.trod_string Tryd.underlying9 t1
  obtain ⟨i2, z2, _⟩ := DataW.trod_int Tryd.underlying3 t2
  obtain ⟨s3, z3, _⟩ := DataW.trod_string Tryd.underlying9 t3
  obtain ⟨s4, z4, _⟩ := DataW.trod_string Tryd.underlying9 t4
  simp only [List.cons.injEq, and_true] at z0
  simp only [List.cons.injEq, and_true] at z1
  simp only [List.cons.injEq, and_true] at z2
  simp only [List.cons.injEq, and_true] at z3
  simp only [List.cons.injEq, and_true] at z4
  subst z0
  subst z1
  subst z2
  subst z3
  subst z4
  obtain ⟨ea, hE⟩ := lines_laid rfl hL hshape
  exact ((by have := law_lines i0 i2 s1.data.toList s3.data.toList s4.data.toList ea W hE; simp only [evV, evC, bs_of] at this; exact this : Calls Tryd.prog 3 #[.agg #[.int .i64 i0, .string s1, .int .i64 i2, .string s3, .string s4]] W (Makes (.bool true) W))).mono fun e W' ⟨he, hb⟩ => ⟨_, he, hpost W' hb⟩

theorem traceLines_said : Rows.TraceLinesSaid :=
  OpenClaim.holds_of_wide 3 Tryd.f3 rfl rfl rfl rfl rfl rfl rfl ⟨rfl, rfl, rfl, rfl, rfl⟩ rfl rfl rfl rfl rfl (by kernel_rfl) Tryd.func3 (by kernel_rfl)
    (of_decide_eq_true (by kernel_rfl)) (by unfold Func.isWrapper; first | (rw [if_pos (by decide +kernel)]; kernel_rfl) | (rw [if_neg (by decide +kernel)]; exact ⟨rfl, rfl⟩))
    (fun os started H enc _ => traceLines_lifted os started H enc)

theorem traceLines_holds : Rows.TraceLinesCardSaid :=
  Claim7.holds_tied_plain_at .later [] _ true (true, _) true
    traceLines_said (fun _ h => by cases h) (by kernel_rfl) (fun _ h => by cases h) traceLines_row_tie rfl ⟨rfl, rfl⟩ (by kernel_rfl) rfl
    (fun f fn hf hfn => by
      obtain rfl : f = 3 := Option.some.inj ((show Tryd.prog.funcNamed "liaison/liaisonlaw27.TraceLines" = some 3 by kernel_rfl).symm.trans hf) |>.symm
      obtain rfl : fn = Tryd.f3 := (Option.some.inj (Tryd.func3.symm.trans hfn)).symm
      exact ⟨by kernel_rfl, fun j t ht => by
        rw [Tryd.params3] at ht
        have hm : t ∈ [23] := by simpa using Array.mem_of_getElem? ht
        have hall : ([23].all fun u => !Tryd.prog.wantsStandIn u) = true := by kernel_rfl
        exact (show Tryd.prog.wantsStandIn t = false by simpa using List.all_eq_true.1 hall t hm)⟩)
    (by kernel_rfl)
#print axioms traceLines_holds
end Go.Proofs.YthjdaehiebcoaaaDoor
