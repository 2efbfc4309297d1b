/- liaisonlaw10.TablesEnd answers true at every side and state (all numbers), and changes nothing that was there: the tied card. No condition. -/
import Derived.Test.YtaoejkjkgdnpmaaDoorRows
import Derived.WalkKit
import Derived.WalkSpells
import Derived.WalkLawsBesides
import Derived.BigQuiet
import Derived.Deep.QuietTactic
import Derived.StillTailTactics
import Derived.Handy
import Derived.Lib.Hide
import Derived.Test.YtaoejkjkgdnpmaaDoorLawBfs
import Derived.Test.YtaoejkjkgdnpmaaDoorErrs
import Derived.Lib.SmallJoins
import Derived.ChangeArms
import Derived.Test.YtaoejkjkgdnpmaaDoorTie
import Derived.Test.YtaoejkjkgdnpmaaDoorCards
set_option linter.unusedSimpArgs false
set_option linter.unusedVariables false
namespace Go.Proofs.YtaoejkjkgdnpmaaDoor
open Go.ChangeShapes Go.WideShapes Go.ChangeAt Go.WideMaps Go.WideElems Go.RowKit Go.Joins

structure Err4 (ea : Int → Addr) (w : World) : Prop where
  e : Err3 ea w
  e9 : ErrIs w 8 (ea 9)
def errs4 : List LaidE := [err1, err4, err9, err14]
theorem err4_of_laid {W : World} {l : List (String × DataW Unit)} (hl : l = errs4.map LaidE.datum) (h : laidMetH Tryd.prog l W) : ∃ ea, Err4 ea W := by
  rw [MakeChecks.laidMetH_plain _ _ _ (by rw [hl]; rfl)] at h
  obtain ⟨ps, h, hnd, hrows⟩ := h
  rw [hl] at h
  obtain ⟨ea, h1, h2⟩ := sentinels errs4 ps (by decide) (fun x hx => ok14 x (by
    simp only [errs4, List.mem_cons, List.not_mem_nil, or_false] at hx
    rcases hx with rfl | rfl | rfl | rfl <;> simp [errs14])) h hnd hrows
  exact ⟨ea, ⟨(h1 err1 (by simp [errs4])).1, (h1 err4 (by simp [errs4])).1, (h1 err14 (by simp [errs4])).1⟩, (h1 err9 (by simp [errs4])).1⟩
theorem cellsSide : Tryd.prog.cellsOf 31 = 2 := by kernel_rfl
set_option maxRecDepth 100000 in
theorem tablesEnd_lifted (os : Os) (started : os.Started) (H : Type) (enc : TypeId × Value → H) :
    ReturnsInHanded {} Tryd.checked os 8 .any (fun w args => (Rows.tablesEndSpec.pre enc Tryd.prog Tryd.f8 [] false w args ∧ laidMetH Tryd.prog Rows.tablesEndRow.laid w) ∧ sizedMet enc Tryd.prog Tryd.f8 (OpenSpec.ofChange Rows.tablesEndSpec) false w args)
      (Rows.tablesEndSpec.post enc Tryd.prog Tryd.f8 false true false false) := by
  refine returnsInHanded_of_change_and (C := Tryd.checked) (X := fun w _ => laidMetH Tryd.prog Rows.tablesEndRow.laid w) (fun _ _ _ hh h => h.of_heap hh) Tryd.own started (by kernel_rfl) Tryd.func8
    (ChangeSpec.witness_shaped (enc := enc) (C := Tryd.checked) (os := os) (X := fun w _ => laidMetH Tryd.prog Rows.tablesEndRow.laid w) false (World.doorLaid Tryd.prog 400 os) #[.agg #[.int .i64 0, .int .i64 0], .int .i64 0] 8 rfl (World.shaped_of_RefB (by kernel_rfl) (by kernel_rfl)) (by kernel_rfl) (by kernel_rfl) (by kernel_rfl)
      (laidMetH_of_parts3 (fuel := 8) (laidMet_of_run' 8 (by kernel_rfl) (by kernel_rfl)) (by kernel_rfl) (by kernel_rfl))) ?_
  intro W base args ds gs before hval0 hW _ hsz hL _
  have hval : ∀ (j : Nat) t v, Tryd.f8.params[j]? = some t → args[j]? = some v → Value.okWide Tryd.prog W .any base t v := hval0
  have hpost : ∀ W', Below W.heap.size W W' → Rows.tablesEndSpec.post enc Tryd.prog Tryd.f8 false true false false W args (.bool true) W' := fun W' hb =>
    frame_post (by rw [Tryd.params8]; decide +kernel) rfl rfl (fun ds h => by rw [Tryd.params8] at h; match ds, h with | [d0, d1], _ => exact ⟨rfl, rfl, rfl⟩) hW hb
  obtain ⟨p, q, hA0, hV, rfl, hfz, hnd⟩ := hW
  have hA : DataW.TrodAll enc Tryd.prog W 0 (fun _ => true) true Tryd.f8.params.toList args.toList ds p := hA0
  rw [Tryd.params8] at hA hval
  obtain ⟨v0, v1, d0, d1, p0, p1, rfl, rfl, rfl, h0, h1⟩ := trodAll_two hA
  obtain ⟨c0, c1, y0, y1, m, rfl, rfl, rfl, hy0, hy1⟩ := open_agg2 Tryd.underlying31 (by kernel_rfl) cellsSide (hval 0 _ v0 rfl rfl) h0
  obtain ⟨a0, e0, rfl, wa⟩ := DataW.trod_int Tryd.underlying3 hy0
  obtain ⟨a1, e1, rfl, wb⟩ := DataW.trod_int Tryd.underlying3 hy1
  simp at e0 e1
  subst e0 e1
  obtain ⟨k, rfl, rfl, rfl, wk⟩ := open_int Tryd.underlying3 (hval 1 _ v1 rfl rfl) h1
  obtain ⟨ea, hE⟩ := err4_of_laid (by rfl) hL
  exact (law_end a0 a1 k ea W hE.e hE.e9).mono fun e W' ⟨he, hb⟩ => ⟨_, he, hpost W' hb⟩

theorem tablesEnd_said : Rows.TablesEndSaid :=
  OpenClaim.holds_of_wide 8 Tryd.f8 rfl rfl rfl rfl rfl rfl rfl ⟨rfl, rfl, rfl, rfl, rfl⟩ rfl rfl rfl rfl rfl (by kernel_rfl) Tryd.func8 (by kernel_rfl)
    (of_decide_eq_true (by kernel_rfl)) (by unfold Func.isWrapper; first | (rw [if_pos (by decide +kernel)]; kernel_rfl) | (rw [if_neg (by decide +kernel)]; exact ⟨rfl, rfl⟩))
    (fun os started H enc _ => tablesEnd_lifted os started H enc)

theorem tablesEnd_holds : Rows.TablesEndCardSaid :=
  Claim7.holds_tied_plain_at .later [] _ true (true, _) true
    tablesEnd_said (fun _ h => by cases h) (by kernel_rfl) (fun _ h => by cases h) tablesEnd_row_tie rfl ⟨rfl, rfl⟩ (by kernel_rfl) rfl
    (fun f fn hf hfn => by
      obtain rfl : f = 8 := Option.some.inj ((show Tryd.prog.funcNamed "liaison/liaisonlaw10.TablesEnd" = some 8 by kernel_rfl).symm.trans hf) |>.symm
      obtain rfl : fn = Tryd.f8 := (Option.some.inj (Tryd.func8.symm.trans hfn)).symm
      exact ⟨by kernel_rfl, fun j t ht => by
        rw [Tryd.params8] at ht
        have hm : t ∈ [31, 3] := by simpa using Array.mem_of_getElem? ht
        have hall : ([31, 3].all fun u => !Tryd.prog.wantsStandIn u) = true := by kernel_rfl
        exact (show Tryd.prog.wantsStandIn t = false by simpa using List.all_eq_true.1 hall t hm)⟩)
    (by kernel_rfl)
#print axioms tablesEnd_holds
end Go.Proofs.YtaoejkjkgdnpmaaDoor
