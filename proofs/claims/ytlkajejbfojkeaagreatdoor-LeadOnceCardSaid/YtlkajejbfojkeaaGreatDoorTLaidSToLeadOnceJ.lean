/- LaidS, OpG, LeadOnceL, JoinS, LeadOnceJ -/
import Derived.Test.YtlkajejbfojkeaaGreatDoorRows
import Derived.WalkKit
import Derived.WalkSpells
import Derived.WalkLawsBesides
import Derived.BigQuiet
import Derived.Deep.QuietTactic
import Derived.StillTailTactics
import Derived.Handy
import Derived.Lib.Hide
import Derived.Test.YtlkajejbfojkeaaGreatDoorTStepToStoR
import Derived.Test.YtlkajejbfojkeaaGreatDoorTRstEToWrapS
import Derived.Lib.LaidTab
import Derived.Laws.Cover2
import Derived.OpenShut
import Derived.Lib.SmallJoins
import Derived.ChangeArms
import Derived.Lay
import Derived.JoinedOf
set_option linter.unusedSimpArgs false
set_option linter.unusedVariables false
set_option maxRecDepth 100000
set_option maxHeartbeats 16000000
namespace Go.Proofs.YtlkajejbfojkeaaGreatDoor
open Go.ChangeShapes Go.WideShapes Go.ChangeAt Go.WideMaps Go.WideElems Go.RowKit
theorem pow10_dataS : (Lib.tabData .u64 Lib.pow10Tab : DataW Unit) = Rows.laid_internal_strconv_uint64pow10 := by kernel_rfl
theorem errsS_of_met {W : World} (h : laidMet Tryz.prog (errs14.map LaidE.datum) W) : ∃ ea, Errs ea W :=
 errs_of_laid rfl (by rw [MakeChecks.laidMetH_plain _ _ _ (by rfl)]; exact h)
theorem envS_of_laid {W : World} {A : List (String × DataW Unit)} {B : List (String × DataW Unit)} {l : List (String × DataW Unit)}
    (hl : l = A ++ (("internal/strconv.uint64pow10", Lib.tabData .u64 Lib.pow10Tab) :: B) ∧ ∃ D, B = errs14.map LaidE.datum ++ D) (hp : (l.all fun x => x.2.handleName?.isNone) = true) (h : laidMetH Tryz.prog l W) : ∃ ea, EnvS ea W := by
 rw [MakeChecks.laidMetH_plain _ _ _ hp] at h
 obtain ⟨rfl, D, rfl⟩ := hl
 have h2 := (laidMet_parts h).2
 have h3 := (laidMet_parts (A := [("internal/strconv.uint64pow10", Lib.tabData .u64 Lib.pow10Tab)]) (B := errs14.map LaidE.datum ++ D) h2).2
 have h4 := (laidMet_parts h3).1
 obtain ⟨ea, he⟩ := errsS_of_met h4
 exact ⟨ea, he, Lib.tabIs_of_head (g := 15) (t := 380) (e := 202) (n := 20) (by kernel_rfl) (by kernel_rfl) Tryz.underlying380 Tryz.underlying202 (by kernel_rfl) (by kernel_rfl) h2⟩
open Go.RowKit Go.Deep Go.ChangeShapes Go.WideShapes Go.ChangeAt Go.WideMaps Go.WideElems
theorem open_at {H : Type} {enc : TypeId × Value → H} {W : World} {v : Value} {r : Reach} {b0 : Nat} {d : DataW H} {p : List MemPlace} {sp : Nat → Bool} (hv : Value.okWide Tryz.prog W r b0 125 v) (h : DataW.Trod enc Tryz.prog W 0 sp true 125 v d p) : ∃ (n0 : Int) (n1 : Int) (n2 : Int) (n3 : Int) (n4 : Int) (n5 : Int) (n6 : Int) (n7 : Int) (n8 : Int) (x9 : Nat), v = .agg #[.int .i64 n0, .int .i64 n1, .int .i64 n2, .int .i64 n3, .int .i64 n4, .int .i64 n5, .int .i64 n6, .int .i64 n7, .int .i64 n8, .float .f64 x9] ∧ F64 x9 := by
 obtain ⟨cs, rfl, hsz⟩ := okWide_struct Tryz.underlying125 hv
 obtain ⟨l⟩ := cs
 match l, hsz.trans (show Tryz.prog.cellsOf 125 = 10 by kernel_rfl) with
 | [v0, v1, v2, v3, v4, v5, v6, v7, v8, v9], _ =>
  obtain ⟨fuel, hf⟩ := h
  obtain ⟨xs0, k0, hk0, hxy0, _, hxl0, hfs0⟩ := DataW.trod_struct Tryz.underlying125 hf
  match xs0, hxl0 with
  | [y0_0, y0_1], _ =>
   have g0_0 := hfs0 0 _ rfl
   have g0_1 := hfs0 1 _ rfl
   simp [Value.cells, show Tryz.prog.cellsOf 81 = 9 by kernel_rfl, show Tryz.prog.cellsOf 37 = 1 by kernel_rfl] at g0_0 g0_1
   obtain ⟨xs1, k1, hk1, hxy1, _, hxl1, hfs1⟩ := DataW.trod_struct Tryz.underlying81 g0_0
   match xs1, hxl1 with
   | [y1_0, y1_1, y1_2, y1_3, y1_4, y1_5, y1_6, y1_7], _ =>
    have g1_0 := hfs1 0 _ rfl
    have g1_1 := hfs1 1 _ rfl
    have g1_2 := hfs1 2 _ rfl
    have g1_3 := hfs1 3 _ rfl
    have g1_4 := hfs1 4 _ rfl
    have g1_5 := hfs1 5 _ rfl
    have g1_6 := hfs1 6 _ rfl
    have g1_7 := hfs1 7 _ rfl
    simp [Value.cells, show Tryz.prog.cellsOf 36 = 2 by kernel_rfl, show Tryz.prog.cellsOf 3 = 1 by kernel_rfl] at g1_0 g1_1 g1_2 g1_3 g1_4 g1_5 g1_6 g1_7
    obtain ⟨xs2, k2, hk2, hxy2, _, hxl2, hfs2⟩ := DataW.trod_struct Tryz.underlying36 g1_3
    match xs2, hxl2 with
    | [y2_0, y2_1], _ =>
     have g2_0 := hfs2 0 _ rfl
     have g2_1 := hfs2 1 _ rfl
     simp [Value.cells, show Tryz.prog.cellsOf 3 = 1 by kernel_rfl] at g2_0 g2_1
     obtain ⟨z0, e0, _⟩ := DataW.trod_int Tryz.underlying3 g1_0
     (try simp only [List.cons.injEq, and_true] at e0)
     obtain ⟨z1, e1, _⟩ := DataW.trod_int Tryz.underlying3 g1_1
     (try simp only [List.cons.injEq, and_true] at e1)
     obtain ⟨z2, e2, _⟩ := DataW.trod_int Tryz.underlying3 g1_2
     (try simp only [List.cons.injEq, and_true] at e2)
     obtain ⟨z3, e3, _⟩ := DataW.trod_int Tryz.underlying3 g2_0
     (try simp only [List.cons.injEq, and_true] at e3)
     obtain ⟨z4, e4, _⟩ := DataW.trod_int Tryz.underlying3 g2_1
     (try simp only [List.cons.injEq, and_true] at e4)
     obtain ⟨z5, e5, _⟩ := DataW.trod_int Tryz.underlying3 g1_4
     (try simp only [List.cons.injEq, and_true] at e5)
     obtain ⟨z6, e6, _⟩ := DataW.trod_int Tryz.underlying3 g1_5
     (try simp only [List.cons.injEq, and_true] at e6)
     obtain ⟨z7, e7, _⟩ := DataW.trod_int Tryz.underlying3 g1_6
     (try simp only [List.cons.injEq, and_true] at e7)
     obtain ⟨z8, e8, _⟩ := DataW.trod_int Tryz.underlying3 g1_7
     (try simp only [List.cons.injEq, and_true] at e8)
     obtain ⟨z9, e9, w9⟩ := trod_f64 Tryz.underlying37 g0_1
     (try simp only [List.cons.injEq, and_true] at e9)
     subst e0 e1 e2 e3 e4 e5 e6 e7 e8 e9
     exact ⟨z0, z1, z2, z3, z4, z5, z6, z7, z8, z9, rfl, w9⟩
open Go.ChangeShapes Go.WideShapes Go.ChangeAt Go.WideMaps Go.WideElems Go.RowKit Go.Joins
theorem leadOnce_laid {l : List (String × DataW Unit)} (hl : l = Rows.leadOnceRow.laid) {W : World} (h : laidMetH Tryz.prog l W) : ∃ ea, EnvS ea W := by
 subst hl
 exact envS_of_laid (A := Rows.leadOnceRow.laid.take 2) (B := Rows.leadOnceRow.laid.drop 3) ⟨by rw [pow10_dataS]; rfl, Rows.leadOnceRow.laid.drop 17, rfl⟩ (by kernel_rfl) h
theorem leadOnce_lifted (os : Os) (started : os.Started) (H : Type) (enc : TypeId × Value → H) :
    ReturnsInHanded {} Tryz.checked os 14 .any (fun w args => (Rows.leadOnceSpec.pre enc Tryz.prog Tryz.f14 [] false w args ∧ laidMetH Tryz.prog Rows.leadOnceRow.laid w) ∧ sizedMet enc Tryz.prog Tryz.f14 (OpenSpec.ofChange Rows.leadOnceSpec) false w args)
     (Rows.leadOnceSpec.post enc Tryz.prog Tryz.f14 false true false false) := by
 refine handed_and_shaped (C := Tryz.checked) (X := fun w _ => laidMetH Tryz.prog Rows.leadOnceRow.laid w) (fun _ _ _ hh h => h.of_heap hh) Tryz.own started (by kernel_rfl) Tryz.func14
  (ChangeSpec.witness_shaped (enc := enc) (C := Tryz.checked) (os := os) (X := fun w _ => laidMetH Tryz.prog Rows.leadOnceRow.laid w) false (World.laidAll Tryz.prog os Rows.leadOnceRow.laid) #[.int .i64 0, .slice none 0 0, .agg #[.int .i64 0, .int .i64 0, .int .i64 0, .int .i64 0, .int .i64 0, .int .i64 0, .int .i64 0, .int .i64 0, .int .i64 0, .float .f64 0]] 8 (World.laidAll_os _ _ _) (World.shaped_of_ZipB (by kernel_rfl) (by kernel_rfl)) (by kernel_rfl) (by kernel_rfl) (by kernel_rfl)
    (by rw [MakeChecks.laidMetH_plain _ _ _ (by kernel_rfl)]; exact laidMet_laidAll _ (by kernel_rfl) (by kernel_rfl))) ?_
 intro W base args ds gs before hval0 hW _ hsz hL hshape _
 have hval : ∀ (j : Nat) t v, Tryz.f14.params[j]? = some t → args[j]? = some v → Value.okWide Tryz.prog W .any base t v := hval0
 have hpost : ∀ W', Below W.heap.size W W' → Rows.leadOnceSpec.post enc Tryz.prog Tryz.f14 false true false false W args (.bool true) W' := fun W' hb =>
  frame_post (by rw [Tryz.params14]; decide +kernel) rfl rfl (fun ds h => by rw [Tryz.params14] at h; match ds, h with | [d0, d1, d2], _ => exact ⟨rfl, rfl, rfl⟩) hW hb
 obtain ⟨p, q, hA0, hV, rfl, hfz, hnd⟩ := hW
 have hA : DataW.TrodAll enc Tryz.prog W 0 (fun _ => true) true Tryz.f14.params.toList args.toList ds p := hA0
 rw [Tryz.params14] at hA hval
 obtain ⟨v0, v1, v2, d0, d1, d2, p0, p1, p2, rfl, rfl, rfl, h0, h1, h2⟩ := trodAll_three hA
 obtain ⟨x, rfl, _, _, wx⟩ := open_int Tryz.underlying3 (hval 0 _ v0 rfl rfl) h0
 obtain ⟨a1, n1, c1, rfl⟩ := okWide_slice Tryz.underlying22 (hval 1 _ v1 rfl rfl)
 obtain ⟨fs, hR, hF⟩ := open_facts h1
 obtain ⟨mk, fr, tq, man, maq, mrg, mpt, mpr, mco, now, rfl, hn⟩ := open_at (hval 2 _ v2 rfl rfl) h2
 obtain ⟨ea, hE⟩ := (leadOnce_laid rfl hL)
 exact (law_lonce x _ fs mk fr tq man maq mrg mpt mpr mco now ea W hE hR hF hn).mono fun e W' ⟨he, hb⟩ => ⟨_, he, hpost W' hb⟩
theorem js_laid : laidOutB Tryz.pinned.checked.prog = true := by kernel_rfl
theorem js_maps : mapsRowed Tryz.pinned.checked.prog = true := by kernel_rfl
theorem js_heard : Tryz.pinned.checked.prog.stopsHeard = true := by kernel_rfl
theorem js_enter : Tryz.pinned.checked.prog.mayEnter = true := by kernel_rfl
theorem js_plain : (Rows.partnerOnceRow.plainKeys == Tryz.pinned.checked.prog.plainKeys) = true := by kernel_rfl
theorem js_lift : (Rows.partnerOnceRow.lifted == Tryz.pinned.checked.prog.liftsFinal) = true := by kernel_rfl
theorem js_make : (Tryz.pinned.checked.prog.make == some Rows.partnerOnceRow.make) = true := by kernel_rfl
theorem leadOnce_joined : joinedFacts Tryz.pinned.checked.prog 14 Tryz.f14 Rows.leadOnceSpec Rows.leadOnceRow = true := by
 unfold joinedFacts
 simp only [Bool.and_eq_true]
 repeat' apply And.intro
 · as_aux_lemma => kernel_rfl
 · exact js_laid
 · exact js_maps
 · as_aux_lemma => kernel_rfl
 · as_aux_lemma => kernel_rfl
 · as_aux_lemma => kernel_rfl
 · as_aux_lemma => kernel_rfl
 · as_aux_lemma => kernel_rfl
 · as_aux_lemma => kernel_rfl
 · as_aux_lemma => kernel_rfl
 · as_aux_lemma => kernel_rfl
 · as_aux_lemma => kernel_rfl
 · as_aux_lemma => kernel_rfl
 · as_aux_lemma => kernel_rfl
 · as_aux_lemma => kernel_rfl
 · as_aux_lemma => kernel_rfl
 · as_aux_lemma => kernel_rfl
 · as_aux_lemma => kernel_rfl
 · as_aux_lemma => kernel_rfl
 · as_aux_lemma => kernel_rfl
 · as_aux_lemma => kernel_rfl
 · as_aux_lemma => kernel_rfl
 · exact js_plain
 · as_aux_lemma => kernel_rfl
 · exact js_heard
 · exact js_enter
 · exact js_lift
 · exact js_make
 · as_aux_lemma => kernel_rfl
 · as_aux_lemma => kernel_rfl
 · as_aux_lemma => kernel_rfl
 · as_aux_lemma => kernel_rfl
end Go.Proofs.YtlkajejbfojkeaaGreatDoor
