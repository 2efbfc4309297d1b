/- The walk of trace.Parse: what is read where the forms are right. -/
import Derived.Test.YthjdaehiebcoaaaGreatDoorRows
import Derived.WalkKit
import Derived.WalkSpells
import Derived.WalkLawsBesides
import Derived.BigQuiet
import Derived.Deep.QuietTactic
import Derived.StillTailTactics
import Derived.Handy
import Derived.Lib.Hide
import Derived.Test.YthjdaehiebcoaaaGreatDoorTrcG
set_option linter.unusedSimpArgs false
set_option linter.unusedVariables false
namespace Go.Proofs.YthjdaehiebcoaaaGreatDoor
open Go.RowKit

/-- behind the fifth statement: the event in memory, its node to come -/
def Mid (ea : Int → Addr) (w : World) (g : Nat) (x0 x1 x2 x3 x4 : Str) (E : Nat) (wx : World) : Prop :=
  Blk wx E #[.int .i64 (tVal7 x0), .string (bs x1), .int .i64 (-1), .string (bs (tMeant x3)), .string (bs (tMeant x4))] ∧ Blk wx w.heap.size evZ ∧ Blk wx g #[.string (bs x0), .string (bs x1), .string (bs x2), .string (bs x3), .string (bs x4)] ∧ Env ea wx ∧ Below w.heap.size w wx ∧ w.heap.size < E
theorem is_nil (a : Addr) (w : World) : Calls Tryz.prog 25 #[.nilIface, errV a] w (Gives (.bool false) w) := by
  have heq : ∀ w : World, (binOp .eql 26 .nilIface (errV a)).run Tryz.prog w = .ok (.bool false) w := fun w => by kernel_rfl
  go_enter Tryz.func25, Tryz.ntmps25
  go_wp2_with fail
  go_ret
  exact ⟨rfl, rfl⟩
theorem mid_alloc {ea : Int → Addr} {w wx : World} {g : Nat} {x0 x1 x2 x3 x4 : Str} (HP : Blk wx g #[.string (bs x0), .string (bs x1), .string (bs x2), .string (bs x3), .string (bs x4)]) (HR : Blk wx w.heap.size evZ) (HE : Env ea w) (HB : Below w.heap.size w wx) :
    Mid ea w g x0 x1 x2 x3 x4 wx.heap.size (wx.alloc (.cells #[.int .i64 (tVal7 x0), .string (bs x1), .int .i64 (-1), .string (bs (tMeant x3)), .string (bs (tMeant x4))] 24)) := by
  have hB := HB.alloc HB.size (.cells #[.int .i64 (tVal7 x0), .string (bs x1), .int .i64 (-1), .string (bs (tMeant x3)), .string (bs (tMeant x4))] 24)
  exact ⟨Blk.fresh _ _ _ _ rfl, HR.alloc _, HP.alloc _, HE.below hB, hB, HR.lt⟩
theorem mid_set {ea : Int → Addr} {w wx : World} {g E : Nat} {x0 x1 x2 x3 x4 : Str} (HV : Blk wx E evZ) (HP : Blk wx g #[.string (bs x0), .string (bs x1), .string (bs x2), .string (bs x3), .string (bs x4)]) (HR : Blk wx w.heap.size evZ) (HE : Env ea w) (HB : Below w.heap.size w wx) (hn : g < E ∧ w.heap.size < E) :
    Mid ea w g x0 x1 x2 x3 x4 E (set5 wx E (tVal7 x0) (bs x1) (-1) (bs (tMeant x3)) (bs (tMeant x4))) := by
  have hB := set5_below HB (Nat.le_of_lt hn.2) (tVal7 x0) (bs x1) (-1) (bs (tMeant x3)) (bs (tMeant x4))
  exact ⟨HV.set5 rfl _ _ _ _ _, HR.set5_other (by omega) _ _ _ _ _, HP.set5_other (by omega) _ _ _ _ _, HE.below hB, hB, hn.2⟩
set_option maxHeartbeats 2000000 in
theorem parse1_rest (s x0 x1 x2 x3 x4 : Str) (hs : s.length ≤ 100000) (hl : pieces s = [x0, x1, x2, x3, x4]) (hz : x0.length ≤ 100000 ∧ x1.length ≤ 100000 ∧ x2.length ≤ 100000 ∧ x3.length ≤ 100000 ∧ x4.length ≤ 100000) (hw : tWord x1 = true) (h0 : tDigs x0 = true) (h3 : x3 = [45] ∨ x3 ≠ [] ∧ tText x3 = true) (h4 : x4 = [45] ∨ x4 ≠ [] ∧ tText x4 = true) (p : Addr) (ea : Int → Addr) (w : World) (h : Env ea w) (hp : w.cell? p = some (.string (bs s))) :
    Calls Tryz.prog 18 #[.pointer (some p)] w (Tries ea (tSay x0 x1 x2 x3 x4).num (evV (tSay x0 x1 x2 x3 x4).get) w) := by
  have hlt := lt_of_cell hp
  obtain ⟨W1, g, hsp, hg, hP, hR, hE, hB⟩ := split_at s hs ea w h
  rw [hl] at hsp hP
  have HSp := Lib.hid hsp
  have HEW := Lib.hid h
  have hP : Blk W1 g #[.string (bs x0), .string (bs x1), .string (bs x2), .string (bs x3), .string (bs x4)] := hP
  have HW := Lib.hid (fun W => hw ▸ isWord_of x1 W)
  have HN := Lib.hid (fun W hW => number_yes x0 (hz.1) h0 ea W hW)
  have HM3 := Lib.hid (fun W hW => meant_yes x3 (hz.2.2.2.1) h3 ea W hW)
  have HM4 := Lib.hid (fun W hW => meant_yes x4 (hz.2.2.2.2) h4 ea W hW)
  have HE := Lib.hid (hE.below (Below.refl _ _).drew); have HB := Lib.hid hB.drew; have HP := Lib.hid hP.drew; have HR := Lib.hid hR.drew
  clear hsp hP hR hE hB h
  go_enter Tryz.func18, Tryz.ntmps18
  go_wp2_with fail
  refine HSp.out.mono ?_
  rintro e w1 ⟨rfl, rfl⟩
  go_wp2_with fail
  refine wp_region_held_drew (S := fun w' => w'.cell? ⟨g, 1, none⟩ = some (.string (bs x1)) ∧ w'.cell? ⟨0, 0, none⟩ = some (errV (ea 4))) (by kernel_rfl) ⟨HP.out.cell 1, HE.out.e.e4⟩ (fun hHeld => ?_)
  refine wpAnyH_takeAt (v := ?_) (d := some 8) 0 rfl rfl (by kernel_rfl) (by kernel_rfl) (by kernel_rfl) (fun _ _ _ h => h) hHeld (by rfl) ?_ ?_
  rotate_left 1
  · (intro w' hS'; (try dsimp only at hS'); go_simp; (try with_reducible rfl))
  simp only [Act.put, List.setIfInBounds_toArray, List.set_cons_zero, List.set_cons_succ]
  refine wpAnyH_takeAt (v := ?_) (d := some 9) 1 rfl rfl (by kernel_rfl) (by kernel_rfl) (by kernel_rfl) (fun _ _ _ h => h) hHeld (by rfl) ?_ ?_
  rotate_left 1
  · (intro w' hS'; (try dsimp only at hS'); go_simp; (try with_reducible rfl))
  simp only [Act.put, List.setIfInBounds_toArray, List.set_cons_zero, List.set_cons_succ]
  refine wpAnyH_takeAt (v := ?_) (d := some 10) 2 rfl rfl (by kernel_rfl) (by kernel_rfl) (by kernel_rfl) (fun _ _ _ h => h) hHeld (by rfl) ?_ ?_
  rotate_left 1
  · (intro w' hS'; (try dsimp only at hS'); go_simp; (try with_reducible rfl))
  simp only [Act.put, List.setIfInBounds_toArray, List.set_cons_zero, List.set_cons_succ]
  refine wpAnyH_takeAt (v := ?_) (d := some 11) 3 rfl rfl (by kernel_rfl) (by kernel_rfl) (by kernel_rfl) (fun _ _ _ h => h) hHeld (by rfl) ?_ ?_
  rotate_left 1
  · (intro w' hS'; (try dsimp only at hS'); go_simp; (try with_reducible rfl))
  simp only [Act.put, List.setIfInBounds_toArray, List.set_cons_zero, List.set_cons_succ]
  refine wpAnyH_takeAt (v := ?_) (d := some 12) 4 rfl rfl (by kernel_rfl) (by kernel_rfl) (by kernel_rfl) (fun _ _ _ h => h) hHeld (by rfl) ?_ ?_
  rotate_left 1
  · (intro w' hS'; (try dsimp only at hS'); go_simp; (try with_reducible rfl))
  simp only [Act.put, List.setIfInBounds_toArray, List.set_cons_zero, List.set_cons_succ]
  refine wpAnyH_takeAt (v := ?_) (d := some 13) 5 rfl rfl (by kernel_rfl) (by kernel_rfl) (by kernel_rfl) (fun _ _ _ h => h) hHeld (by rfl) ?_ ?_
  rotate_left 1
  · (intro w' hS'; (try dsimp only at hS'); go_simp; (try with_reducible rfl))
  simp only [Act.put, List.setIfInBounds_toArray, List.set_cons_zero, List.set_cons_succ]
  refine wpAnyH_takeAt (v := ?_) (d := some 14) 6 rfl rfl (by kernel_rfl) (by kernel_rfl) (by kernel_rfl) (fun _ _ _ h => h) hHeld (by rfl) ?_ ?_
  rotate_left 1
  · (intro w' hS'; (try dsimp only at hS'); go_simp; (try with_reducible rfl))
  simp only [Act.put, List.setIfInBounds_toArray, List.set_cons_zero, List.set_cons_succ]
  refine wpAnyH_takeAt (v := ?_) (d := some 17) 9 rfl rfl (by kernel_rfl) (by kernel_rfl) (by kernel_rfl) (fun _ _ _ h => h) hHeld (by rfl) ?_ ?_
  rotate_left 1
  · (intro w' hS'; (try dsimp only at hS'); go_simp; (try with_reducible rfl))
  simp only [Act.put, List.setIfInBounds_toArray, List.set_cons_zero, List.set_cons_succ]
  refine wpAnyH_call (d := some 15) 7 21 _ _ [.string (bs x1)] rfl rfl (by kernel_rfl) rfl (enters_of Tryz.func21 (by kernel_rfl) rfl) (by rfl) (by rfl) ?_
  refine (HW.out _).mono ?_; rintro e w5 ⟨rfl, rfl⟩
  refine ⟨_, rfl, _, fun _ h => h, hHeld, fun hHeld => ?_⟩
  simp only [Act.put, List.setIfInBounds_toArray, List.set_cons_zero, List.set_cons_succ]
  refine wpAnyH_takeAt (v := ?_) (d := some 16) 8 rfl rfl (by kernel_rfl) (by kernel_rfl) (by kernel_rfl) (fun _ _ _ h => h) hHeld (by rfl) ?_ ?_
  rotate_left 1
  · (intro w' hS'; (try dsimp only at hS'); go_simp; (try with_reducible rfl))
  simp only [Act.put, List.setIfInBounds_toArray, List.set_cons_zero, List.set_cons_succ]
  refine wpAnyH_call (d := some 18) 10 20 _ _ [.bool true, errV (ea 4)] rfl rfl (by kernel_rfl) rfl (enters_of Tryz.func20 (by kernel_rfl) rfl) (by rfl) (by rfl) ?_
  refine (fail_ok _ _).mono ?_; rintro e w5 ⟨rfl, rfl⟩
  refine ⟨_, rfl, _, fun _ h => h, hHeld, fun hHeld => ?_⟩
  simp only [Act.put, List.setIfInBounds_toArray, List.set_cons_zero, List.set_cons_succ]
  refine wpAnyH_done (by kernel_rfl) ?_ _
  go_wp2_with fail
  have HB := Lib.hid HB.out.drew
  have HE := Lib.hid (HE.out.below (Below.refl _ _).drew)
  have HP := Lib.hid HP.out.drew
  have HR := Lib.hid HR.out.drew
  go_cut [3] from 19 to 34 (fun s3 wx => ∃ E, s3 = .pointer (some ⟨E, 0, none⟩) ∧ Mid ea w g x0 x1 x2 x3 x4 E wx)
  case first =>
    refine wp_region_held_drew (S := fun w' => w'.cell? ⟨g, 0, none⟩ = some (.string (bs x0)) ∧ w'.cell? ⟨g, 1, none⟩ = some (.string (bs x1)) ∧ w'.cell? ⟨g, 3, none⟩ = some (.string (bs x3)) ∧ w'.cell? ⟨g, 4, none⟩ = some (.string (bs x4))) (by kernel_rfl) ⟨HP.out.cell 0, HP.out.cell 1, HP.out.cell 3, HP.out.cell 4⟩ (fun hHeld => ?_)
    generalize w1.drew.drew = w5 at *
    refine wpAnyH_takeAt (v := ?_) (d := some 19) 0 rfl rfl (by kernel_rfl) (by kernel_rfl) (by kernel_rfl) (fun _ _ _ h => h) hHeld (by rfl) ?_ ?_
    rotate_left 1
    · (intro w' hS'; (try dsimp only at hS'); go_simp; (try with_reducible rfl))
    simp only [Act.put, List.setIfInBounds_toArray, List.set_cons_zero, List.set_cons_succ]
    refine wpAnyH_takeAt (v := ?_) (d := some 20) 1 rfl rfl (by kernel_rfl) (by kernel_rfl) (by kernel_rfl) (fun _ _ _ h => h) hHeld (by rfl) ?_ ?_
    rotate_left 1
    · (intro w' hS'; (try dsimp only at hS'); go_simp; (try with_reducible rfl))
    simp only [Act.put, List.setIfInBounds_toArray, List.set_cons_zero, List.set_cons_succ]
    refine wpAnyH_takeAt (v := ?_) (d := some 21) 2 rfl rfl (by kernel_rfl) (by kernel_rfl) (by kernel_rfl) (fun _ _ _ h => h) hHeld (by rfl) ?_ ?_
    rotate_left 1
    · (intro w' hS'; (try dsimp only at hS'); go_simp; (try with_reducible rfl))
    simp only [Act.put, List.setIfInBounds_toArray, List.set_cons_zero, List.set_cons_succ]
    refine wpAnyH_takeAt (v := ?_) (d := some 23) 4 rfl rfl (by kernel_rfl) (by kernel_rfl) (by kernel_rfl) (fun _ _ _ h => h) hHeld (by rfl) ?_ ?_
    rotate_left 1
    · (intro w' hS'; (try dsimp only at hS'); go_simp; (try with_reducible rfl))
    simp only [Act.put, List.setIfInBounds_toArray, List.set_cons_zero, List.set_cons_succ]
    refine wpAnyH_takeAt (v := ?_) (d := some 24) 5 rfl rfl (by kernel_rfl) (by kernel_rfl) (by kernel_rfl) (fun _ _ _ h => h) hHeld (by rfl) ?_ ?_
    rotate_left 1
    · (intro w' hS'; (try dsimp only at hS'); go_simp; (try with_reducible rfl))
    simp only [Act.put, List.setIfInBounds_toArray, List.set_cons_zero, List.set_cons_succ]
    refine wpAnyH_takeAt (v := ?_) (d := some 25) 6 rfl rfl (by kernel_rfl) (by kernel_rfl) (by kernel_rfl) (fun _ _ _ h => h) hHeld (by rfl) ?_ ?_
    rotate_left 1
    · (intro w' hS'; (try dsimp only at hS'); go_simp; (try with_reducible rfl))
    simp only [Act.put, List.setIfInBounds_toArray, List.set_cons_zero, List.set_cons_succ]
    refine wpAnyH_takeAt (v := ?_) (d := some 26) 7 rfl rfl (by kernel_rfl) (by kernel_rfl) (by kernel_rfl) (fun _ _ _ h => h) hHeld (by rfl) ?_ ?_
    rotate_left 1
    · (intro w' hS'; (try dsimp only at hS'); go_simp; (try with_reducible rfl))
    simp only [Act.put, List.setIfInBounds_toArray, List.set_cons_zero, List.set_cons_succ]
    refine wpAnyH_takeAt (v := ?_) (d := some 27) 8 rfl rfl (by kernel_rfl) (by kernel_rfl) (by kernel_rfl) (fun _ _ _ h => h) hHeld (by rfl) ?_ ?_
    rotate_left 1
    · (intro w' hS'; (try dsimp only at hS'); go_simp; (try with_reducible rfl))
    simp only [Act.put, List.setIfInBounds_toArray, List.set_cons_zero, List.set_cons_succ]
    refine wpAnyH_takeAt (v := ?_) (d := some 28) 9 rfl rfl (by kernel_rfl) (by kernel_rfl) (by kernel_rfl) (fun _ _ _ h => h) hHeld (by rfl) ?_ ?_
    rotate_left 1
    · (intro w' hS'; (try dsimp only at hS'); go_simp; (try with_reducible rfl))
    simp only [Act.put, List.setIfInBounds_toArray, List.set_cons_zero, List.set_cons_succ]
    refine wpAnyH_takeAt (v := ?_) (d := some 30) 11 rfl rfl (by kernel_rfl) (by kernel_rfl) (by kernel_rfl) (fun _ _ _ h => h) hHeld (by rfl) ?_ ?_
    rotate_left 1
    · (intro w' hS'; (try dsimp only at hS'); go_simp; (try with_reducible rfl))
    simp only [Act.put, List.setIfInBounds_toArray, List.set_cons_zero, List.set_cons_succ]
    refine wpAnyH_takeAt (v := ?_) (d := some 31) 12 rfl rfl (by kernel_rfl) (by kernel_rfl) (by kernel_rfl) (fun _ _ _ h => h) hHeld (by rfl) ?_ ?_
    rotate_left 1
    · (intro w' hS'; (try dsimp only at hS'); go_simp; (try with_reducible rfl))
    simp only [Act.put, List.setIfInBounds_toArray, List.set_cons_zero, List.set_cons_succ]
    refine wpAnyH_takeAt (v := ?_) (d := some 32) 13 rfl rfl (by kernel_rfl) (by kernel_rfl) (by kernel_rfl) (fun _ _ _ h => h) hHeld (by rfl) ?_ ?_
    rotate_left 1
    · (intro w' hS'; (try dsimp only at hS'); go_simp; (try with_reducible rfl))
    simp only [Act.put, List.setIfInBounds_toArray, List.set_cons_zero, List.set_cons_succ]
    refine wpAnyH_two 3 16 (by kernel_rfl) ?_ ?_
    · skip
      refine wpOp_call (d := some 22) 3 22 _ _ [.string (bs x0)] rfl rfl rfl (enters_of Tryz.func22 (by kernel_rfl) rfl) (by rfl) (by rfl) ?_
      refine (HN.out _ HE.out.e).mono ?_; rintro e w5 ⟨rfl, hb1⟩
      have HB := Lib.hid (below_then HB.out hb1)
      have HE := Lib.hid (HE.out.below hb1)
      have HP := Lib.hid (HP.out.below hb1)
      have HR := Lib.hid (HR.out.below hb1)
      clear hHeld
      have hHeld := (⟨HP.out.cell 0, HP.out.cell 1, HP.out.cell 3, HP.out.cell 4⟩ : (fun w' : World => w'.cell? ⟨g, 0, none⟩ = some (.string (bs x0)) ∧ w'.cell? ⟨g, 1, none⟩ = some (.string (bs x1)) ∧ w'.cell? ⟨g, 3, none⟩ = some (.string (bs x3)) ∧ w'.cell? ⟨g, 4, none⟩ = some (.string (bs x4))) w5)
      refine ⟨_, rfl, hHeld, ?_⟩
      simp only [Act.put, List.setIfInBounds_toArray, List.set_cons_zero, List.set_cons_succ]
      refine wpAnyH_two 10 16 (by kernel_rfl) ?_ ?_
      · skip
        refine wpOp_call (d := some 29) 10 23 _ _ [.string (bs x3)] rfl rfl rfl (enters_of Tryz.func23 (by kernel_rfl) rfl) (by rfl) (by rfl) ?_
        refine (HM3.out _ HE.out.e).mono ?_; rintro e w5 ⟨rfl, hb1⟩
        have HB := Lib.hid (below_then HB.out hb1)
        have HE := Lib.hid (HE.out.below hb1)
        have HP := Lib.hid (HP.out.below hb1)
        have HR := Lib.hid (HR.out.below hb1)
        clear hHeld
        have hHeld := (⟨HP.out.cell 0, HP.out.cell 1, HP.out.cell 3, HP.out.cell 4⟩ : (fun w' : World => w'.cell? ⟨g, 0, none⟩ = some (.string (bs x0)) ∧ w'.cell? ⟨g, 1, none⟩ = some (.string (bs x1)) ∧ w'.cell? ⟨g, 3, none⟩ = some (.string (bs x3)) ∧ w'.cell? ⟨g, 4, none⟩ = some (.string (bs x4))) w5)
        refine ⟨_, rfl, hHeld, ?_⟩
        simp only [Act.put, List.setIfInBounds_toArray, List.set_cons_zero, List.set_cons_succ]
        refine wpAnyH_two 14 16 (by kernel_rfl) ?_ ?_
        · skip
          refine wpOp_call (d := some 33) 14 23 _ _ [.string (bs x4)] rfl rfl rfl (enters_of Tryz.func23 (by kernel_rfl) rfl) (by rfl) (by rfl) ?_
          refine (HM4.out _ HE.out.e).mono ?_; rintro e w5 ⟨rfl, hb1⟩
          have HB := Lib.hid (below_then HB.out hb1)
          have HE := Lib.hid (HE.out.below hb1)
          have HP := Lib.hid (HP.out.below hb1)
          have HR := Lib.hid (HR.out.below hb1)
          clear hHeld
          have hHeld := (⟨HP.out.cell 0, HP.out.cell 1, HP.out.cell 3, HP.out.cell 4⟩ : (fun w' : World => w'.cell? ⟨g, 0, none⟩ = some (.string (bs x0)) ∧ w'.cell? ⟨g, 1, none⟩ = some (.string (bs x1)) ∧ w'.cell? ⟨g, 3, none⟩ = some (.string (bs x3)) ∧ w'.cell? ⟨g, 4, none⟩ = some (.string (bs x4))) w5)
          refine ⟨_, rfl, hHeld, ?_⟩
          simp only [Act.put, List.setIfInBounds_toArray, List.set_cons_zero, List.set_cons_succ]
          refine wpAnyH_takeAt (v := ?_) (d := some 34) 15 rfl rfl (by kernel_rfl) (by kernel_rfl) (by kernel_rfl) (fun _ _ _ h => h) hHeld (by rfl) ?_ ?_
          rotate_left 1
          · (intro w' hS'; (try dsimp only at hS'); go_simp; (try with_reducible rfl))
          simp only [Act.put, List.setIfInBounds_toArray, List.set_cons_zero, List.set_cons_succ]
          have HM := Lib.hid (mid_alloc (w := w) (x0 := x0) (x1 := x1) (x2 := x2) (x3 := x3) (x4 := x4) HP.out HR.out HEW.out HB.out)
          have HNG := Lib.hid (And.intro HP.out.lt HR.out.lt)
          have HV := Lib.hid (Blk.fresh w5 #[.int .i64 0, .string ⟨#[]⟩, .int .i64 0, .string ⟨#[]⟩, .string ⟨#[]⟩] 24 _ rfl)
          have HP := Lib.hid (HP.out.alloc (.cells #[.int .i64 0, .string ⟨#[]⟩, .int .i64 0, .string ⟨#[]⟩, .string ⟨#[]⟩] 24))
          have HR := Lib.hid (HR.out.alloc (.cells #[.int .i64 0, .string ⟨#[]⟩, .int .i64 0, .string ⟨#[]⟩, .string ⟨#[]⟩] 24))
          have HE := Lib.hid (HE.out.below ((Below.refl _ _).alloc (Nat.le_refl _) (.cells #[.int .i64 0, .string ⟨#[]⟩, .int .i64 0, .string ⟨#[]⟩, .string ⟨#[]⟩] 24)))
          have HB := Lib.hid (HB.out.alloc HB.out.size (.cells #[.int .i64 0, .string ⟨#[]⟩, .int .i64 0, .string ⟨#[]⟩, .string ⟨#[]⟩] 24))
          refine wpAnyH_alone (d := some 3) 16 (.pointer (some ⟨w5.heap.size, 0, none⟩)) (w5.alloc (.cells #[.int .i64 0, .string ⟨#[]⟩, .int .i64 0, .string ⟨#[]⟩, .string ⟨#[]⟩] 24)) rfl rfl (by kernel_rfl) (by rfl) (by go_simp) ⟨HP.out.cell 0, HP.out.cell 1, HP.out.cell 3, HP.out.cell 4⟩ ?_
          simp only [Act.put, List.setIfInBounds_toArray, List.set_cons_zero, List.set_cons_succ]
          have v5 := HV.out.free
          have v0 := HV.out.cell 0
          have v1 := HV.out.cell 1
          have v2 := HV.out.cell 2
          have v3 := HV.out.cell 3
          have v4 := HV.out.cell 4
          refine wpAnyH_all (rs := [17]) (by kernel_rfl) (by simp) (fun j hj => ?_)
          obtain rfl : j = 17 := by simpa using hj
          refine wpOp_step rfl (fun K' hK => ?_)
          go_simp
          refine hK _ _ ⟨⟨HM.out.2.2.1.cell 0, HM.out.2.2.1.cell 1, HM.out.2.2.1.cell 3, HM.out.2.2.1.cell 4⟩, wpAnyH_done (by kernel_rfl) ?_ _⟩
          go_wp2_with fail
          go_meet
          exact ⟨_, rfl, HM.out⟩
        · skip
          have HNG := Lib.hid (And.intro HP.out.lt HR.out.lt)
          have HV := Lib.hid (Blk.fresh w5 #[.int .i64 0, .string ⟨#[]⟩, .int .i64 0, .string ⟨#[]⟩, .string ⟨#[]⟩] 24 _ rfl)
          have HP := Lib.hid (HP.out.alloc (.cells #[.int .i64 0, .string ⟨#[]⟩, .int .i64 0, .string ⟨#[]⟩, .string ⟨#[]⟩] 24))
          have HR := Lib.hid (HR.out.alloc (.cells #[.int .i64 0, .string ⟨#[]⟩, .int .i64 0, .string ⟨#[]⟩, .string ⟨#[]⟩] 24))
          have HE := Lib.hid (HE.out.below ((Below.refl _ _).alloc (Nat.le_refl _) (.cells #[.int .i64 0, .string ⟨#[]⟩, .int .i64 0, .string ⟨#[]⟩, .string ⟨#[]⟩] 24)))
          have HB := Lib.hid (HB.out.alloc HB.out.size (.cells #[.int .i64 0, .string ⟨#[]⟩, .int .i64 0, .string ⟨#[]⟩, .string ⟨#[]⟩] 24))
          refine wpOp_alone (d := some 3) 16 (.pointer (some ⟨w5.heap.size, 0, none⟩)) (w5.alloc (.cells #[.int .i64 0, .string ⟨#[]⟩, .int .i64 0, .string ⟨#[]⟩, .string ⟨#[]⟩] 24)) rfl rfl (by rfl) (by go_simp) ?_
          refine ⟨⟨HP.out.cell 0, HP.out.cell 1, HP.out.cell 3, HP.out.cell 4⟩, ?_⟩
          simp only [Act.put, List.setIfInBounds_toArray, List.set_cons_zero, List.set_cons_succ]
          have hHeld : (fun w' : World => w'.cell? ⟨g, 0, none⟩ = some (.string (bs x0)) ∧ w'.cell? ⟨g, 1, none⟩ = some (.string (bs x1)) ∧ w'.cell? ⟨g, 3, none⟩ = some (.string (bs x3)) ∧ w'.cell? ⟨g, 4, none⟩ = some (.string (bs x4))) (w5.alloc (.cells #[.int .i64 0, .string ⟨#[]⟩, .int .i64 0, .string ⟨#[]⟩, .string ⟨#[]⟩] 24)) := ⟨HP.out.cell 0, HP.out.cell 1, HP.out.cell 3, HP.out.cell 4⟩
          skip
          refine wpAnyH_call (d := some 33) 14 23 _ _ [.string (bs x4)] rfl rfl (by kernel_rfl) rfl (enters_of Tryz.func23 (by kernel_rfl) rfl) (by rfl) (by rfl) ?_
          refine (HM4.out _ HE.out.e).mono ?_; rintro e w5 ⟨rfl, hb1⟩
          have HB := Lib.hid (below_then HB.out hb1)
          have HE := Lib.hid (HE.out.below hb1)
          have HP := Lib.hid (HP.out.below hb1)
          have HR := Lib.hid (HR.out.below hb1)
          have HV := Lib.hid (HV.out.below hb1)
          clear hHeld
          have hHeld := (⟨HP.out.cell 0, HP.out.cell 1, HP.out.cell 3, HP.out.cell 4⟩ : (fun w' : World => w'.cell? ⟨g, 0, none⟩ = some (.string (bs x0)) ∧ w'.cell? ⟨g, 1, none⟩ = some (.string (bs x1)) ∧ w'.cell? ⟨g, 3, none⟩ = some (.string (bs x3)) ∧ w'.cell? ⟨g, 4, none⟩ = some (.string (bs x4))) w5)
          refine ⟨_, rfl, _, fun _ h => h, hHeld, fun hHeld => ?_⟩
          simp only [Act.put, List.setIfInBounds_toArray, List.set_cons_zero, List.set_cons_succ]
          refine wpAnyH_takeAt (v := ?_) (d := some 34) 15 rfl rfl (by kernel_rfl) (by kernel_rfl) (by kernel_rfl) (fun _ _ _ h => h) hHeld (by rfl) ?_ ?_
          rotate_left 1
          · (intro w' hS'; (try dsimp only at hS'); go_simp; (try with_reducible rfl))
          simp only [Act.put, List.setIfInBounds_toArray, List.set_cons_zero, List.set_cons_succ]
          have HM := Lib.hid (mid_set (w := w) (x0 := x0) (x1 := x1) (x2 := x2) (x3 := x3) (x4 := x4) HV.out HP.out HR.out HEW.out HB.out HNG.out)
          dsimp only [set5] at HM
          have v5 := HV.out.free
          have v0 := HV.out.cell 0
          have v1 := HV.out.cell 1
          have v2 := HV.out.cell 2
          have v3 := HV.out.cell 3
          have v4 := HV.out.cell 4
          refine wpAnyH_all (rs := [17]) (by kernel_rfl) (by simp) (fun j hj => ?_)
          obtain rfl : j = 17 := by simpa using hj
          refine wpOp_step rfl (fun K' hK => ?_)
          go_simp
          refine hK _ _ ⟨⟨HM.out.2.2.1.cell 0, HM.out.2.2.1.cell 1, HM.out.2.2.1.cell 3, HM.out.2.2.1.cell 4⟩, wpAnyH_done (by kernel_rfl) ?_ _⟩
          go_wp2_with fail
          go_meet
          exact ⟨_, rfl, HM.out⟩
      · skip
        have HNG := Lib.hid (And.intro HP.out.lt HR.out.lt)
        have HV := Lib.hid (Blk.fresh w5 #[.int .i64 0, .string ⟨#[]⟩, .int .i64 0, .string ⟨#[]⟩, .string ⟨#[]⟩] 24 _ rfl)
        have HP := Lib.hid (HP.out.alloc (.cells #[.int .i64 0, .string ⟨#[]⟩, .int .i64 0, .string ⟨#[]⟩, .string ⟨#[]⟩] 24))
        have HR := Lib.hid (HR.out.alloc (.cells #[.int .i64 0, .string ⟨#[]⟩, .int .i64 0, .string ⟨#[]⟩, .string ⟨#[]⟩] 24))
        have HE := Lib.hid (HE.out.below ((Below.refl _ _).alloc (Nat.le_refl _) (.cells #[.int .i64 0, .string ⟨#[]⟩, .int .i64 0, .string ⟨#[]⟩, .string ⟨#[]⟩] 24)))
        have HB := Lib.hid (HB.out.alloc HB.out.size (.cells #[.int .i64 0, .string ⟨#[]⟩, .int .i64 0, .string ⟨#[]⟩, .string ⟨#[]⟩] 24))
        refine wpOp_alone (d := some 3) 16 (.pointer (some ⟨w5.heap.size, 0, none⟩)) (w5.alloc (.cells #[.int .i64 0, .string ⟨#[]⟩, .int .i64 0, .string ⟨#[]⟩, .string ⟨#[]⟩] 24)) rfl rfl (by rfl) (by go_simp) ?_
        refine ⟨⟨HP.out.cell 0, HP.out.cell 1, HP.out.cell 3, HP.out.cell 4⟩, ?_⟩
        simp only [Act.put, List.setIfInBounds_toArray, List.set_cons_zero, List.set_cons_succ]
        have hHeld : (fun w' : World => w'.cell? ⟨g, 0, none⟩ = some (.string (bs x0)) ∧ w'.cell? ⟨g, 1, none⟩ = some (.string (bs x1)) ∧ w'.cell? ⟨g, 3, none⟩ = some (.string (bs x3)) ∧ w'.cell? ⟨g, 4, none⟩ = some (.string (bs x4))) (w5.alloc (.cells #[.int .i64 0, .string ⟨#[]⟩, .int .i64 0, .string ⟨#[]⟩, .string ⟨#[]⟩] 24)) := ⟨HP.out.cell 0, HP.out.cell 1, HP.out.cell 3, HP.out.cell 4⟩
        skip
        refine wpAnyH_call (d := some 29) 10 23 _ _ [.string (bs x3)] rfl rfl (by kernel_rfl) rfl (enters_of Tryz.func23 (by kernel_rfl) rfl) (by rfl) (by rfl) ?_
        refine (HM3.out _ HE.out.e).mono ?_; rintro e w5 ⟨rfl, hb1⟩
        have HB := Lib.hid (below_then HB.out hb1)
        have HE := Lib.hid (HE.out.below hb1)
        have HP := Lib.hid (HP.out.below hb1)
        have HR := Lib.hid (HR.out.below hb1)
        have HV := Lib.hid (HV.out.below hb1)
        clear hHeld
        have hHeld := (⟨HP.out.cell 0, HP.out.cell 1, HP.out.cell 3, HP.out.cell 4⟩ : (fun w' : World => w'.cell? ⟨g, 0, none⟩ = some (.string (bs x0)) ∧ w'.cell? ⟨g, 1, none⟩ = some (.string (bs x1)) ∧ w'.cell? ⟨g, 3, none⟩ = some (.string (bs x3)) ∧ w'.cell? ⟨g, 4, none⟩ = some (.string (bs x4))) w5)
        refine ⟨_, rfl, _, fun _ h => h, hHeld, fun hHeld => ?_⟩
        simp only [Act.put, List.setIfInBounds_toArray, List.set_cons_zero, List.set_cons_succ]
        refine wpAnyH_call (d := some 33) 14 23 _ _ [.string (bs x4)] rfl rfl (by kernel_rfl) rfl (enters_of Tryz.func23 (by kernel_rfl) rfl) (by rfl) (by rfl) ?_
        refine (HM4.out _ HE.out.e).mono ?_; rintro e w5 ⟨rfl, hb1⟩
        have HB := Lib.hid (below_then HB.out hb1)
        have HE := Lib.hid (HE.out.below hb1)
        have HP := Lib.hid (HP.out.below hb1)
        have HR := Lib.hid (HR.out.below hb1)
        have HV := Lib.hid (HV.out.below hb1)
        clear hHeld
        have hHeld := (⟨HP.out.cell 0, HP.out.cell 1, HP.out.cell 3, HP.out.cell 4⟩ : (fun w' : World => w'.cell? ⟨g, 0, none⟩ = some (.string (bs x0)) ∧ w'.cell? ⟨g, 1, none⟩ = some (.string (bs x1)) ∧ w'.cell? ⟨g, 3, none⟩ = some (.string (bs x3)) ∧ w'.cell? ⟨g, 4, none⟩ = some (.string (bs x4))) w5)
        refine ⟨_, rfl, _, fun _ h => h, hHeld, fun hHeld => ?_⟩
        simp only [Act.put, List.setIfInBounds_toArray, List.set_cons_zero, List.set_cons_succ]
        refine wpAnyH_takeAt (v := ?_) (d := some 34) 15 rfl rfl (by kernel_rfl) (by kernel_rfl) (by kernel_rfl) (fun _ _ _ h => h) hHeld (by rfl) ?_ ?_
        rotate_left 1
        · (intro w' hS'; (try dsimp only at hS'); go_simp; (try with_reducible rfl))
        simp only [Act.put, List.setIfInBounds_toArray, List.set_cons_zero, List.set_cons_succ]
        have HM := Lib.hid (mid_set (w := w) (x0 := x0) (x1 := x1) (x2 := x2) (x3 := x3) (x4 := x4) HV.out HP.out HR.out HEW.out HB.out HNG.out)
        dsimp only [set5] at HM
        have v5 := HV.out.free
        have v0 := HV.out.cell 0
        have v1 := HV.out.cell 1
        have v2 := HV.out.cell 2
        have v3 := HV.out.cell 3
        have v4 := HV.out.cell 4
        refine wpAnyH_all (rs := [17]) (by kernel_rfl) (by simp) (fun j hj => ?_)
        obtain rfl : j = 17 := by simpa using hj
        refine wpOp_step rfl (fun K' hK => ?_)
        go_simp
        refine hK _ _ ⟨⟨HM.out.2.2.1.cell 0, HM.out.2.2.1.cell 1, HM.out.2.2.1.cell 3, HM.out.2.2.1.cell 4⟩, wpAnyH_done (by kernel_rfl) ?_ _⟩
        go_wp2_with fail
        go_meet
        exact ⟨_, rfl, HM.out⟩
    · skip
      have HNG := Lib.hid (And.intro HP.out.lt HR.out.lt)
      have HV := Lib.hid (Blk.fresh w5 #[.int .i64 0, .string ⟨#[]⟩, .int .i64 0, .string ⟨#[]⟩, .string ⟨#[]⟩] 24 _ rfl)
      have HP := Lib.hid (HP.out.alloc (.cells #[.int .i64 0, .string ⟨#[]⟩, .int .i64 0, .string ⟨#[]⟩, .string ⟨#[]⟩] 24))
      have HR := Lib.hid (HR.out.alloc (.cells #[.int .i64 0, .string ⟨#[]⟩, .int .i64 0, .string ⟨#[]⟩, .string ⟨#[]⟩] 24))
      have HE := Lib.hid (HE.out.below ((Below.refl _ _).alloc (Nat.le_refl _) (.cells #[.int .i64 0, .string ⟨#[]⟩, .int .i64 0, .string ⟨#[]⟩, .string ⟨#[]⟩] 24)))
      have HB := Lib.hid (HB.out.alloc HB.out.size (.cells #[.int .i64 0, .string ⟨#[]⟩, .int .i64 0, .string ⟨#[]⟩, .string ⟨#[]⟩] 24))
      refine wpOp_alone (d := some 3) 16 (.pointer (some ⟨w5.heap.size, 0, none⟩)) (w5.alloc (.cells #[.int .i64 0, .string ⟨#[]⟩, .int .i64 0, .string ⟨#[]⟩, .string ⟨#[]⟩] 24)) rfl rfl (by rfl) (by go_simp) ?_
      refine ⟨⟨HP.out.cell 0, HP.out.cell 1, HP.out.cell 3, HP.out.cell 4⟩, ?_⟩
      simp only [Act.put, List.setIfInBounds_toArray, List.set_cons_zero, List.set_cons_succ]
      have hHeld : (fun w' : World => w'.cell? ⟨g, 0, none⟩ = some (.string (bs x0)) ∧ w'.cell? ⟨g, 1, none⟩ = some (.string (bs x1)) ∧ w'.cell? ⟨g, 3, none⟩ = some (.string (bs x3)) ∧ w'.cell? ⟨g, 4, none⟩ = some (.string (bs x4))) (w5.alloc (.cells #[.int .i64 0, .string ⟨#[]⟩, .int .i64 0, .string ⟨#[]⟩, .string ⟨#[]⟩] 24)) := ⟨HP.out.cell 0, HP.out.cell 1, HP.out.cell 3, HP.out.cell 4⟩
      skip
      refine wpAnyH_call (d := some 22) 3 22 _ _ [.string (bs x0)] rfl rfl (by kernel_rfl) rfl (enters_of Tryz.func22 (by kernel_rfl) rfl) (by rfl) (by rfl) ?_
      refine (HN.out _ HE.out.e).mono ?_; rintro e w5 ⟨rfl, hb1⟩
      have HB := Lib.hid (below_then HB.out hb1)
      have HE := Lib.hid (HE.out.below hb1)
      have HP := Lib.hid (HP.out.below hb1)
      have HR := Lib.hid (HR.out.below hb1)
      have HV := Lib.hid (HV.out.below hb1)
      clear hHeld
      have hHeld := (⟨HP.out.cell 0, HP.out.cell 1, HP.out.cell 3, HP.out.cell 4⟩ : (fun w' : World => w'.cell? ⟨g, 0, none⟩ = some (.string (bs x0)) ∧ w'.cell? ⟨g, 1, none⟩ = some (.string (bs x1)) ∧ w'.cell? ⟨g, 3, none⟩ = some (.string (bs x3)) ∧ w'.cell? ⟨g, 4, none⟩ = some (.string (bs x4))) w5)
      refine ⟨_, rfl, _, fun _ h => h, hHeld, fun hHeld => ?_⟩
      simp only [Act.put, List.setIfInBounds_toArray, List.set_cons_zero, List.set_cons_succ]
      refine wpAnyH_call (d := some 29) 10 23 _ _ [.string (bs x3)] rfl rfl (by kernel_rfl) rfl (enters_of Tryz.func23 (by kernel_rfl) rfl) (by rfl) (by rfl) ?_
      refine (HM3.out _ HE.out.e).mono ?_; rintro e w5 ⟨rfl, hb1⟩
      have HB := Lib.hid (below_then HB.out hb1)
      have HE := Lib.hid (HE.out.below hb1)
      have HP := Lib.hid (HP.out.below hb1)
      have HR := Lib.hid (HR.out.below hb1)
      have HV := Lib.hid (HV.out.below hb1)
      clear hHeld
      have hHeld := (⟨HP.out.cell 0, HP.out.cell 1, HP.out.cell 3, HP.out.cell 4⟩ : (fun w' : World => w'.cell? ⟨g, 0, none⟩ = some (.string (bs x0)) ∧ w'.cell? ⟨g, 1, none⟩ = some (.string (bs x1)) ∧ w'.cell? ⟨g, 3, none⟩ = some (.string (bs x3)) ∧ w'.cell? ⟨g, 4, none⟩ = some (.string (bs x4))) w5)
      refine ⟨_, rfl, _, fun _ h => h, hHeld, fun hHeld => ?_⟩
      simp only [Act.put, List.setIfInBounds_toArray, List.set_cons_zero, List.set_cons_succ]
      refine wpAnyH_call (d := some 33) 14 23 _ _ [.string (bs x4)] rfl rfl (by kernel_rfl) rfl (enters_of Tryz.func23 (by kernel_rfl) rfl) (by rfl) (by rfl) ?_
      refine (HM4.out _ HE.out.e).mono ?_; rintro e w5 ⟨rfl, hb1⟩
      have HB := Lib.hid (below_then HB.out hb1)
      have HE := Lib.hid (HE.out.below hb1)
      have HP := Lib.hid (HP.out.below hb1)
      have HR := Lib.hid (HR.out.below hb1)
      have HV := Lib.hid (HV.out.below hb1)
      clear hHeld
      have hHeld := (⟨HP.out.cell 0, HP.out.cell 1, HP.out.cell 3, HP.out.cell 4⟩ : (fun w' : World => w'.cell? ⟨g, 0, none⟩ = some (.string (bs x0)) ∧ w'.cell? ⟨g, 1, none⟩ = some (.string (bs x1)) ∧ w'.cell? ⟨g, 3, none⟩ = some (.string (bs x3)) ∧ w'.cell? ⟨g, 4, none⟩ = some (.string (bs x4))) w5)
      refine ⟨_, rfl, _, fun _ h => h, hHeld, fun hHeld => ?_⟩
      simp only [Act.put, List.setIfInBounds_toArray, List.set_cons_zero, List.set_cons_succ]
      refine wpAnyH_takeAt (v := ?_) (d := some 34) 15 rfl rfl (by kernel_rfl) (by kernel_rfl) (by kernel_rfl) (fun _ _ _ h => h) hHeld (by rfl) ?_ ?_
      rotate_left 1
      · (intro w' hS'; (try dsimp only at hS'); go_simp; (try with_reducible rfl))
      simp only [Act.put, List.setIfInBounds_toArray, List.set_cons_zero, List.set_cons_succ]
      have HM := Lib.hid (mid_set (w := w) (x0 := x0) (x1 := x1) (x2 := x2) (x3 := x3) (x4 := x4) HV.out HP.out HR.out HEW.out HB.out HNG.out)
      dsimp only [set5] at HM
      have v5 := HV.out.free
      have v0 := HV.out.cell 0
      have v1 := HV.out.cell 1
      have v2 := HV.out.cell 2
      have v3 := HV.out.cell 3
      have v4 := HV.out.cell 4
      refine wpAnyH_all (rs := [17]) (by kernel_rfl) (by simp) (fun j hj => ?_)
      obtain rfl : j = 17 := by simpa using hj
      refine wpOp_step rfl (fun K' hK => ?_)
      go_simp
      refine hK _ _ ⟨⟨HM.out.2.2.1.cell 0, HM.out.2.2.1.cell 1, HM.out.2.2.1.cell 3, HM.out.2.2.1.cell 4⟩, wpAnyH_done (by kernel_rfl) ?_ _⟩
      go_wp2_with fail
      go_meet
      exact ⟨_, rfl, HM.out⟩
  case rest =>
    obtain ⟨E, rfl, hM⟩ := hcut
    clear HB HE HP HR HN HM3 HM4 HW HEW HSp
    obtain ⟨v0, hv0⟩ : ∃ v : Int, v = (tVal7 x0 : Int) := ⟨_, rfl⟩
    have hM2 : Blk wc E #[.int .i64 v0, .string (bs x1), .int .i64 (-1), .string (bs (tMeant x3)), .string (bs (tMeant x4))] := by rw [hv0]; exact hM.1
    have KE := Lib.hid hM2; have KR := Lib.hid hM.2.1; have KP := Lib.hid hM.2.2.1; have HE := Lib.hid hM.2.2.2.1; have HB := Lib.hid hM.2.2.2.2.1
    have hER := hM.2.2.2.2.2
    clear hM hM2
    have hform : tForm x0 x1 x2 x3 x4 = (x2 == [45] || (tNode x2).isSome) := by
      unfold tForm
      have e3 : (x3 == [45] || !(x3 == []) && tText x3) = true := by rcases h3 with h | ⟨h, h'⟩ <;> simp [h, *]
      have e4 : (x4 == [45] || !(x4 == []) && tText x4) = true := by rcases h4 with h | ⟨h, h'⟩ <;> simp [h, *]
      rw [hw, h0, e3, e4]; rfl
    have c2 := KP.out.cell 2
    by_cases h45 : x2 = [45]
    · have e45 : ((bs x2).toList == [45]) = true := by rw [bs_toList, h45]; rfl
      have hsay : tSay x0 x1 x2 x3 x4 = if v0 ≤ 999999 then .ev ⟨v0, x1, -1, tMeant x3, tMeant x4⟩ else .no 1 := by
        unfold tSay
        rw [hform, h45, ← hv0]
        simp [tNodeV]
      clear hform h45 h0 h3 h4 hw hv0 hz
      by_cases hst : v0 ≤ 999999
      · rw [if_pos hst] at hsay
        have HEND : Hid (∀ e' W', Makes (.agg #[.int .i64 v0, .string (bs x1), .int .i64 (-1), .string (bs (tMeant x3)), .string (bs (tMeant x4))]) w e' W' → Tries ea (tSay x0 x1 x2 x3 x4).num (evV (tSay x0 x1 x2 x3 x4).get) w e' W') := Lib.hid (fun e' W' hm => by rw [hsay]; show Tries ea 0 (.agg #[.int .i64 v0, .string (bs x1), .int .i64 (-1), .string (bs (tMeant x3)), .string (bs (tMeant x4))]) w e' W'; rw [Tries, if_pos rfl]; exact hm)
        clear hsay
        have a0 : wc.cell? ⟨E, 0, none⟩ = some (.int .i64 v0) := KE.out.cell 0
        have a1 : wc.cell? ⟨E, 1, none⟩ = some (.string (bs x1)) := KE.out.cell 1
        have a2 : wc.cell? ⟨E, 2, none⟩ = some (.int .i64 (-1)) := KE.out.cell 2
        have a3 : wc.cell? ⟨E, 3, none⟩ = some (.string (bs (tMeant x3))) := KE.out.cell 3
        have a4 : wc.cell? ⟨E, 4, none⟩ = some (.string (bs (tMeant x4))) := KE.out.cell 4
        have af := KE.out.free
        have k1 := HE.out.e.e1
        dsimp only [ErrIs] at k1
        have hne : E ≠ w.heap.size := by omega
        have hne2 : w.heap.size ≠ E := by omega
        have b0 : wc.cell? ⟨w.heap.size, 0, none⟩ = some (.int .i64 0) := KR.out.cell 0
        have b1 : wc.cell? ⟨w.heap.size, 1, none⟩ = some (.string ⟨#[]⟩) := KR.out.cell 1
        have b2 : wc.cell? ⟨w.heap.size, 2, none⟩ = some (.int .i64 0) := KR.out.cell 2
        have b3 : wc.cell? ⟨w.heap.size, 3, none⟩ = some (.string ⟨#[]⟩) := KR.out.cell 3
        have b4 : wc.cell? ⟨w.heap.size, 4, none⟩ = some (.string ⟨#[]⟩) := KR.out.cell 4
        have b5 := KR.out.free
        have KX := Lib.hid (KR.out.set5 rfl v0 (bs x1) (-1) (bs (tMeant x3)) (bs (tMeant x4)))
        have KB := Lib.hid (set5_below HB.out (Nat.le_refl w.heap.size) v0 (bs x1) (-1) (bs (tMeant x3)) (bs (tMeant x4)))
        dsimp only [set5] at KX KB
        go_wp2_with (go_at_call 20; refine (fail_if _ _ _ (by first | rfl)).mono ?_; rintro e w6 ⟨rfl, rfl⟩)
        clear a0 a1 a2 a3 a4 af b0 b1 b2 b3 b4 b5
        generalize (((((wc).setCell ⟨w.heap.size, 0, none⟩ (.int .i64 v0)).setCell ⟨w.heap.size, 1, none⟩ (.string (bs x1))).setCell ⟨w.heap.size, 2, none⟩ (.int .i64 (-1))).setCell ⟨w.heap.size, 3, none⟩ (.string (bs (tMeant x3)))).setCell ⟨w.heap.size, 4, none⟩ (.string (bs (tMeant x4))) = ws at *
        have q := KX.out.cell; have qf := KX.out.free
        exact bodyPost_ret (v := .agg #[.int .i64 v0, .string (bs x1), .int .i64 (-1), .string (bs (tMeant x3)), .string (bs (tMeant x4))]) (by simp [results, Tryz.results18, go_sem, q, qf]) rfl (HEND.out _ _ ⟨rfl, KB.out⟩)
      · rw [if_neg hst] at hsay
        have HDIE : Hid (∀ e' W', Fails (errV (ea 1)) w e' W' → Tries ea (tSay x0 x1 x2 x3 x4).num (evV (tSay x0 x1 x2 x3 x4).get) w e' W') := Lib.hid (fun e' W' hm => by rw [hsay]; show Tries ea 1 _ w e' W'; rw [Tries, if_neg (by decide)]; exact hm)
        have hstf : decide (v0 ≤ 999999) = false := decide_eq_false hst
        clear hsay hst
        have a0 : wc.cell? ⟨E, 0, none⟩ = some (.int .i64 v0) := KE.out.cell 0
        have a1 : wc.cell? ⟨E, 1, none⟩ = some (.string (bs x1)) := KE.out.cell 1
        have a2 : wc.cell? ⟨E, 2, none⟩ = some (.int .i64 (-1)) := KE.out.cell 2
        have a3 : wc.cell? ⟨E, 3, none⟩ = some (.string (bs (tMeant x3))) := KE.out.cell 3
        have a4 : wc.cell? ⟨E, 4, none⟩ = some (.string (bs (tMeant x4))) := KE.out.cell 4
        have af := KE.out.free
        have k1 := HE.out.e.e1
        dsimp only [ErrIs] at k1
        have hne : E ≠ w.heap.size := by omega
        have hne2 : w.heap.size ≠ E := by omega
        go_wp2_with (go_at_call 20; go_loud (refine (fail_unless _ _ _ (by first | rfl | exact hstf)).mono ?_; rintro e w6 ⟨rfl, rfl⟩))
        exact ⟨rfl, HDIE.out _ _ ⟨rfl, HB.out⟩⟩
    · have e45 : ((bs x2).toList == [45]) = false := by rw [bs_toList]; simpa using h45
      have HT := Lib.hid (fun W hW => toNode_of x2 hz.2.2.1 ea W hW)
      have hnr : tNodeN x2 = 0 ∨ tNodeN x2 = 1 ∨ tNodeN x2 = 4 := by
        unfold tNodeN
        split
        · split
          · exact .inl rfl
          · exact .inr (.inl rfl)
        · exact .inr (.inr rfl)
      have hse : (x2 == [45]) = false := by simpa using h45
      have hnv : tNodeV x2 = (tVal7 (x2.drop 1) : Int) := by unfold tNodeV; rw [if_neg h45]
      rcases hnr with hn | hn | hn
      · have hsome : (tNode x2).isSome = true ∧ (tVal7 (x2.drop 1) : Int) ≤ 3 := by
          unfold tNodeN at hn
          cases ho : tNode x2 with
          | none => rw [ho] at hn; exact absurd hn (by decide)
          | some r =>
            rw [ho] at hn
            obtain ⟨rfl, _⟩ := tNode_some ho
            refine ⟨rfl, ?_⟩
            by_cases h3 : (tVal7 r : Int) ≤ 3
            · exact h3
            · simp only [if_neg h3] at hn; exact absurd hn (by decide)
        rw [hn] at HT
        have hHT : ∀ W, Errs ea W → Calls Tryz.prog 24 #[.string (bs x2)] W (Makes (.tuple #[.int .i64 (tVal7 (x2.drop 1)), .nilIface]) W) := fun W hW => HT.out W hW
        obtain ⟨nd, hnd⟩ : ∃ nd : Int, nd = (tVal7 (x2.drop 1) : Int) := ⟨_, rfl⟩
        rw [← hnd] at hHT hnv hsome
        have hsay : tSay x0 x1 x2 x3 x4 = if v0 ≤ 999999 then .ev ⟨v0, x1, nd, tMeant x3, tMeant x4⟩ else .no 1 := by
          unfold tSay
          rw [hform, hse, hsome.1, hnv, ← hv0]
          simp [hsome.2]
        have HT2 := Lib.hid hHT
        have HSAY := Lib.hid hsay
        clear hform h45 h0 h3 h4 hw hv0 hz hn hse hsome hnv HT hHT hnd hsay
        go_wp2_with fail
        refine (HT2.out _ HE.out.e).mono ?_
        rintro e w4 ⟨rfl, hb4⟩
        have HB := Lib.hid (below_then HB.out hb4); have KE := Lib.hid (KE.out.below hb4); have KR := Lib.hid (KR.out.below hb4); have HE := Lib.hid (HE.out.below hb4)
        go_wp2_with fail
        refine wp_region_held_drew (S := fun w' => w'.cell? ⟨0, 0, none⟩ = some (errV (ea 4))) (by kernel_rfl) HE.out.e.e4 (fun hHeld => ?_)
        refine wpAnyH_takeAt (v := ?_) (d := some 46) 0 rfl rfl (by kernel_rfl) (by kernel_rfl) (by kernel_rfl) (fun _ _ _ h => h) hHeld (by rfl) ?_ ?_
        rotate_left 1
        · (intro w' hS'; (try dsimp only at hS'); go_simp; (try with_reducible rfl))
        simp only [Act.put, List.setIfInBounds_toArray, List.set_cons_zero, List.set_cons_succ]
        refine wpAnyH_takeAt (v := ?_) (d := some 47) 1 rfl rfl (by kernel_rfl) (by kernel_rfl) (by kernel_rfl) (fun _ _ _ h => h) hHeld (by rfl) ?_ ?_
        rotate_left 1
        · (intro w' hS'; (try dsimp only at hS'); go_simp; (try with_reducible rfl))
        simp only [Act.put, List.setIfInBounds_toArray, List.set_cons_zero, List.set_cons_succ]
        refine wpAnyH_takeAt (v := ?_) (d := some 50) 4 rfl rfl (by kernel_rfl) (by kernel_rfl) (by kernel_rfl) (fun _ _ _ h => h) hHeld (by rfl) ?_ ?_
        rotate_left 1
        · (intro w' hS'; (try dsimp only at hS'); go_simp; (try with_reducible rfl))
        simp only [Act.put, List.setIfInBounds_toArray, List.set_cons_zero, List.set_cons_succ]
        refine wpAnyH_call (d := some 48) 2 25 _ _ [.nilIface, errV (ea 4)] rfl rfl (by kernel_rfl) rfl (enters_of Tryz.func25 (by kernel_rfl) rfl) (by rfl) (by rfl) ?_
        refine (is_nil _ _).mono ?_; rintro e w5 ⟨rfl, rfl⟩
        refine ⟨_, rfl, _, fun _ h => h, hHeld, fun hHeld => ?_⟩
        simp only [Act.put, List.setIfInBounds_toArray, List.set_cons_zero, List.set_cons_succ]
        refine wpAnyH_takeAt (v := ?_) (d := some 49) 3 rfl rfl (by kernel_rfl) (by kernel_rfl) (by kernel_rfl) (fun _ _ _ h => h) hHeld (by rfl) ?_ ?_
        rotate_left 1
        · (intro w' hS'; (try dsimp only at hS'); go_simp; (try with_reducible rfl))
        simp only [Act.put, List.setIfInBounds_toArray, List.set_cons_zero, List.set_cons_succ]
        refine wpAnyH_call (d := some 51) 5 20 _ _ [.bool true, errV (ea 4)] rfl rfl (by kernel_rfl) rfl (enters_of Tryz.func20 (by kernel_rfl) rfl) (by rfl) (by rfl) ?_
        refine (fail_ok _ _).mono ?_; rintro e w5 ⟨rfl, rfl⟩
        refine ⟨_, rfl, _, fun _ h => h, hHeld, fun hHeld => ?_⟩
        simp only [Act.put, List.setIfInBounds_toArray, List.set_cons_zero, List.set_cons_succ]
        refine wpAnyH_done (by kernel_rfl) ?_ _
        have HB := Lib.hid HB.out.drew; have KE := Lib.hid KE.out.drew; have KR := Lib.hid KR.out.drew; have HE := Lib.hid (HE.out.below (Below.refl _ _).drew)
        go_wp2_with fail
        refine wp_region_held_drew (S := fun w' => w'.cell? ⟨1, 0, none⟩ = some (errV (ea 1))) (by kernel_rfl) HE.out.e.e1 (fun hHeld => ?_)
        refine wpAnyH_takeAt (v := ?_) (d := some 52) 0 rfl rfl (by kernel_rfl) (by kernel_rfl) (by kernel_rfl) (fun _ _ _ h => h) hHeld (by rfl) ?_ ?_
        rotate_left 1
        · (intro w' hS'; (try dsimp only at hS'); go_simp; (try with_reducible rfl))
        simp only [Act.put, List.setIfInBounds_toArray, List.set_cons_zero, List.set_cons_succ]
        refine wpAnyH_takeAt (v := ?_) (d := some 53) 1 rfl rfl (by kernel_rfl) (by kernel_rfl) (by kernel_rfl) (fun _ _ _ h => h) hHeld (by rfl) ?_ ?_
        rotate_left 1
        · (intro w' hS'; (try dsimp only at hS'); go_simp; (try with_reducible rfl))
        simp only [Act.put, List.setIfInBounds_toArray, List.set_cons_zero, List.set_cons_succ]
        refine wpAnyH_takeAt (v := ?_) (d := some 54) 2 rfl rfl (by kernel_rfl) (by kernel_rfl) (by kernel_rfl) (fun _ _ _ h => h) hHeld (by rfl) ?_ ?_
        rotate_left 1
        · (intro w' hS'; (try dsimp only at hS'); go_simp; (try with_reducible rfl))
        simp only [Act.put, List.setIfInBounds_toArray, List.set_cons_zero, List.set_cons_succ]
        refine wpAnyH_call (d := some 55) 3 20 _ _ [.bool true, errV (ea 1)] rfl rfl (by kernel_rfl) rfl (enters_of Tryz.func20 (by kernel_rfl) rfl) (by rfl) (by rfl) ?_
        refine (fail_ok _ _).mono ?_; rintro e w5 ⟨rfl, rfl⟩
        refine ⟨_, rfl, _, fun _ h => h, hHeld, fun hHeld => ?_⟩
        simp only [Act.put, List.setIfInBounds_toArray, List.set_cons_zero, List.set_cons_succ]
        refine wpAnyH_done (by kernel_rfl) ?_ _
        have HB := Lib.hid HB.out.drew; have KE := Lib.hid KE.out.drew; have KR := Lib.hid KR.out.drew; have HE := Lib.hid (HE.out.below (Below.refl _ _).drew)
        generalize w4.drew.drew = wd at *
        have hsay := HSAY.out
        by_cases hst : v0 ≤ 999999
        · rw [if_pos hst] at hsay
          have HEND : Hid (∀ e' W', Makes (.agg #[.int .i64 v0, .string (bs x1), .int .i64 nd, .string (bs (tMeant x3)), .string (bs (tMeant x4))]) w e' W' → Tries ea (tSay x0 x1 x2 x3 x4).num (evV (tSay x0 x1 x2 x3 x4).get) w e' W') := Lib.hid (fun e' W' hm => by rw [hsay]; show Tries ea 0 (.agg #[.int .i64 v0, .string (bs x1), .int .i64 nd, .string (bs (tMeant x3)), .string (bs (tMeant x4))]) w e' W'; rw [Tries, if_pos rfl]; exact hm)
          clear hsay
          have a0 : wd.cell? ⟨E, 0, none⟩ = some (.int .i64 v0) := KE.out.cell 0
          have a1 : wd.cell? ⟨E, 1, none⟩ = some (.string (bs x1)) := KE.out.cell 1
          have a2 : wd.cell? ⟨E, 2, none⟩ = some (.int .i64 (-1)) := KE.out.cell 2
          have a3 : wd.cell? ⟨E, 3, none⟩ = some (.string (bs (tMeant x3))) := KE.out.cell 3
          have a4 : wd.cell? ⟨E, 4, none⟩ = some (.string (bs (tMeant x4))) := KE.out.cell 4
          have af := KE.out.free
          have k1 := HE.out.e.e1
          dsimp only [ErrIs] at k1
          have hne : E ≠ w.heap.size := by omega
          have hne2 : w.heap.size ≠ E := by omega
          have b0 : wd.cell? ⟨w.heap.size, 0, none⟩ = some (.int .i64 0) := KR.out.cell 0
          have b1 : wd.cell? ⟨w.heap.size, 1, none⟩ = some (.string ⟨#[]⟩) := KR.out.cell 1
          have b2 : wd.cell? ⟨w.heap.size, 2, none⟩ = some (.int .i64 0) := KR.out.cell 2
          have b3 : wd.cell? ⟨w.heap.size, 3, none⟩ = some (.string ⟨#[]⟩) := KR.out.cell 3
          have b4 : wd.cell? ⟨w.heap.size, 4, none⟩ = some (.string ⟨#[]⟩) := KR.out.cell 4
          have b5 := KR.out.free
          have KX := Lib.hid ((KR.out.other (p := ⟨E, 2, none⟩) hne (.int .i64 (nd))).set5 rfl v0 (bs x1) (nd) (bs (tMeant x3)) (bs (tMeant x4)))
          have KB := Lib.hid (set5_below (HB.out.setCell (p := ⟨E, 2, none⟩) (Nat.le_of_lt hER) (.int .i64 (nd))) (Nat.le_refl w.heap.size) v0 (bs x1) (nd) (bs (tMeant x3)) (bs (tMeant x4)))
          dsimp only [set5] at KX KB
          go_wp2_with (go_at_call 20; refine (fail_if _ _ _ (by first | rfl)).mono ?_; rintro e w6 ⟨rfl, rfl⟩)
          clear a0 a1 a2 a3 a4 af b0 b1 b2 b3 b4 b5
          generalize (((((wd.setCell ⟨E, 2, none⟩ (.int .i64 nd)).setCell ⟨w.heap.size, 0, none⟩ (.int .i64 v0)).setCell ⟨w.heap.size, 1, none⟩ (.string (bs x1))).setCell ⟨w.heap.size, 2, none⟩ (.int .i64 (nd))).setCell ⟨w.heap.size, 3, none⟩ (.string (bs (tMeant x3)))).setCell ⟨w.heap.size, 4, none⟩ (.string (bs (tMeant x4))) = ws at *
          have q := KX.out.cell; have qf := KX.out.free
          exact bodyPost_ret (v := .agg #[.int .i64 v0, .string (bs x1), .int .i64 (nd), .string (bs (tMeant x3)), .string (bs (tMeant x4))]) (by simp [results, Tryz.results18, go_sem, q, qf]) rfl (HEND.out _ _ ⟨rfl, KB.out⟩)
        · rw [if_neg hst] at hsay
          have HDIE : Hid (∀ e' W', Fails (errV (ea 1)) w e' W' → Tries ea (tSay x0 x1 x2 x3 x4).num (evV (tSay x0 x1 x2 x3 x4).get) w e' W') := Lib.hid (fun e' W' hm => by rw [hsay]; show Tries ea 1 _ w e' W'; rw [Tries, if_neg (by decide)]; exact hm)
          have hstf : decide (v0 ≤ 999999) = false := decide_eq_false hst
          clear hsay hst
          have a0 : wd.cell? ⟨E, 0, none⟩ = some (.int .i64 v0) := KE.out.cell 0
          have a1 : wd.cell? ⟨E, 1, none⟩ = some (.string (bs x1)) := KE.out.cell 1
          have a2 : wd.cell? ⟨E, 2, none⟩ = some (.int .i64 (-1)) := KE.out.cell 2
          have a3 : wd.cell? ⟨E, 3, none⟩ = some (.string (bs (tMeant x3))) := KE.out.cell 3
          have a4 : wd.cell? ⟨E, 4, none⟩ = some (.string (bs (tMeant x4))) := KE.out.cell 4
          have af := KE.out.free
          have k1 := HE.out.e.e1
          dsimp only [ErrIs] at k1
          have hne : E ≠ w.heap.size := by omega
          have hne2 : w.heap.size ≠ E := by omega
          go_wp2_with (go_at_call 20; go_loud (refine (fail_unless _ _ _ (by first | rfl | exact hstf)).mono ?_; rintro e w6 ⟨rfl, rfl⟩))
          exact ⟨rfl, HDIE.out _ _ ⟨rfl, HB.out.setCell (p := ⟨E, 2, none⟩) (Nat.le_of_lt hER) _⟩⟩
      · have hsome : (tNode x2).isSome = true ∧ ¬ (tVal7 (x2.drop 1) : Int) ≤ 3 := by
          unfold tNodeN at hn
          cases ho : tNode x2 with
          | none => rw [ho] at hn; exact absurd hn (by decide)
          | some r =>
            rw [ho] at hn
            obtain ⟨rfl, _⟩ := tNode_some ho
            refine ⟨rfl, ?_⟩
            by_cases h3 : (tVal7 r : Int) ≤ 3
            · simp only [if_pos h3] at hn; exact absurd hn (by decide)
            · exact h3
        rw [hn] at HT
        have hsay : tSay x0 x1 x2 x3 x4 = .no 1 := by
          unfold tSay
          rw [hform, hse, hsome.1, hnv]
          show (if (_ ∧ _) then _ else _) = _
          rw [if_neg (fun h => hsome.2 h.2)]
        have HDIE : Hid (∀ e' W', Fails (errV (ea 1)) w e' W' → Tries ea (tSay x0 x1 x2 x3 x4).num (evV (tSay x0 x1 x2 x3 x4).get) w e' W') := Lib.hid (fun e' W' hm => by rw [hsay]; show Tries ea 1 _ w e' W'; rw [Tries, if_neg (by decide)]; exact hm)
        have hHT : ∀ W, Errs ea W → Calls Tryz.prog 24 #[.string (bs x2)] W (Makes (.tuple #[.int .i64 0, errV (ea 1)]) W) := fun W hW => HT.out W hW
        have HT2 := Lib.hid hHT
        clear hform h45 h0 h3 h4 hw hv0 hz hn hse hsome hnv HT hHT hsay
        go_wp2_with fail
        refine (HT2.out _ HE.out.e).mono ?_
        rintro e w4 ⟨rfl, hb4⟩
        have HB := Lib.hid (below_then HB.out hb4); have KE := Lib.hid (KE.out.below hb4); have KR := Lib.hid (KR.out.below hb4); have HE := Lib.hid (HE.out.below hb4)
        go_wp2_with fail
        have HE := Lib.hid (HE.out.below (Below.refl _ _).drew)
        obtain ⟨r1, r2, r3⟩ := HE.out.e.row 1 (by decide) (by decide)
        obtain ⟨q1, q2, q3⟩ := HE.out.e.row 4 (by decide) (by decide)
        have hne14 : ea 1 ≠ ea 4 := fun e => absurd (HE.out.e.ne 1 4 (by decide) (by decide) (by decide) (by decide) e) (by decide)
        have HB := Lib.hid HB.out.drew
        refine wp_region_held_drew (S := fun w' => w'.cell? ⟨0, 0, none⟩ = some (errV (ea 4))) (by kernel_rfl) HE.out.e.e4 (fun hHeld => ?_)
        refine wpAnyH_takeAt (v := ?_) (d := some 46) 0 rfl rfl (by kernel_rfl) (by kernel_rfl) (by kernel_rfl) (fun _ _ _ h => h) hHeld (by rfl) ?_ ?_
        rotate_left 1
        · (intro w' hS'; (try dsimp only at hS'); go_simp; (try with_reducible rfl))
        simp only [Act.put, List.setIfInBounds_toArray, List.set_cons_zero, List.set_cons_succ]
        refine wpAnyH_takeAt (v := ?_) (d := some 47) 1 rfl rfl (by kernel_rfl) (by kernel_rfl) (by kernel_rfl) (fun _ _ _ h => h) hHeld (by rfl) ?_ ?_
        rotate_left 1
        · (intro w' hS'; (try dsimp only at hS'); go_simp; (try with_reducible rfl))
        simp only [Act.put, List.setIfInBounds_toArray, List.set_cons_zero, List.set_cons_succ]
        refine wpAnyH_takeAt (v := ?_) (d := some 50) 4 rfl rfl (by kernel_rfl) (by kernel_rfl) (by kernel_rfl) (fun _ _ _ h => h) hHeld (by rfl) ?_ ?_
        rotate_left 1
        · (intro w' hS'; (try dsimp only at hS'); go_simp; (try with_reducible rfl))
        simp only [Act.put, List.setIfInBounds_toArray, List.set_cons_zero, List.set_cons_succ]
        refine wpAnyH_call (d := some 48) 2 25 _ _ [errV (ea 1), errV (ea 4)] rfl rfl (by kernel_rfl) rfl (enters_of Tryz.func25 (by kernel_rfl) rfl) (by rfl) (by rfl) ?_
        refine (is_other _ _ _ _ _ _ _ hne14 r3 q3).mono ?_; rintro e w5 ⟨rfl, rfl⟩
        refine ⟨_, rfl, _, fun _ h => h, hHeld, fun hHeld => ?_⟩
        simp only [Act.put, List.setIfInBounds_toArray, List.set_cons_zero, List.set_cons_succ]
        refine wpAnyH_takeAt (v := ?_) (d := some 49) 3 rfl rfl (by kernel_rfl) (by kernel_rfl) (by kernel_rfl) (fun _ _ _ h => h) hHeld (by rfl) ?_ ?_
        rotate_left 1
        · (intro w' hS'; (try dsimp only at hS'); go_simp; (try with_reducible rfl))
        simp only [Act.put, List.setIfInBounds_toArray, List.set_cons_zero, List.set_cons_succ]
        refine wpAnyH_call (d := some 51) 5 20 _ _ [.bool true, errV (ea 4)] rfl rfl (by kernel_rfl) rfl (enters_of Tryz.func20 (by kernel_rfl) rfl) (by rfl) (by rfl) ?_
        refine (fail_ok _ _).mono ?_; rintro e w5 ⟨rfl, rfl⟩
        refine ⟨_, rfl, _, fun _ h => h, hHeld, fun hHeld => ?_⟩
        simp only [Act.put, List.setIfInBounds_toArray, List.set_cons_zero, List.set_cons_succ]
        refine wpAnyH_done (by kernel_rfl) ?_ _
        go_wp2_with fail
        have HE := Lib.hid (HE.out.below (Below.refl _ _).drew)
        have HB := Lib.hid HB.out.drew
        refine wp_region_held_drew (S := fun w' => w'.cell? ⟨1, 0, none⟩ = some (errV (ea 1))) (by kernel_rfl) HE.out.e.e1 (fun hHeld => ?_)
        refine wpAnyH_takeAt (v := ?_) (d := some 52) 0 rfl rfl (by kernel_rfl) (by kernel_rfl) (by kernel_rfl) (fun _ _ _ h => h) hHeld (by rfl) ?_ ?_
        rotate_left 1
        · (intro w' hS'; (try dsimp only at hS'); go_simp; (try with_reducible rfl))
        simp only [Act.put, List.setIfInBounds_toArray, List.set_cons_zero, List.set_cons_succ]
        refine wpAnyH_takeAt (v := ?_) (d := some 53) 1 rfl rfl (by kernel_rfl) (by kernel_rfl) (by kernel_rfl) (fun _ _ _ h => h) hHeld (by rfl) ?_ ?_
        rotate_left 1
        · (intro w' hS'; (try dsimp only at hS'); go_simp; (try with_reducible rfl))
        simp only [Act.put, List.setIfInBounds_toArray, List.set_cons_zero, List.set_cons_succ]
        refine wpAnyH_takeAt (v := ?_) (d := some 54) 2 rfl rfl (by kernel_rfl) (by kernel_rfl) (by kernel_rfl) (fun _ _ _ h => h) hHeld (by rfl) ?_ ?_
        rotate_left 1
        · (intro w' hS'; (try dsimp only at hS'); go_simp; (try with_reducible rfl))
        simp only [Act.put, List.setIfInBounds_toArray, List.set_cons_zero, List.set_cons_succ]
        refine wpAnyH_die [{ v := errV (ea 1), recovered := false }] 3 20 _ _ [.bool false, errV (ea 1)] rfl (by kernel_rfl) rfl (enters_of Tryz.func20 (by kernel_rfl) rfl) (by rfl) (by rfl) ?_
        refine (fail_no _ _).mono ?_; rintro e w6 ⟨rfl, rfl⟩; exact ⟨rfl, rfl, HDIE.out _ _ ⟨rfl, HB.out⟩⟩
      · have hnone : (tNode x2).isSome = false := by
          unfold tNodeN at hn
          cases ho : tNode x2 with
          | none => rfl
          | some r =>
            rw [ho] at hn
            by_cases h3 : (tVal7 r : Int) ≤ 3
            · simp only [if_pos h3] at hn; exact absurd hn (by decide)
            · simp only [if_neg h3] at hn; exact absurd hn (by decide)
        rw [hn] at HT
        have hsay : tSay x0 x1 x2 x3 x4 = .no 4 := by
          unfold tSay
          rw [hform, hse, hnone]; rfl
        have HDIE : Hid (∀ e' W', Fails (errV (ea 4)) w e' W' → Tries ea (tSay x0 x1 x2 x3 x4).num (evV (tSay x0 x1 x2 x3 x4).get) w e' W') := Lib.hid (fun e' W' hm => by rw [hsay]; show Tries ea 4 _ w e' W'; rw [Tries, if_neg (by decide)]; exact hm)
        have hHT : ∀ W, Errs ea W → Calls Tryz.prog 24 #[.string (bs x2)] W (Makes (.tuple #[.int .i64 0, errV (ea 4)]) W) := fun W hW => HT.out W hW
        have HT2 := Lib.hid hHT
        clear hform h45 h0 h3 h4 hw hv0 hz hn hse hnone hnv HT hHT hsay
        go_wp2_with fail
        refine (HT2.out _ HE.out.e).mono ?_
        rintro e w4 ⟨rfl, hb4⟩
        have HB := Lib.hid (below_then HB.out hb4); have KE := Lib.hid (KE.out.below hb4); have KR := Lib.hid (KR.out.below hb4); have HE := Lib.hid (HE.out.below hb4)
        go_wp2_with fail
        have HE := Lib.hid (HE.out.below (Below.refl _ _).drew)
        have HB := Lib.hid HB.out.drew
        refine wp_region_held_drew (S := fun w' => w'.cell? ⟨0, 0, none⟩ = some (errV (ea 4))) (by kernel_rfl) HE.out.e.e4 (fun hHeld => ?_)
        refine wpAnyH_takeAt (v := ?_) (d := some 46) 0 rfl rfl (by kernel_rfl) (by kernel_rfl) (by kernel_rfl) (fun _ _ _ h => h) hHeld (by rfl) ?_ ?_
        rotate_left 1
        · (intro w' hS'; (try dsimp only at hS'); go_simp; (try with_reducible rfl))
        simp only [Act.put, List.setIfInBounds_toArray, List.set_cons_zero, List.set_cons_succ]
        refine wpAnyH_takeAt (v := ?_) (d := some 47) 1 rfl rfl (by kernel_rfl) (by kernel_rfl) (by kernel_rfl) (fun _ _ _ h => h) hHeld (by rfl) ?_ ?_
        rotate_left 1
        · (intro w' hS'; (try dsimp only at hS'); go_simp; (try with_reducible rfl))
        simp only [Act.put, List.setIfInBounds_toArray, List.set_cons_zero, List.set_cons_succ]
        refine wpAnyH_takeAt (v := ?_) (d := some 50) 4 rfl rfl (by kernel_rfl) (by kernel_rfl) (by kernel_rfl) (fun _ _ _ h => h) hHeld (by rfl) ?_ ?_
        rotate_left 1
        · (intro w' hS'; (try dsimp only at hS'); go_simp; (try with_reducible rfl))
        simp only [Act.put, List.setIfInBounds_toArray, List.set_cons_zero, List.set_cons_succ]
        refine wpAnyH_call (d := some 48) 2 25 _ _ [errV (ea 4), errV (ea 4)] rfl rfl (by kernel_rfl) rfl (enters_of Tryz.func25 (by kernel_rfl) rfl) (by rfl) (by rfl) ?_
        refine (is_same _ _).mono ?_; rintro e w5 ⟨rfl, rfl⟩
        refine ⟨_, rfl, _, fun _ h => h, hHeld, fun hHeld => ?_⟩
        simp only [Act.put, List.setIfInBounds_toArray, List.set_cons_zero, List.set_cons_succ]
        refine wpAnyH_takeAt (v := ?_) (d := some 49) 3 rfl rfl (by kernel_rfl) (by kernel_rfl) (by kernel_rfl) (fun _ _ _ h => h) hHeld (by rfl) ?_ ?_
        rotate_left 1
        · (intro w' hS'; (try dsimp only at hS'); go_simp; (try with_reducible rfl))
        simp only [Act.put, List.setIfInBounds_toArray, List.set_cons_zero, List.set_cons_succ]
        refine wpAnyH_die [{ v := errV (ea 4), recovered := false }] 5 20 _ _ [.bool false, errV (ea 4)] rfl (by kernel_rfl) rfl (enters_of Tryz.func20 (by kernel_rfl) rfl) (by rfl) (by rfl) ?_
        refine (fail_no _ _).mono ?_; rintro e w6 ⟨rfl, rfl⟩; exact ⟨rfl, rfl, HDIE.out _ _ ⟨rfl, HB.out⟩⟩
end Go.Proofs.YthjdaehiebcoaaaGreatDoor
