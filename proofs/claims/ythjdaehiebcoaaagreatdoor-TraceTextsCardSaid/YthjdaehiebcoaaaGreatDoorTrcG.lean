/- The walk of trace.Parse. -/
import Derived.Test.YthjdaehiebcoaaaGreatDoorRows
import Derived.WalkKit
import Derived.WalkSpells
import Derived.WalkLawsBesides
import Derived.BigQuiet
import Derived.Deep.QuietTactic
import Derived.StillTailTactics
import Derived.Handy
import Derived.Lib.Hide
import Derived.Test.YthjdaehiebcoaaaGreatDoorTrcF
set_option linter.unusedSimpArgs false
set_option linter.unusedVariables false
namespace Go.Proofs.YthjdaehiebcoaaaGreatDoor
open Go.RowKit

abbrev evZ : Array Value := #[.int .i64 0, .string ⟨#[]⟩, .int .i64 0, .string ⟨#[]⟩, .string ⟨#[]⟩]
theorem split_at (s : Str) (hs : s.length ≤ 100000) (ea : Int → Addr) (w : World) (h : Env ea w) :
    ∃ W1 g, Calls Tryz.prog 19 #[.string (bs s), .string ⟨#[32]⟩] (w.alloc (.cells evZ 24)) (fun e w' => e = .returned (.slice (some ⟨g, 0, none⟩) (pieces s).length (pieces s).length) ∧ w' = W1) ∧ g ≠ w.heap.size ∧
      Blk W1 g ((pieces s).map (fun x => Value.string (bs x))).toArray ∧ Blk W1 w.heap.size evZ ∧ Env ea W1 ∧ Below w.heap.size w W1 := by
  have hB : Below w.heap.size w (w.alloc (.cells evZ 24)) := (Below.refl _ _).alloc (Nat.le_refl _) _
  have hE := h.below hB
  obtain ⟨m, hm⟩ := hE.max
  have hsz : (w.alloc (.cells evZ 24)).heap.size = w.heap.size + 1 := by simp
  refine ⟨_, _, split_of s hs m _ hm, by rw [hsz]; omega, Blk.fresh _ _ _ _ rfl, (Blk.fresh w evZ _ _ rfl).alloc _, hE.below ((Below.refl _ _).alloc (Nat.le_refl _) _), hB.alloc (by rw [hsz]; omega) _⟩
theorem parse1_len (s : Str) (hs : s.length ≤ 100000) (hl : (pieces s).length ≠ 5) (p : Addr) (ea : Int → Addr) (w : World) (h : Env ea w) (hp : w.cell? p = some (.string (bs s))) :
    Calls Tryz.prog 18 #[.pointer (some p)] w (Fails (errV (ea 4)) w) := by
  have hlt := lt_of_cell hp
  obtain ⟨W1, g, hsp, hg, hP, hR, hE, hB⟩ := split_at s hs ea w h
  have hl100 : (pieces s).length ≤ 100001 := by rw [pieces_length]; have := List.count_le_length (a := (32 : UInt8)) (l := s); omega
  obtain ⟨n, hn⟩ : ∃ n, n = (pieces s).length := ⟨_, rfl⟩
  rw [← hn] at hsp hl hl100
  have hn5 : ((n : Int) == 5) = false := by rw [beq_eq_false_iff_ne]; omega
  have HSp := Lib.hid hsp
  have HE := Lib.hid (hE.below (Below.refl _ _).drew); have HB := Lib.hid hB.drew
  clear hsp hP hR hE hB hn hl h
  go_enter Tryz.func18, Tryz.ntmps18
  go_wp2_with fail
  refine HSp.out.mono ?_
  rintro e w1 ⟨rfl, rfl⟩
  go_wp2_with fail
  refine wp_region_held_drew (S := fun w' => w'.cell? ⟨0, 0, none⟩ = some (errV (ea 4))) (by kernel_rfl) HE.out.e.e4 (fun hHeld => ?_)
  refine wpAnyH_takeAt (v := ?_) (d := some 8) 0 rfl rfl (by kernel_rfl) (by kernel_rfl) (by kernel_rfl) (fun _ _ _ h => h) hHeld (by rfl) ?_ ?_
  rotate_left 1
  · (intro w' hS'; (try dsimp only at hS'); go_simp; (try with_reducible rfl))
  simp only [Act.put, List.setIfInBounds_toArray, List.set_cons_zero, List.set_cons_succ]
  refine wpAnyH_takeAt (v := ?_) (d := some 9) 1 rfl rfl (by kernel_rfl) (by kernel_rfl) (by kernel_rfl) (fun _ _ _ h => h) hHeld (by rfl) ?_ ?_
  rotate_left 1
  · (intro w' hS'; (try dsimp only at hS'); go_simp; (try with_reducible rfl))
  simp only [Act.put, List.setIfInBounds_toArray, List.set_cons_zero, List.set_cons_succ]
  refine wpAnyH_takeAt (v := ?_) (d := some 10) 2 rfl rfl (by kernel_rfl) (by kernel_rfl) (by kernel_rfl) (fun _ _ _ h => h) hHeld (by rfl) ?_ ?_
  rotate_left 1
  · (intro w' hS'; (try dsimp only at hS'); go_simp; (try with_reducible rfl))
  simp only [Act.put, List.setIfInBounds_toArray, List.set_cons_zero, List.set_cons_succ]
  refine wpAnyH_takeAt (v := ?_) (d := some 11) 3 rfl rfl (by kernel_rfl) (by kernel_rfl) (by kernel_rfl) (fun _ _ _ h => h) hHeld (by rfl) ?_ ?_
  rotate_left 1
  · (intro w' hS'; (try dsimp only at hS'); go_simp; (try with_reducible rfl))
  simp only [Act.put, List.setIfInBounds_toArray, List.set_cons_zero, List.set_cons_succ]
  refine wpAnyH_skipAt (d := some 12) 4 rfl rfl (by kernel_rfl) (by kernel_rfl) (by kernel_rfl) (fun _ _ _ h => h) hHeld (by rfl) ?_
  simp only [Act.put, List.setIfInBounds_toArray, List.set_cons_zero, List.set_cons_succ]
  refine wpAnyH_skipAt (d := some 13) 5 rfl rfl (by kernel_rfl) (by kernel_rfl) (by kernel_rfl) (fun _ _ _ h => h) hHeld (by rfl) ?_
  simp only [Act.put, List.setIfInBounds_toArray, List.set_cons_zero, List.set_cons_succ]
  refine wpAnyH_skipAt (d := some 14) 6 rfl rfl (by kernel_rfl) (by kernel_rfl) (by kernel_rfl) (fun _ _ _ h => h) hHeld (by rfl) ?_
  simp only [Act.put, List.setIfInBounds_toArray, List.set_cons_zero, List.set_cons_succ]
  refine wpAnyH_skipAt (d := some 15) 7 rfl rfl (by kernel_rfl) (by kernel_rfl) (by kernel_rfl) (fun _ _ _ h => h) hHeld (by rfl) ?_
  simp only [Act.put, List.setIfInBounds_toArray, List.set_cons_zero, List.set_cons_succ]
  refine wpAnyH_takeAt (v := ?_) (d := some 16) 8 rfl rfl (by kernel_rfl) (by kernel_rfl) (by kernel_rfl) (fun _ _ _ h => h) hHeld (by rfl) ?_ ?_
  rotate_left 1
  · (intro w' hS'; (try dsimp only at hS'); go_simp; (try with_reducible rfl))
  simp only [Act.put, List.setIfInBounds_toArray, List.set_cons_zero, List.set_cons_succ]
  refine wpAnyH_takeAt (v := ?_) (d := some 17) 9 rfl rfl (by kernel_rfl) (by kernel_rfl) (by kernel_rfl) (fun _ _ _ h => h) hHeld (by rfl) ?_ ?_
  rotate_left 1
  · (intro w' hS'; (try dsimp only at hS'); go_simp; (try with_reducible rfl))
  simp only [Act.put, List.setIfInBounds_toArray, List.set_cons_zero, List.set_cons_succ]
  refine wpAnyH_die [{ v := errV (ea 4), recovered := false }] 10 20 _ _ [.bool false, errV (ea 4)] rfl (by kernel_rfl) rfl (enters_of Tryz.func20 (by kernel_rfl) rfl) (by rfl) (by rfl) ?_
  refine (fail_no _ _).mono ?_; rintro e w6 ⟨rfl, rfl⟩; exact ⟨rfl, rfl, rfl, HB.out⟩
theorem parse1_word (s x0 x1 x2 x3 x4 : Str) (hs : s.length ≤ 100000) (hl : pieces s = [x0, x1, x2, x3, x4]) (hw : tWord x1 = false) (p : Addr) (ea : Int → Addr) (w : World) (h : Env ea w) (hp : w.cell? p = some (.string (bs s))) :
    Calls Tryz.prog 18 #[.pointer (some p)] w (Fails (errV (ea 4)) w) := by
  have hlt := lt_of_cell hp
  obtain ⟨W1, g, hsp, hg, hP, hR, hE, hB⟩ := split_at s hs ea w h
  rw [hl] at hsp hP
  have HSp := Lib.hid hsp
  have HW := Lib.hid (fun W => hw ▸ isWord_of x1 W)
  have HE := Lib.hid (hE.below (Below.refl _ _).drew); have HB := Lib.hid hB.drew; have HP := Lib.hid hP.drew
  clear hsp hP hR hE hB h hw
  go_enter Tryz.func18, Tryz.ntmps18
  go_wp2_with fail
  refine HSp.out.mono ?_
  rintro e w1 ⟨rfl, rfl⟩
  go_wp2_with fail
  refine wp_region_held_drew (S := fun w' => w'.cell? ⟨g, 1, none⟩ = some (.string (bs x1)) ∧ w'.cell? ⟨0, 0, none⟩ = some (errV (ea 4))) (by kernel_rfl) ⟨HP.out.cell 1, HE.out.e.e4⟩ (fun hHeld => ?_)
  refine wpAnyH_takeAt (v := ?_) (d := some 8) 0 rfl rfl (by kernel_rfl) (by kernel_rfl) (by kernel_rfl) (fun _ _ _ h => h) hHeld (by rfl) ?_ ?_
  rotate_left 1
  · (intro w' hS'; (try dsimp only at hS'); go_simp; (try with_reducible rfl))
  simp only [Act.put, List.setIfInBounds_toArray, List.set_cons_zero, List.set_cons_succ]
  refine wpAnyH_takeAt (v := ?_) (d := some 9) 1 rfl rfl (by kernel_rfl) (by kernel_rfl) (by kernel_rfl) (fun _ _ _ h => h) hHeld (by rfl) ?_ ?_
  rotate_left 1
  · (intro w' hS'; (try dsimp only at hS'); go_simp; (try with_reducible rfl))
  simp only [Act.put, List.setIfInBounds_toArray, List.set_cons_zero, List.set_cons_succ]
  refine wpAnyH_takeAt (v := ?_) (d := some 10) 2 rfl rfl (by kernel_rfl) (by kernel_rfl) (by kernel_rfl) (fun _ _ _ h => h) hHeld (by rfl) ?_ ?_
  rotate_left 1
  · (intro w' hS'; (try dsimp only at hS'); go_simp; (try with_reducible rfl))
  simp only [Act.put, List.setIfInBounds_toArray, List.set_cons_zero, List.set_cons_succ]
  refine wpAnyH_takeAt (v := ?_) (d := some 11) 3 rfl rfl (by kernel_rfl) (by kernel_rfl) (by kernel_rfl) (fun _ _ _ h => h) hHeld (by rfl) ?_ ?_
  rotate_left 1
  · (intro w' hS'; (try dsimp only at hS'); go_simp; (try with_reducible rfl))
  simp only [Act.put, List.setIfInBounds_toArray, List.set_cons_zero, List.set_cons_succ]
  refine wpAnyH_takeAt (v := ?_) (d := some 12) 4 rfl rfl (by kernel_rfl) (by kernel_rfl) (by kernel_rfl) (fun _ _ _ h => h) hHeld (by rfl) ?_ ?_
  rotate_left 1
  · (intro w' hS'; (try dsimp only at hS'); go_simp; (try with_reducible rfl))
  simp only [Act.put, List.setIfInBounds_toArray, List.set_cons_zero, List.set_cons_succ]
  refine wpAnyH_takeAt (v := ?_) (d := some 13) 5 rfl rfl (by kernel_rfl) (by kernel_rfl) (by kernel_rfl) (fun _ _ _ h => h) hHeld (by rfl) ?_ ?_
  rotate_left 1
  · (intro w' hS'; (try dsimp only at hS'); go_simp; (try with_reducible rfl))
  simp only [Act.put, List.setIfInBounds_toArray, List.set_cons_zero, List.set_cons_succ]
  refine wpAnyH_takeAt (v := ?_) (d := some 14) 6 rfl rfl (by kernel_rfl) (by kernel_rfl) (by kernel_rfl) (fun _ _ _ h => h) hHeld (by rfl) ?_ ?_
  rotate_left 1
  · (intro w' hS'; (try dsimp only at hS'); go_simp; (try with_reducible rfl))
  simp only [Act.put, List.setIfInBounds_toArray, List.set_cons_zero, List.set_cons_succ]
  refine wpAnyH_takeAt (v := ?_) (d := some 17) 9 rfl rfl (by kernel_rfl) (by kernel_rfl) (by kernel_rfl) (fun _ _ _ h => h) hHeld (by rfl) ?_ ?_
  rotate_left 1
  · (intro w' hS'; (try dsimp only at hS'); go_simp; (try with_reducible rfl))
  simp only [Act.put, List.setIfInBounds_toArray, List.set_cons_zero, List.set_cons_succ]
  refine wpAnyH_call (d := some 15) 7 21 _ _ [.string (bs x1)] rfl rfl (by kernel_rfl) rfl (enters_of Tryz.func21 (by kernel_rfl) rfl) (by rfl) (by rfl) ?_
  refine (HW.out _).mono ?_; rintro e w5 ⟨rfl, rfl⟩
  refine ⟨_, rfl, _, fun _ h => h, hHeld, fun hHeld => ?_⟩
  simp only [Act.put, List.setIfInBounds_toArray, List.set_cons_zero, List.set_cons_succ]
  refine wpAnyH_takeAt (v := ?_) (d := some 16) 8 rfl rfl (by kernel_rfl) (by kernel_rfl) (by kernel_rfl) (fun _ _ _ h => h) hHeld (by rfl) ?_ ?_
  rotate_left 1
  · (intro w' hS'; (try dsimp only at hS'); go_simp; (try with_reducible rfl))
  simp only [Act.put, List.setIfInBounds_toArray, List.set_cons_zero, List.set_cons_succ]
  refine wpAnyH_die [{ v := errV (ea 4), recovered := false }] 10 20 _ _ [.bool false, errV (ea 4)] rfl (by kernel_rfl) rfl (enters_of Tryz.func20 (by kernel_rfl) rfl) (by rfl) (by rfl) ?_
  refine (fail_no _ _).mono ?_; rintro e w6 ⟨rfl, rfl⟩; exact ⟨rfl, rfl, rfl, HB.out⟩
set_option maxHeartbeats 1000000 in
theorem parse1_num (s x0 x1 x2 x3 x4 : Str) (hs : s.length ≤ 100000) (hl : pieces s = [x0, x1, x2, x3, x4]) (hz : x0.length ≤ 100000 ∧ x1.length ≤ 100000 ∧ x2.length ≤ 100000 ∧ x3.length ≤ 100000 ∧ x4.length ≤ 100000) (hw : tWord x1 = true) (h0 : tDigs x0 = false) (p : Addr) (ea : Int → Addr) (w : World) (h : Env ea w) (hp : w.cell? p = some (.string (bs s))) :
    Calls Tryz.prog 18 #[.pointer (some p)] w (Fails (errV (ea 4)) w) := by
  have hlt := lt_of_cell hp
  obtain ⟨W1, g, hsp, hg, hP, hR, hE, hB⟩ := split_at s hs ea w h
  rw [hl] at hsp hP
  have HSp := Lib.hid hsp
  have HW := Lib.hid (fun W => hw ▸ isWord_of x1 W)
  have HN := Lib.hid (fun W hW => number_no x0 (hz.1) h0 ea W hW)
  have HE := Lib.hid (hE.below (Below.refl _ _).drew); have HB := Lib.hid hB.drew; have HP := Lib.hid hP.drew; have HR := Lib.hid hR.drew
  clear hsp hP hR hE hB h hw h0 hz
  go_enter Tryz.func18, Tryz.ntmps18
  go_wp2_with fail
  refine HSp.out.mono ?_
  rintro e w1 ⟨rfl, rfl⟩
  go_wp2_with fail
  refine wp_region_held_drew (S := fun w' => w'.cell? ⟨g, 1, none⟩ = some (.string (bs x1)) ∧ w'.cell? ⟨0, 0, none⟩ = some (errV (ea 4))) (by kernel_rfl) ⟨HP.out.cell 1, HE.out.e.e4⟩ (fun hHeld => ?_)
  refine wpAnyH_takeAt (v := ?_) (d := some 8) 0 rfl rfl (by kernel_rfl) (by kernel_rfl) (by kernel_rfl) (fun _ _ _ h => h) hHeld (by rfl) ?_ ?_
  rotate_left 1
  · (intro w' hS'; (try dsimp only at hS'); go_simp; (try with_reducible rfl))
  simp only [Act.put, List.setIfInBounds_toArray, List.set_cons_zero, List.set_cons_succ]
  refine wpAnyH_takeAt (v := ?_) (d := some 9) 1 rfl rfl (by kernel_rfl) (by kernel_rfl) (by kernel_rfl) (fun _ _ _ h => h) hHeld (by rfl) ?_ ?_
  rotate_left 1
  · (intro w' hS'; (try dsimp only at hS'); go_simp; (try with_reducible rfl))
  simp only [Act.put, List.setIfInBounds_toArray, List.set_cons_zero, List.set_cons_succ]
  refine wpAnyH_takeAt (v := ?_) (d := some 10) 2 rfl rfl (by kernel_rfl) (by kernel_rfl) (by kernel_rfl) (fun _ _ _ h => h) hHeld (by rfl) ?_ ?_
  rotate_left 1
  · (intro w' hS'; (try dsimp only at hS'); go_simp; (try with_reducible rfl))
  simp only [Act.put, List.setIfInBounds_toArray, List.set_cons_zero, List.set_cons_succ]
  refine wpAnyH_takeAt (v := ?_) (d := some 11) 3 rfl rfl (by kernel_rfl) (by kernel_rfl) (by kernel_rfl) (fun _ _ _ h => h) hHeld (by rfl) ?_ ?_
  rotate_left 1
  · (intro w' hS'; (try dsimp only at hS'); go_simp; (try with_reducible rfl))
  simp only [Act.put, List.setIfInBounds_toArray, List.set_cons_zero, List.set_cons_succ]
  refine wpAnyH_takeAt (v := ?_) (d := some 12) 4 rfl rfl (by kernel_rfl) (by kernel_rfl) (by kernel_rfl) (fun _ _ _ h => h) hHeld (by rfl) ?_ ?_
  rotate_left 1
  · (intro w' hS'; (try dsimp only at hS'); go_simp; (try with_reducible rfl))
  simp only [Act.put, List.setIfInBounds_toArray, List.set_cons_zero, List.set_cons_succ]
  refine wpAnyH_takeAt (v := ?_) (d := some 13) 5 rfl rfl (by kernel_rfl) (by kernel_rfl) (by kernel_rfl) (fun _ _ _ h => h) hHeld (by rfl) ?_ ?_
  rotate_left 1
  · (intro w' hS'; (try dsimp only at hS'); go_simp; (try with_reducible rfl))
  simp only [Act.put, List.setIfInBounds_toArray, List.set_cons_zero, List.set_cons_succ]
  refine wpAnyH_takeAt (v := ?_) (d := some 14) 6 rfl rfl (by kernel_rfl) (by kernel_rfl) (by kernel_rfl) (fun _ _ _ h => h) hHeld (by rfl) ?_ ?_
  rotate_left 1
  · (intro w' hS'; (try dsimp only at hS'); go_simp; (try with_reducible rfl))
  simp only [Act.put, List.setIfInBounds_toArray, List.set_cons_zero, List.set_cons_succ]
  refine wpAnyH_takeAt (v := ?_) (d := some 17) 9 rfl rfl (by kernel_rfl) (by kernel_rfl) (by kernel_rfl) (fun _ _ _ h => h) hHeld (by rfl) ?_ ?_
  rotate_left 1
  · (intro w' hS'; (try dsimp only at hS'); go_simp; (try with_reducible rfl))
  simp only [Act.put, List.setIfInBounds_toArray, List.set_cons_zero, List.set_cons_succ]
  refine wpAnyH_call (d := some 15) 7 21 _ _ [.string (bs x1)] rfl rfl (by kernel_rfl) rfl (enters_of Tryz.func21 (by kernel_rfl) rfl) (by rfl) (by rfl) ?_
  refine (HW.out _).mono ?_; rintro e w5 ⟨rfl, rfl⟩
  refine ⟨_, rfl, _, fun _ h => h, hHeld, fun hHeld => ?_⟩
  simp only [Act.put, List.setIfInBounds_toArray, List.set_cons_zero, List.set_cons_succ]
  refine wpAnyH_takeAt (v := ?_) (d := some 16) 8 rfl rfl (by kernel_rfl) (by kernel_rfl) (by kernel_rfl) (fun _ _ _ h => h) hHeld (by rfl) ?_ ?_
  rotate_left 1
  · (intro w' hS'; (try dsimp only at hS'); go_simp; (try with_reducible rfl))
  simp only [Act.put, List.setIfInBounds_toArray, List.set_cons_zero, List.set_cons_succ]
  refine wpAnyH_call (d := some 18) 10 20 _ _ [.bool true, errV (ea 4)] rfl rfl (by kernel_rfl) rfl (enters_of Tryz.func20 (by kernel_rfl) rfl) (by rfl) (by rfl) ?_
  refine (fail_ok _ _).mono ?_; rintro e w5 ⟨rfl, rfl⟩
  refine ⟨_, rfl, _, fun _ h => h, hHeld, fun hHeld => ?_⟩
  simp only [Act.put, List.setIfInBounds_toArray, List.set_cons_zero, List.set_cons_succ]
  refine wpAnyH_done (by kernel_rfl) ?_ _
  go_wp2_with fail
  have HB := Lib.hid HB.out.drew
  have HE := Lib.hid (HE.out.below (Below.refl _ _).drew)
  have HP := Lib.hid HP.out.drew
  have HR := Lib.hid HR.out.drew
  refine wp_region_held_drew (S := fun w' => w'.cell? ⟨g, 0, none⟩ = some (.string (bs x0)) ∧ w'.cell? ⟨g, 1, none⟩ = some (.string (bs x1)) ∧ w'.cell? ⟨g, 3, none⟩ = some (.string (bs x3)) ∧ w'.cell? ⟨g, 4, none⟩ = some (.string (bs x4))) (by kernel_rfl) ⟨HP.out.cell 0, HP.out.cell 1, HP.out.cell 3, HP.out.cell 4⟩ (fun hHeld => ?_)
  generalize w1.drew.drew = w5 at *
  refine wpAnyH_takeAt (v := ?_) (d := some 19) 0 rfl rfl (by kernel_rfl) (by kernel_rfl) (by kernel_rfl) (fun _ _ _ h => h) hHeld (by rfl) ?_ ?_
  rotate_left 1
  · (intro w' hS'; (try dsimp only at hS'); go_simp; (try with_reducible rfl))
  simp only [Act.put, List.setIfInBounds_toArray, List.set_cons_zero, List.set_cons_succ]
  refine wpAnyH_takeAt (v := ?_) (d := some 20) 1 rfl rfl (by kernel_rfl) (by kernel_rfl) (by kernel_rfl) (fun _ _ _ h => h) hHeld (by rfl) ?_ ?_
  rotate_left 1
  · (intro w' hS'; (try dsimp only at hS'); go_simp; (try with_reducible rfl))
  simp only [Act.put, List.setIfInBounds_toArray, List.set_cons_zero, List.set_cons_succ]
  refine wpAnyH_takeAt (v := ?_) (d := some 21) 2 rfl rfl (by kernel_rfl) (by kernel_rfl) (by kernel_rfl) (fun _ _ _ h => h) hHeld (by rfl) ?_ ?_
  rotate_left 1
  · (intro w' hS'; (try dsimp only at hS'); go_simp; (try with_reducible rfl))
  simp only [Act.put, List.setIfInBounds_toArray, List.set_cons_zero, List.set_cons_succ]
  refine wpAnyH_takeAt (v := ?_) (d := some 23) 4 rfl rfl (by kernel_rfl) (by kernel_rfl) (by kernel_rfl) (fun _ _ _ h => h) hHeld (by rfl) ?_ ?_
  rotate_left 1
  · (intro w' hS'; (try dsimp only at hS'); go_simp; (try with_reducible rfl))
  simp only [Act.put, List.setIfInBounds_toArray, List.set_cons_zero, List.set_cons_succ]
  refine wpAnyH_takeAt (v := ?_) (d := some 24) 5 rfl rfl (by kernel_rfl) (by kernel_rfl) (by kernel_rfl) (fun _ _ _ h => h) hHeld (by rfl) ?_ ?_
  rotate_left 1
  · (intro w' hS'; (try dsimp only at hS'); go_simp; (try with_reducible rfl))
  simp only [Act.put, List.setIfInBounds_toArray, List.set_cons_zero, List.set_cons_succ]
  refine wpAnyH_takeAt (v := ?_) (d := some 25) 6 rfl rfl (by kernel_rfl) (by kernel_rfl) (by kernel_rfl) (fun _ _ _ h => h) hHeld (by rfl) ?_ ?_
  rotate_left 1
  · (intro w' hS'; (try dsimp only at hS'); go_simp; (try with_reducible rfl))
  simp only [Act.put, List.setIfInBounds_toArray, List.set_cons_zero, List.set_cons_succ]
  refine wpAnyH_takeAt (v := ?_) (d := some 26) 7 rfl rfl (by kernel_rfl) (by kernel_rfl) (by kernel_rfl) (fun _ _ _ h => h) hHeld (by rfl) ?_ ?_
  rotate_left 1
  · (intro w' hS'; (try dsimp only at hS'); go_simp; (try with_reducible rfl))
  simp only [Act.put, List.setIfInBounds_toArray, List.set_cons_zero, List.set_cons_succ]
  refine wpAnyH_takeAt (v := ?_) (d := some 27) 8 rfl rfl (by kernel_rfl) (by kernel_rfl) (by kernel_rfl) (fun _ _ _ h => h) hHeld (by rfl) ?_ ?_
  rotate_left 1
  · (intro w' hS'; (try dsimp only at hS'); go_simp; (try with_reducible rfl))
  simp only [Act.put, List.setIfInBounds_toArray, List.set_cons_zero, List.set_cons_succ]
  refine wpAnyH_takeAt (v := ?_) (d := some 28) 9 rfl rfl (by kernel_rfl) (by kernel_rfl) (by kernel_rfl) (fun _ _ _ h => h) hHeld (by rfl) ?_ ?_
  rotate_left 1
  · (intro w' hS'; (try dsimp only at hS'); go_simp; (try with_reducible rfl))
  simp only [Act.put, List.setIfInBounds_toArray, List.set_cons_zero, List.set_cons_succ]
  refine wpAnyH_takeAt (v := ?_) (d := some 30) 11 rfl rfl (by kernel_rfl) (by kernel_rfl) (by kernel_rfl) (fun _ _ _ h => h) hHeld (by rfl) ?_ ?_
  rotate_left 1
  · (intro w' hS'; (try dsimp only at hS'); go_simp; (try with_reducible rfl))
  simp only [Act.put, List.setIfInBounds_toArray, List.set_cons_zero, List.set_cons_succ]
  refine wpAnyH_takeAt (v := ?_) (d := some 31) 12 rfl rfl (by kernel_rfl) (by kernel_rfl) (by kernel_rfl) (fun _ _ _ h => h) hHeld (by rfl) ?_ ?_
  rotate_left 1
  · (intro w' hS'; (try dsimp only at hS'); go_simp; (try with_reducible rfl))
  simp only [Act.put, List.setIfInBounds_toArray, List.set_cons_zero, List.set_cons_succ]
  refine wpAnyH_takeAt (v := ?_) (d := some 32) 13 rfl rfl (by kernel_rfl) (by kernel_rfl) (by kernel_rfl) (fun _ _ _ h => h) hHeld (by rfl) ?_ ?_
  rotate_left 1
  · (intro w' hS'; (try dsimp only at hS'); go_simp; (try with_reducible rfl))
  simp only [Act.put, List.setIfInBounds_toArray, List.set_cons_zero, List.set_cons_succ]
  refine wpAnyH_two 3 16 (by kernel_rfl) ?_ ?_
  · skip
    refine wpOp_die [{ v := errV (ea 4), recovered := false }] 3 22 _ _ [.string (bs x0)] rfl rfl (enters_of Tryz.func22 (by kernel_rfl) rfl) (by rfl) (by rfl) ?_
    refine (HN.out _ HE.out.e).mono ?_; rintro e w6 ⟨rfl, hb6⟩; exact ⟨rfl, rfl, rfl, below_then HB.out hb6⟩
  · skip
    have HNG := Lib.hid (And.intro HP.out.lt HR.out.lt)
    have HV := Lib.hid (Blk.fresh w5 #[.int .i64 0, .string ⟨#[]⟩, .int .i64 0, .string ⟨#[]⟩, .string ⟨#[]⟩] 24 _ rfl)
    have HP := Lib.hid (HP.out.alloc (.cells #[.int .i64 0, .string ⟨#[]⟩, .int .i64 0, .string ⟨#[]⟩, .string ⟨#[]⟩] 24))
    have HR := Lib.hid (HR.out.alloc (.cells #[.int .i64 0, .string ⟨#[]⟩, .int .i64 0, .string ⟨#[]⟩, .string ⟨#[]⟩] 24))
    have HE := Lib.hid (HE.out.below ((Below.refl _ _).alloc (Nat.le_refl _) (.cells #[.int .i64 0, .string ⟨#[]⟩, .int .i64 0, .string ⟨#[]⟩, .string ⟨#[]⟩] 24)))
    have HB := Lib.hid (HB.out.alloc HB.out.size (.cells #[.int .i64 0, .string ⟨#[]⟩, .int .i64 0, .string ⟨#[]⟩, .string ⟨#[]⟩] 24))
    refine wpOp_alone (d := some 3) 16 (.pointer (some ⟨w5.heap.size, 0, none⟩)) (w5.alloc (.cells #[.int .i64 0, .string ⟨#[]⟩, .int .i64 0, .string ⟨#[]⟩, .string ⟨#[]⟩] 24)) rfl rfl (by rfl) (by go_simp) ?_
    refine ⟨⟨HP.out.cell 0, HP.out.cell 1, HP.out.cell 3, HP.out.cell 4⟩, ?_⟩
    simp only [Act.put, List.setIfInBounds_toArray, List.set_cons_zero, List.set_cons_succ]
    have hHeld : (fun w' : World => w'.cell? ⟨g, 0, none⟩ = some (.string (bs x0)) ∧ w'.cell? ⟨g, 1, none⟩ = some (.string (bs x1)) ∧ w'.cell? ⟨g, 3, none⟩ = some (.string (bs x3)) ∧ w'.cell? ⟨g, 4, none⟩ = some (.string (bs x4))) (w5.alloc (.cells #[.int .i64 0, .string ⟨#[]⟩, .int .i64 0, .string ⟨#[]⟩, .string ⟨#[]⟩] 24)) := ⟨HP.out.cell 0, HP.out.cell 1, HP.out.cell 3, HP.out.cell 4⟩
    skip
    refine wpAnyH_die [{ v := errV (ea 4), recovered := false }] 3 22 _ _ [.string (bs x0)] rfl (by kernel_rfl) rfl (enters_of Tryz.func22 (by kernel_rfl) rfl) (by rfl) (by rfl) ?_
    refine (HN.out _ HE.out.e).mono ?_; rintro e w6 ⟨rfl, hb6⟩; exact ⟨rfl, rfl, rfl, below_then HB.out hb6⟩
set_option maxHeartbeats 1000000 in
theorem parse1_first (s x0 x1 x2 x3 x4 : Str) (hs : s.length ≤ 100000) (hl : pieces s = [x0, x1, x2, x3, x4]) (hz : x0.length ≤ 100000 ∧ x1.length ≤ 100000 ∧ x2.length ≤ 100000 ∧ x3.length ≤ 100000 ∧ x4.length ≤ 100000) (hw : tWord x1 = true) (h0 : tDigs x0 = true) (h45 : x3 ≠ [45]) (h3 : x3 = [] ∨ tText x3 = false) (p : Addr) (ea : Int → Addr) (w : World) (h : Env ea w) (hp : w.cell? p = some (.string (bs s))) :
    Calls Tryz.prog 18 #[.pointer (some p)] w (Fails (errV (ea 4)) w) := by
  have hlt := lt_of_cell hp
  obtain ⟨W1, g, hsp, hg, hP, hR, hE, hB⟩ := split_at s hs ea w h
  rw [hl] at hsp hP
  have HSp := Lib.hid hsp
  have HW := Lib.hid (fun W => hw ▸ isWord_of x1 W)
  have HN := Lib.hid (fun W hW => number_yes x0 (hz.1) h0 ea W hW)
  have HM3 := Lib.hid (fun W hW => meant_no x3 (hz.2.2.2.1) h45 h3 ea W hW)
  have HE := Lib.hid (hE.below (Below.refl _ _).drew); have HB := Lib.hid hB.drew; have HP := Lib.hid hP.drew; have HR := Lib.hid hR.drew
  clear hsp hP hR hE hB h hw h0 h45 h3 hz
  go_enter Tryz.func18, Tryz.ntmps18
  go_wp2_with fail
  refine HSp.out.mono ?_
  rintro e w1 ⟨rfl, rfl⟩
  go_wp2_with fail
  refine wp_region_held_drew (S := fun w' => w'.cell? ⟨g, 1, none⟩ = some (.string (bs x1)) ∧ w'.cell? ⟨0, 0, none⟩ = some (errV (ea 4))) (by kernel_rfl) ⟨HP.out.cell 1, HE.out.e.e4⟩ (fun hHeld => ?_)
  refine wpAnyH_takeAt (v := ?_) (d := some 8) 0 rfl rfl (by kernel_rfl) (by kernel_rfl) (by kernel_rfl) (fun _ _ _ h => h) hHeld (by rfl) ?_ ?_
  rotate_left 1
  · (intro w' hS'; (try dsimp only at hS'); go_simp; (try with_reducible rfl))
  simp only [Act.put, List.setIfInBounds_toArray, List.set_cons_zero, List.set_cons_succ]
  refine wpAnyH_takeAt (v := ?_) (d := some 9) 1 rfl rfl (by kernel_rfl) (by kernel_rfl) (by kernel_rfl) (fun _ _ _ h => h) hHeld (by rfl) ?_ ?_
  rotate_left 1
  · (intro w' hS'; (try dsimp only at hS'); go_simp; (try with_reducible rfl))
  simp only [Act.put, List.setIfInBounds_toArray, List.set_cons_zero, List.set_cons_succ]
  refine wpAnyH_takeAt (v := ?_) (d := some 10) 2 rfl rfl (by kernel_rfl) (by kernel_rfl) (by kernel_rfl) (fun _ _ _ h => h) hHeld (by rfl) ?_ ?_
  rotate_left 1
  · (intro w' hS'; (try dsimp only at hS'); go_simp; (try with_reducible rfl))
  simp only [Act.put, List.setIfInBounds_toArray, List.set_cons_zero, List.set_cons_succ]
  refine wpAnyH_takeAt (v := ?_) (d := some 11) 3 rfl rfl (by kernel_rfl) (by kernel_rfl) (by kernel_rfl) (fun _ _ _ h => h) hHeld (by rfl) ?_ ?_
  rotate_left 1
  · (intro w' hS'; (try dsimp only at hS'); go_simp; (try with_reducible rfl))
  simp only [Act.put, List.setIfInBounds_toArray, List.set_cons_zero, List.set_cons_succ]
  refine wpAnyH_takeAt (v := ?_) (d := some 12) 4 rfl rfl (by kernel_rfl) (by kernel_rfl) (by kernel_rfl) (fun _ _ _ h => h) hHeld (by rfl) ?_ ?_
  rotate_left 1
  · (intro w' hS'; (try dsimp only at hS'); go_simp; (try with_reducible rfl))
  simp only [Act.put, List.setIfInBounds_toArray, List.set_cons_zero, List.set_cons_succ]
  refine wpAnyH_takeAt (v := ?_) (d := some 13) 5 rfl rfl (by kernel_rfl) (by kernel_rfl) (by kernel_rfl) (fun _ _ _ h => h) hHeld (by rfl) ?_ ?_
  rotate_left 1
  · (intro w' hS'; (try dsimp only at hS'); go_simp; (try with_reducible rfl))
  simp only [Act.put, List.setIfInBounds_toArray, List.set_cons_zero, List.set_cons_succ]
  refine wpAnyH_takeAt (v := ?_) (d := some 14) 6 rfl rfl (by kernel_rfl) (by kernel_rfl) (by kernel_rfl) (fun _ _ _ h => h) hHeld (by rfl) ?_ ?_
  rotate_left 1
  · (intro w' hS'; (try dsimp only at hS'); go_simp; (try with_reducible rfl))
  simp only [Act.put, List.setIfInBounds_toArray, List.set_cons_zero, List.set_cons_succ]
  refine wpAnyH_takeAt (v := ?_) (d := some 17) 9 rfl rfl (by kernel_rfl) (by kernel_rfl) (by kernel_rfl) (fun _ _ _ h => h) hHeld (by rfl) ?_ ?_
  rotate_left 1
  · (intro w' hS'; (try dsimp only at hS'); go_simp; (try with_reducible rfl))
  simp only [Act.put, List.setIfInBounds_toArray, List.set_cons_zero, List.set_cons_succ]
  refine wpAnyH_call (d := some 15) 7 21 _ _ [.string (bs x1)] rfl rfl (by kernel_rfl) rfl (enters_of Tryz.func21 (by kernel_rfl) rfl) (by rfl) (by rfl) ?_
  refine (HW.out _).mono ?_; rintro e w5 ⟨rfl, rfl⟩
  refine ⟨_, rfl, _, fun _ h => h, hHeld, fun hHeld => ?_⟩
  simp only [Act.put, List.setIfInBounds_toArray, List.set_cons_zero, List.set_cons_succ]
  refine wpAnyH_takeAt (v := ?_) (d := some 16) 8 rfl rfl (by kernel_rfl) (by kernel_rfl) (by kernel_rfl) (fun _ _ _ h => h) hHeld (by rfl) ?_ ?_
  rotate_left 1
  · (intro w' hS'; (try dsimp only at hS'); go_simp; (try with_reducible rfl))
  simp only [Act.put, List.setIfInBounds_toArray, List.set_cons_zero, List.set_cons_succ]
  refine wpAnyH_call (d := some 18) 10 20 _ _ [.bool true, errV (ea 4)] rfl rfl (by kernel_rfl) rfl (enters_of Tryz.func20 (by kernel_rfl) rfl) (by rfl) (by rfl) ?_
  refine (fail_ok _ _).mono ?_; rintro e w5 ⟨rfl, rfl⟩
  refine ⟨_, rfl, _, fun _ h => h, hHeld, fun hHeld => ?_⟩
  simp only [Act.put, List.setIfInBounds_toArray, List.set_cons_zero, List.set_cons_succ]
  refine wpAnyH_done (by kernel_rfl) ?_ _
  go_wp2_with fail
  have HB := Lib.hid HB.out.drew
  have HE := Lib.hid (HE.out.below (Below.refl _ _).drew)
  have HP := Lib.hid HP.out.drew
  have HR := Lib.hid HR.out.drew
  refine wp_region_held_drew (S := fun w' => w'.cell? ⟨g, 0, none⟩ = some (.string (bs x0)) ∧ w'.cell? ⟨g, 1, none⟩ = some (.string (bs x1)) ∧ w'.cell? ⟨g, 3, none⟩ = some (.string (bs x3)) ∧ w'.cell? ⟨g, 4, none⟩ = some (.string (bs x4))) (by kernel_rfl) ⟨HP.out.cell 0, HP.out.cell 1, HP.out.cell 3, HP.out.cell 4⟩ (fun hHeld => ?_)
  generalize w1.drew.drew = w5 at *
  refine wpAnyH_takeAt (v := ?_) (d := some 19) 0 rfl rfl (by kernel_rfl) (by kernel_rfl) (by kernel_rfl) (fun _ _ _ h => h) hHeld (by rfl) ?_ ?_
  rotate_left 1
  · (intro w' hS'; (try dsimp only at hS'); go_simp; (try with_reducible rfl))
  simp only [Act.put, List.setIfInBounds_toArray, List.set_cons_zero, List.set_cons_succ]
  refine wpAnyH_takeAt (v := ?_) (d := some 20) 1 rfl rfl (by kernel_rfl) (by kernel_rfl) (by kernel_rfl) (fun _ _ _ h => h) hHeld (by rfl) ?_ ?_
  rotate_left 1
  · (intro w' hS'; (try dsimp only at hS'); go_simp; (try with_reducible rfl))
  simp only [Act.put, List.setIfInBounds_toArray, List.set_cons_zero, List.set_cons_succ]
  refine wpAnyH_takeAt (v := ?_) (d := some 21) 2 rfl rfl (by kernel_rfl) (by kernel_rfl) (by kernel_rfl) (fun _ _ _ h => h) hHeld (by rfl) ?_ ?_
  rotate_left 1
  · (intro w' hS'; (try dsimp only at hS'); go_simp; (try with_reducible rfl))
  simp only [Act.put, List.setIfInBounds_toArray, List.set_cons_zero, List.set_cons_succ]
  refine wpAnyH_takeAt (v := ?_) (d := some 23) 4 rfl rfl (by kernel_rfl) (by kernel_rfl) (by kernel_rfl) (fun _ _ _ h => h) hHeld (by rfl) ?_ ?_
  rotate_left 1
  · (intro w' hS'; (try dsimp only at hS'); go_simp; (try with_reducible rfl))
  simp only [Act.put, List.setIfInBounds_toArray, List.set_cons_zero, List.set_cons_succ]
  refine wpAnyH_takeAt (v := ?_) (d := some 24) 5 rfl rfl (by kernel_rfl) (by kernel_rfl) (by kernel_rfl) (fun _ _ _ h => h) hHeld (by rfl) ?_ ?_
  rotate_left 1
  · (intro w' hS'; (try dsimp only at hS'); go_simp; (try with_reducible rfl))
  simp only [Act.put, List.setIfInBounds_toArray, List.set_cons_zero, List.set_cons_succ]
  refine wpAnyH_takeAt (v := ?_) (d := some 25) 6 rfl rfl (by kernel_rfl) (by kernel_rfl) (by kernel_rfl) (fun _ _ _ h => h) hHeld (by rfl) ?_ ?_
  rotate_left 1
  · (intro w' hS'; (try dsimp only at hS'); go_simp; (try with_reducible rfl))
  simp only [Act.put, List.setIfInBounds_toArray, List.set_cons_zero, List.set_cons_succ]
  refine wpAnyH_takeAt (v := ?_) (d := some 26) 7 rfl rfl (by kernel_rfl) (by kernel_rfl) (by kernel_rfl) (fun _ _ _ h => h) hHeld (by rfl) ?_ ?_
  rotate_left 1
  · (intro w' hS'; (try dsimp only at hS'); go_simp; (try with_reducible rfl))
  simp only [Act.put, List.setIfInBounds_toArray, List.set_cons_zero, List.set_cons_succ]
  refine wpAnyH_takeAt (v := ?_) (d := some 27) 8 rfl rfl (by kernel_rfl) (by kernel_rfl) (by kernel_rfl) (fun _ _ _ h => h) hHeld (by rfl) ?_ ?_
  rotate_left 1
  · (intro w' hS'; (try dsimp only at hS'); go_simp; (try with_reducible rfl))
  simp only [Act.put, List.setIfInBounds_toArray, List.set_cons_zero, List.set_cons_succ]
  refine wpAnyH_takeAt (v := ?_) (d := some 28) 9 rfl rfl (by kernel_rfl) (by kernel_rfl) (by kernel_rfl) (fun _ _ _ h => h) hHeld (by rfl) ?_ ?_
  rotate_left 1
  · (intro w' hS'; (try dsimp only at hS'); go_simp; (try with_reducible rfl))
  simp only [Act.put, List.setIfInBounds_toArray, List.set_cons_zero, List.set_cons_succ]
  refine wpAnyH_takeAt (v := ?_) (d := some 30) 11 rfl rfl (by kernel_rfl) (by kernel_rfl) (by kernel_rfl) (fun _ _ _ h => h) hHeld (by rfl) ?_ ?_
  rotate_left 1
  · (intro w' hS'; (try dsimp only at hS'); go_simp; (try with_reducible rfl))
  simp only [Act.put, List.setIfInBounds_toArray, List.set_cons_zero, List.set_cons_succ]
  refine wpAnyH_takeAt (v := ?_) (d := some 31) 12 rfl rfl (by kernel_rfl) (by kernel_rfl) (by kernel_rfl) (fun _ _ _ h => h) hHeld (by rfl) ?_ ?_
  rotate_left 1
  · (intro w' hS'; (try dsimp only at hS'); go_simp; (try with_reducible rfl))
  simp only [Act.put, List.setIfInBounds_toArray, List.set_cons_zero, List.set_cons_succ]
  refine wpAnyH_takeAt (v := ?_) (d := some 32) 13 rfl rfl (by kernel_rfl) (by kernel_rfl) (by kernel_rfl) (fun _ _ _ h => h) hHeld (by rfl) ?_ ?_
  rotate_left 1
  · (intro w' hS'; (try dsimp only at hS'); go_simp; (try with_reducible rfl))
  simp only [Act.put, List.setIfInBounds_toArray, List.set_cons_zero, List.set_cons_succ]
  refine wpAnyH_two 3 16 (by kernel_rfl) ?_ ?_
  · skip
    refine wpOp_call (d := some 22) 3 22 _ _ [.string (bs x0)] rfl rfl rfl (enters_of Tryz.func22 (by kernel_rfl) rfl) (by rfl) (by rfl) ?_
    refine (HN.out _ HE.out.e).mono ?_; rintro e w5 ⟨rfl, hb1⟩
    have HB := Lib.hid (below_then HB.out hb1)
    have HE := Lib.hid (HE.out.below hb1)
    have HP := Lib.hid (HP.out.below hb1)
    have HR := Lib.hid (HR.out.below hb1)
    clear hHeld
    have hHeld := (⟨HP.out.cell 0, HP.out.cell 1, HP.out.cell 3, HP.out.cell 4⟩ : (fun w' : World => w'.cell? ⟨g, 0, none⟩ = some (.string (bs x0)) ∧ w'.cell? ⟨g, 1, none⟩ = some (.string (bs x1)) ∧ w'.cell? ⟨g, 3, none⟩ = some (.string (bs x3)) ∧ w'.cell? ⟨g, 4, none⟩ = some (.string (bs x4))) w5)
    refine ⟨_, rfl, hHeld, ?_⟩
    simp only [Act.put, List.setIfInBounds_toArray, List.set_cons_zero, List.set_cons_succ]
    refine wpAnyH_two 10 16 (by kernel_rfl) ?_ ?_
    · skip
      refine wpOp_die [{ v := errV (ea 4), recovered := false }] 10 23 _ _ [.string (bs x3)] rfl rfl (enters_of Tryz.func23 (by kernel_rfl) rfl) (by rfl) (by rfl) ?_
      refine (HM3.out _ HE.out.e).mono ?_; rintro e w6 ⟨rfl, hb6⟩; exact ⟨rfl, rfl, rfl, below_then HB.out hb6⟩
    · skip
      have HNG := Lib.hid (And.intro HP.out.lt HR.out.lt)
      have HV := Lib.hid (Blk.fresh w5 #[.int .i64 0, .string ⟨#[]⟩, .int .i64 0, .string ⟨#[]⟩, .string ⟨#[]⟩] 24 _ rfl)
      have HP := Lib.hid (HP.out.alloc (.cells #[.int .i64 0, .string ⟨#[]⟩, .int .i64 0, .string ⟨#[]⟩, .string ⟨#[]⟩] 24))
      have HR := Lib.hid (HR.out.alloc (.cells #[.int .i64 0, .string ⟨#[]⟩, .int .i64 0, .string ⟨#[]⟩, .string ⟨#[]⟩] 24))
      have HE := Lib.hid (HE.out.below ((Below.refl _ _).alloc (Nat.le_refl _) (.cells #[.int .i64 0, .string ⟨#[]⟩, .int .i64 0, .string ⟨#[]⟩, .string ⟨#[]⟩] 24)))
      have HB := Lib.hid (HB.out.alloc HB.out.size (.cells #[.int .i64 0, .string ⟨#[]⟩, .int .i64 0, .string ⟨#[]⟩, .string ⟨#[]⟩] 24))
      refine wpOp_alone (d := some 3) 16 (.pointer (some ⟨w5.heap.size, 0, none⟩)) (w5.alloc (.cells #[.int .i64 0, .string ⟨#[]⟩, .int .i64 0, .string ⟨#[]⟩, .string ⟨#[]⟩] 24)) rfl rfl (by rfl) (by go_simp) ?_
      refine ⟨⟨HP.out.cell 0, HP.out.cell 1, HP.out.cell 3, HP.out.cell 4⟩, ?_⟩
      simp only [Act.put, List.setIfInBounds_toArray, List.set_cons_zero, List.set_cons_succ]
      have hHeld : (fun w' : World => w'.cell? ⟨g, 0, none⟩ = some (.string (bs x0)) ∧ w'.cell? ⟨g, 1, none⟩ = some (.string (bs x1)) ∧ w'.cell? ⟨g, 3, none⟩ = some (.string (bs x3)) ∧ w'.cell? ⟨g, 4, none⟩ = some (.string (bs x4))) (w5.alloc (.cells #[.int .i64 0, .string ⟨#[]⟩, .int .i64 0, .string ⟨#[]⟩, .string ⟨#[]⟩] 24)) := ⟨HP.out.cell 0, HP.out.cell 1, HP.out.cell 3, HP.out.cell 4⟩
      skip
      refine wpAnyH_die [{ v := errV (ea 4), recovered := false }] 10 23 _ _ [.string (bs x3)] rfl (by kernel_rfl) rfl (enters_of Tryz.func23 (by kernel_rfl) rfl) (by rfl) (by rfl) ?_
      refine (HM3.out _ HE.out.e).mono ?_; rintro e w6 ⟨rfl, hb6⟩; exact ⟨rfl, rfl, rfl, below_then HB.out hb6⟩
  · skip
    have HNG := Lib.hid (And.intro HP.out.lt HR.out.lt)
    have HV := Lib.hid (Blk.fresh w5 #[.int .i64 0, .string ⟨#[]⟩, .int .i64 0, .string ⟨#[]⟩, .string ⟨#[]⟩] 24 _ rfl)
    have HP := Lib.hid (HP.out.alloc (.cells #[.int .i64 0, .string ⟨#[]⟩, .int .i64 0, .string ⟨#[]⟩, .string ⟨#[]⟩] 24))
    have HR := Lib.hid (HR.out.alloc (.cells #[.int .i64 0, .string ⟨#[]⟩, .int .i64 0, .string ⟨#[]⟩, .string ⟨#[]⟩] 24))
    have HE := Lib.hid (HE.out.below ((Below.refl _ _).alloc (Nat.le_refl _) (.cells #[.int .i64 0, .string ⟨#[]⟩, .int .i64 0, .string ⟨#[]⟩, .string ⟨#[]⟩] 24)))
    have HB := Lib.hid (HB.out.alloc HB.out.size (.cells #[.int .i64 0, .string ⟨#[]⟩, .int .i64 0, .string ⟨#[]⟩, .string ⟨#[]⟩] 24))
    refine wpOp_alone (d := some 3) 16 (.pointer (some ⟨w5.heap.size, 0, none⟩)) (w5.alloc (.cells #[.int .i64 0, .string ⟨#[]⟩, .int .i64 0, .string ⟨#[]⟩, .string ⟨#[]⟩] 24)) rfl rfl (by rfl) (by go_simp) ?_
    refine ⟨⟨HP.out.cell 0, HP.out.cell 1, HP.out.cell 3, HP.out.cell 4⟩, ?_⟩
    simp only [Act.put, List.setIfInBounds_toArray, List.set_cons_zero, List.set_cons_succ]
    have hHeld : (fun w' : World => w'.cell? ⟨g, 0, none⟩ = some (.string (bs x0)) ∧ w'.cell? ⟨g, 1, none⟩ = some (.string (bs x1)) ∧ w'.cell? ⟨g, 3, none⟩ = some (.string (bs x3)) ∧ w'.cell? ⟨g, 4, none⟩ = some (.string (bs x4))) (w5.alloc (.cells #[.int .i64 0, .string ⟨#[]⟩, .int .i64 0, .string ⟨#[]⟩, .string ⟨#[]⟩] 24)) := ⟨HP.out.cell 0, HP.out.cell 1, HP.out.cell 3, HP.out.cell 4⟩
    skip
    refine wpAnyH_call (d := some 22) 3 22 _ _ [.string (bs x0)] rfl rfl (by kernel_rfl) rfl (enters_of Tryz.func22 (by kernel_rfl) rfl) (by rfl) (by rfl) ?_
    refine (HN.out _ HE.out.e).mono ?_; rintro e w5 ⟨rfl, hb1⟩
    have HB := Lib.hid (below_then HB.out hb1)
    have HE := Lib.hid (HE.out.below hb1)
    have HP := Lib.hid (HP.out.below hb1)
    have HR := Lib.hid (HR.out.below hb1)
    have HV := Lib.hid (HV.out.below hb1)
    clear hHeld
    have hHeld := (⟨HP.out.cell 0, HP.out.cell 1, HP.out.cell 3, HP.out.cell 4⟩ : (fun w' : World => w'.cell? ⟨g, 0, none⟩ = some (.string (bs x0)) ∧ w'.cell? ⟨g, 1, none⟩ = some (.string (bs x1)) ∧ w'.cell? ⟨g, 3, none⟩ = some (.string (bs x3)) ∧ w'.cell? ⟨g, 4, none⟩ = some (.string (bs x4))) w5)
    refine ⟨_, rfl, _, fun _ h => h, hHeld, fun hHeld => ?_⟩
    simp only [Act.put, List.setIfInBounds_toArray, List.set_cons_zero, List.set_cons_succ]
    refine wpAnyH_die [{ v := errV (ea 4), recovered := false }] 10 23 _ _ [.string (bs x3)] rfl (by kernel_rfl) rfl (enters_of Tryz.func23 (by kernel_rfl) rfl) (by rfl) (by rfl) ?_
    refine (HM3.out _ HE.out.e).mono ?_; rintro e w6 ⟨rfl, hb6⟩; exact ⟨rfl, rfl, rfl, below_then HB.out hb6⟩
set_option maxHeartbeats 1000000 in
theorem parse1_second (s x0 x1 x2 x3 x4 : Str) (hs : s.length ≤ 100000) (hl : pieces s = [x0, x1, x2, x3, x4]) (hz : x0.length ≤ 100000 ∧ x1.length ≤ 100000 ∧ x2.length ≤ 100000 ∧ x3.length ≤ 100000 ∧ x4.length ≤ 100000) (hw : tWord x1 = true) (h0 : tDigs x0 = true) (h3 : x3 = [45] ∨ x3 ≠ [] ∧ tText x3 = true) (h45 : x4 ≠ [45]) (h4 : x4 = [] ∨ tText x4 = false) (p : Addr) (ea : Int → Addr) (w : World) (h : Env ea w) (hp : w.cell? p = some (.string (bs s))) :
    Calls Tryz.prog 18 #[.pointer (some p)] w (Fails (errV (ea 4)) w) := by
  have hlt := lt_of_cell hp
  obtain ⟨W1, g, hsp, hg, hP, hR, hE, hB⟩ := split_at s hs ea w h
  rw [hl] at hsp hP
  have HSp := Lib.hid hsp
  have HW := Lib.hid (fun W => hw ▸ isWord_of x1 W)
  have HN := Lib.hid (fun W hW => number_yes x0 (hz.1) h0 ea W hW)
  have HM3 := Lib.hid (fun W hW => meant_yes x3 (hz.2.2.2.1) h3 ea W hW)
  have HM4 := Lib.hid (fun W hW => meant_no x4 (hz.2.2.2.2) h45 h4 ea W hW)
  have HE := Lib.hid (hE.below (Below.refl _ _).drew); have HB := Lib.hid hB.drew; have HP := Lib.hid hP.drew; have HR := Lib.hid hR.drew
  clear hsp hP hR hE hB h hw h0 h3 h45 h4 hz
  go_enter Tryz.func18, Tryz.ntmps18
  go_wp2_with fail
  refine HSp.out.mono ?_
  rintro e w1 ⟨rfl, rfl⟩
  go_wp2_with fail
  refine wp_region_held_drew (S := fun w' => w'.cell? ⟨g, 1, none⟩ = some (.string (bs x1)) ∧ w'.cell? ⟨0, 0, none⟩ = some (errV (ea 4))) (by kernel_rfl) ⟨HP.out.cell 1, HE.out.e.e4⟩ (fun hHeld => ?_)
  refine wpAnyH_takeAt (v := ?_) (d := some 8) 0 rfl rfl (by kernel_rfl) (by kernel_rfl) (by kernel_rfl) (fun _ _ _ h => h) hHeld (by rfl) ?_ ?_
  rotate_left 1
  · (intro w' hS'; (try dsimp only at hS'); go_simp; (try with_reducible rfl))
  simp only [Act.put, List.setIfInBounds_toArray, List.set_cons_zero, List.set_cons_succ]
  refine wpAnyH_takeAt (v := ?_) (d := some 9) 1 rfl rfl (by kernel_rfl) (by kernel_rfl) (by kernel_rfl) (fun _ _ _ h => h) hHeld (by rfl) ?_ ?_
  rotate_left 1
  · (intro w' hS'; (try dsimp only at hS'); go_simp; (try with_reducible rfl))
  simp only [Act.put, List.setIfInBounds_toArray, List.set_cons_zero, List.set_cons_succ]
  refine wpAnyH_takeAt (v := ?_) (d := some 10) 2 rfl rfl (by kernel_rfl) (by kernel_rfl) (by kernel_rfl) (fun _ _ _ h => h) hHeld (by rfl) ?_ ?_
  rotate_left 1
  · (intro w' hS'; (try dsimp only at hS'); go_simp; (try with_reducible rfl))
  simp only [Act.put, List.setIfInBounds_toArray, List.set_cons_zero, List.set_cons_succ]
  refine wpAnyH_takeAt (v := ?_) (d := some 11) 3 rfl rfl (by kernel_rfl) (by kernel_rfl) (by kernel_rfl) (fun _ _ _ h => h) hHeld (by rfl) ?_ ?_
  rotate_left 1
  · (intro w' hS'; (try dsimp only at hS'); go_simp; (try with_reducible rfl))
  simp only [Act.put, List.setIfInBounds_toArray, List.set_cons_zero, List.set_cons_succ]
  refine wpAnyH_takeAt (v := ?_) (d := some 12) 4 rfl rfl (by kernel_rfl) (by kernel_rfl) (by kernel_rfl) (fun _ _ _ h => h) hHeld (by rfl) ?_ ?_
  rotate_left 1
  · (intro w' hS'; (try dsimp only at hS'); go_simp; (try with_reducible rfl))
  simp only [Act.put, List.setIfInBounds_toArray, List.set_cons_zero, List.set_cons_succ]
  refine wpAnyH_takeAt (v := ?_) (d := some 13) 5 rfl rfl (by kernel_rfl) (by kernel_rfl) (by kernel_rfl) (fun _ _ _ h => h) hHeld (by rfl) ?_ ?_
  rotate_left 1
  · (intro w' hS'; (try dsimp only at hS'); go_simp; (try with_reducible rfl))
  simp only [Act.put, List.setIfInBounds_toArray, List.set_cons_zero, List.set_cons_succ]
  refine wpAnyH_takeAt (v := ?_) (d := some 14) 6 rfl rfl (by kernel_rfl) (by kernel_rfl) (by kernel_rfl) (fun _ _ _ h => h) hHeld (by rfl) ?_ ?_
  rotate_left 1
  · (intro w' hS'; (try dsimp only at hS'); go_simp; (try with_reducible rfl))
  simp only [Act.put, List.setIfInBounds_toArray, List.set_cons_zero, List.set_cons_succ]
  refine wpAnyH_takeAt (v := ?_) (d := some 17) 9 rfl rfl (by kernel_rfl) (by kernel_rfl) (by kernel_rfl) (fun _ _ _ h => h) hHeld (by rfl) ?_ ?_
  rotate_left 1
  · (intro w' hS'; (try dsimp only at hS'); go_simp; (try with_reducible rfl))
  simp only [Act.put, List.setIfInBounds_toArray, List.set_cons_zero, List.set_cons_succ]
  refine wpAnyH_call (d := some 15) 7 21 _ _ [.string (bs x1)] rfl rfl (by kernel_rfl) rfl (enters_of Tryz.func21 (by kernel_rfl) rfl) (by rfl) (by rfl) ?_
  refine (HW.out _).mono ?_; rintro e w5 ⟨rfl, rfl⟩
  refine ⟨_, rfl, _, fun _ h => h, hHeld, fun hHeld => ?_⟩
  simp only [Act.put, List.setIfInBounds_toArray, List.set_cons_zero, List.set_cons_succ]
  refine wpAnyH_takeAt (v := ?_) (d := some 16) 8 rfl rfl (by kernel_rfl) (by kernel_rfl) (by kernel_rfl) (fun _ _ _ h => h) hHeld (by rfl) ?_ ?_
  rotate_left 1
  · (intro w' hS'; (try dsimp only at hS'); go_simp; (try with_reducible rfl))
  simp only [Act.put, List.setIfInBounds_toArray, List.set_cons_zero, List.set_cons_succ]
  refine wpAnyH_call (d := some 18) 10 20 _ _ [.bool true, errV (ea 4)] rfl rfl (by kernel_rfl) rfl (enters_of Tryz.func20 (by kernel_rfl) rfl) (by rfl) (by rfl) ?_
  refine (fail_ok _ _).mono ?_; rintro e w5 ⟨rfl, rfl⟩
  refine ⟨_, rfl, _, fun _ h => h, hHeld, fun hHeld => ?_⟩
  simp only [Act.put, List.setIfInBounds_toArray, List.set_cons_zero, List.set_cons_succ]
  refine wpAnyH_done (by kernel_rfl) ?_ _
  go_wp2_with fail
  have HB := Lib.hid HB.out.drew
  have HE := Lib.hid (HE.out.below (Below.refl _ _).drew)
  have HP := Lib.hid HP.out.drew
  have HR := Lib.hid HR.out.drew
  refine wp_region_held_drew (S := fun w' => w'.cell? ⟨g, 0, none⟩ = some (.string (bs x0)) ∧ w'.cell? ⟨g, 1, none⟩ = some (.string (bs x1)) ∧ w'.cell? ⟨g, 3, none⟩ = some (.string (bs x3)) ∧ w'.cell? ⟨g, 4, none⟩ = some (.string (bs x4))) (by kernel_rfl) ⟨HP.out.cell 0, HP.out.cell 1, HP.out.cell 3, HP.out.cell 4⟩ (fun hHeld => ?_)
  generalize w1.drew.drew = w5 at *
  refine wpAnyH_takeAt (v := ?_) (d := some 19) 0 rfl rfl (by kernel_rfl) (by kernel_rfl) (by kernel_rfl) (fun _ _ _ h => h) hHeld (by rfl) ?_ ?_
  rotate_left 1
  · (intro w' hS'; (try dsimp only at hS'); go_simp; (try with_reducible rfl))
  simp only [Act.put, List.setIfInBounds_toArray, List.set_cons_zero, List.set_cons_succ]
  refine wpAnyH_takeAt (v := ?_) (d := some 20) 1 rfl rfl (by kernel_rfl) (by kernel_rfl) (by kernel_rfl) (fun _ _ _ h => h) hHeld (by rfl) ?_ ?_
  rotate_left 1
  · (intro w' hS'; (try dsimp only at hS'); go_simp; (try with_reducible rfl))
  simp only [Act.put, List.setIfInBounds_toArray, List.set_cons_zero, List.set_cons_succ]
  refine wpAnyH_takeAt (v := ?_) (d := some 21) 2 rfl rfl (by kernel_rfl) (by kernel_rfl) (by kernel_rfl) (fun _ _ _ h => h) hHeld (by rfl) ?_ ?_
  rotate_left 1
  · (intro w' hS'; (try dsimp only at hS'); go_simp; (try with_reducible rfl))
  simp only [Act.put, List.setIfInBounds_toArray, List.set_cons_zero, List.set_cons_succ]
  refine wpAnyH_takeAt (v := ?_) (d := some 23) 4 rfl rfl (by kernel_rfl) (by kernel_rfl) (by kernel_rfl) (fun _ _ _ h => h) hHeld (by rfl) ?_ ?_
  rotate_left 1
  · (intro w' hS'; (try dsimp only at hS'); go_simp; (try with_reducible rfl))
  simp only [Act.put, List.setIfInBounds_toArray, List.set_cons_zero, List.set_cons_succ]
  refine wpAnyH_takeAt (v := ?_) (d := some 24) 5 rfl rfl (by kernel_rfl) (by kernel_rfl) (by kernel_rfl) (fun _ _ _ h => h) hHeld (by rfl) ?_ ?_
  rotate_left 1
  · (intro w' hS'; (try dsimp only at hS'); go_simp; (try with_reducible rfl))
  simp only [Act.put, List.setIfInBounds_toArray, List.set_cons_zero, List.set_cons_succ]
  refine wpAnyH_takeAt (v := ?_) (d := some 25) 6 rfl rfl (by kernel_rfl) (by kernel_rfl) (by kernel_rfl) (fun _ _ _ h => h) hHeld (by rfl) ?_ ?_
  rotate_left 1
  · (intro w' hS'; (try dsimp only at hS'); go_simp; (try with_reducible rfl))
  simp only [Act.put, List.setIfInBounds_toArray, List.set_cons_zero, List.set_cons_succ]
  refine wpAnyH_takeAt (v := ?_) (d := some 26) 7 rfl rfl (by kernel_rfl) (by kernel_rfl) (by kernel_rfl) (fun _ _ _ h => h) hHeld (by rfl) ?_ ?_
  rotate_left 1
  · (intro w' hS'; (try dsimp only at hS'); go_simp; (try with_reducible rfl))
  simp only [Act.put, List.setIfInBounds_toArray, List.set_cons_zero, List.set_cons_succ]
  refine wpAnyH_takeAt (v := ?_) (d := some 27) 8 rfl rfl (by kernel_rfl) (by kernel_rfl) (by kernel_rfl) (fun _ _ _ h => h) hHeld (by rfl) ?_ ?_
  rotate_left 1
  · (intro w' hS'; (try dsimp only at hS'); go_simp; (try with_reducible rfl))
  simp only [Act.put, List.setIfInBounds_toArray, List.set_cons_zero, List.set_cons_succ]
  refine wpAnyH_takeAt (v := ?_) (d := some 28) 9 rfl rfl (by kernel_rfl) (by kernel_rfl) (by kernel_rfl) (fun _ _ _ h => h) hHeld (by rfl) ?_ ?_
  rotate_left 1
  · (intro w' hS'; (try dsimp only at hS'); go_simp; (try with_reducible rfl))
  simp only [Act.put, List.setIfInBounds_toArray, List.set_cons_zero, List.set_cons_succ]
  refine wpAnyH_takeAt (v := ?_) (d := some 30) 11 rfl rfl (by kernel_rfl) (by kernel_rfl) (by kernel_rfl) (fun _ _ _ h => h) hHeld (by rfl) ?_ ?_
  rotate_left 1
  · (intro w' hS'; (try dsimp only at hS'); go_simp; (try with_reducible rfl))
  simp only [Act.put, List.setIfInBounds_toArray, List.set_cons_zero, List.set_cons_succ]
  refine wpAnyH_takeAt (v := ?_) (d := some 31) 12 rfl rfl (by kernel_rfl) (by kernel_rfl) (by kernel_rfl) (fun _ _ _ h => h) hHeld (by rfl) ?_ ?_
  rotate_left 1
  · (intro w' hS'; (try dsimp only at hS'); go_simp; (try with_reducible rfl))
  simp only [Act.put, List.setIfInBounds_toArray, List.set_cons_zero, List.set_cons_succ]
  refine wpAnyH_takeAt (v := ?_) (d := some 32) 13 rfl rfl (by kernel_rfl) (by kernel_rfl) (by kernel_rfl) (fun _ _ _ h => h) hHeld (by rfl) ?_ ?_
  rotate_left 1
  · (intro w' hS'; (try dsimp only at hS'); go_simp; (try with_reducible rfl))
  simp only [Act.put, List.setIfInBounds_toArray, List.set_cons_zero, List.set_cons_succ]
  refine wpAnyH_two 3 16 (by kernel_rfl) ?_ ?_
  · skip
    refine wpOp_call (d := some 22) 3 22 _ _ [.string (bs x0)] rfl rfl rfl (enters_of Tryz.func22 (by kernel_rfl) rfl) (by rfl) (by rfl) ?_
    refine (HN.out _ HE.out.e).mono ?_; rintro e w5 ⟨rfl, hb1⟩
    have HB := Lib.hid (below_then HB.out hb1)
    have HE := Lib.hid (HE.out.below hb1)
    have HP := Lib.hid (HP.out.below hb1)
    have HR := Lib.hid (HR.out.below hb1)
    clear hHeld
    have hHeld := (⟨HP.out.cell 0, HP.out.cell 1, HP.out.cell 3, HP.out.cell 4⟩ : (fun w' : World => w'.cell? ⟨g, 0, none⟩ = some (.string (bs x0)) ∧ w'.cell? ⟨g, 1, none⟩ = some (.string (bs x1)) ∧ w'.cell? ⟨g, 3, none⟩ = some (.string (bs x3)) ∧ w'.cell? ⟨g, 4, none⟩ = some (.string (bs x4))) w5)
    refine ⟨_, rfl, hHeld, ?_⟩
    simp only [Act.put, List.setIfInBounds_toArray, List.set_cons_zero, List.set_cons_succ]
    refine wpAnyH_two 10 16 (by kernel_rfl) ?_ ?_
    · skip
      refine wpOp_call (d := some 29) 10 23 _ _ [.string (bs x3)] rfl rfl rfl (enters_of Tryz.func23 (by kernel_rfl) rfl) (by rfl) (by rfl) ?_
      refine (HM3.out _ HE.out.e).mono ?_; rintro e w5 ⟨rfl, hb1⟩
      have HB := Lib.hid (below_then HB.out hb1)
      have HE := Lib.hid (HE.out.below hb1)
      have HP := Lib.hid (HP.out.below hb1)
      have HR := Lib.hid (HR.out.below hb1)
      clear hHeld
      have hHeld := (⟨HP.out.cell 0, HP.out.cell 1, HP.out.cell 3, HP.out.cell 4⟩ : (fun w' : World => w'.cell? ⟨g, 0, none⟩ = some (.string (bs x0)) ∧ w'.cell? ⟨g, 1, none⟩ = some (.string (bs x1)) ∧ w'.cell? ⟨g, 3, none⟩ = some (.string (bs x3)) ∧ w'.cell? ⟨g, 4, none⟩ = some (.string (bs x4))) w5)
      refine ⟨_, rfl, hHeld, ?_⟩
      simp only [Act.put, List.setIfInBounds_toArray, List.set_cons_zero, List.set_cons_succ]
      refine wpAnyH_two 14 16 (by kernel_rfl) ?_ ?_
      · skip
        refine wpOp_die [{ v := errV (ea 4), recovered := false }] 14 23 _ _ [.string (bs x4)] rfl rfl (enters_of Tryz.func23 (by kernel_rfl) rfl) (by rfl) (by rfl) ?_
        refine (HM4.out _ HE.out.e).mono ?_; rintro e w6 ⟨rfl, hb6⟩; exact ⟨rfl, rfl, rfl, below_then HB.out hb6⟩
      · skip
        have HNG := Lib.hid (And.intro HP.out.lt HR.out.lt)
        have HV := Lib.hid (Blk.fresh w5 #[.int .i64 0, .string ⟨#[]⟩, .int .i64 0, .string ⟨#[]⟩, .string ⟨#[]⟩] 24 _ rfl)
        have HP := Lib.hid (HP.out.alloc (.cells #[.int .i64 0, .string ⟨#[]⟩, .int .i64 0, .string ⟨#[]⟩, .string ⟨#[]⟩] 24))
        have HR := Lib.hid (HR.out.alloc (.cells #[.int .i64 0, .string ⟨#[]⟩, .int .i64 0, .string ⟨#[]⟩, .string ⟨#[]⟩] 24))
        have HE := Lib.hid (HE.out.below ((Below.refl _ _).alloc (Nat.le_refl _) (.cells #[.int .i64 0, .string ⟨#[]⟩, .int .i64 0, .string ⟨#[]⟩, .string ⟨#[]⟩] 24)))
        have HB := Lib.hid (HB.out.alloc HB.out.size (.cells #[.int .i64 0, .string ⟨#[]⟩, .int .i64 0, .string ⟨#[]⟩, .string ⟨#[]⟩] 24))
        refine wpOp_alone (d := some 3) 16 (.pointer (some ⟨w5.heap.size, 0, none⟩)) (w5.alloc (.cells #[.int .i64 0, .string ⟨#[]⟩, .int .i64 0, .string ⟨#[]⟩, .string ⟨#[]⟩] 24)) rfl rfl (by rfl) (by go_simp) ?_
        refine ⟨⟨HP.out.cell 0, HP.out.cell 1, HP.out.cell 3, HP.out.cell 4⟩, ?_⟩
        simp only [Act.put, List.setIfInBounds_toArray, List.set_cons_zero, List.set_cons_succ]
        have hHeld : (fun w' : World => w'.cell? ⟨g, 0, none⟩ = some (.string (bs x0)) ∧ w'.cell? ⟨g, 1, none⟩ = some (.string (bs x1)) ∧ w'.cell? ⟨g, 3, none⟩ = some (.string (bs x3)) ∧ w'.cell? ⟨g, 4, none⟩ = some (.string (bs x4))) (w5.alloc (.cells #[.int .i64 0, .string ⟨#[]⟩, .int .i64 0, .string ⟨#[]⟩, .string ⟨#[]⟩] 24)) := ⟨HP.out.cell 0, HP.out.cell 1, HP.out.cell 3, HP.out.cell 4⟩
        skip
        refine wpAnyH_die [{ v := errV (ea 4), recovered := false }] 14 23 _ _ [.string (bs x4)] rfl (by kernel_rfl) rfl (enters_of Tryz.func23 (by kernel_rfl) rfl) (by rfl) (by rfl) ?_
        refine (HM4.out _ HE.out.e).mono ?_; rintro e w6 ⟨rfl, hb6⟩; exact ⟨rfl, rfl, rfl, below_then HB.out hb6⟩
    · skip
      have HNG := Lib.hid (And.intro HP.out.lt HR.out.lt)
      have HV := Lib.hid (Blk.fresh w5 #[.int .i64 0, .string ⟨#[]⟩, .int .i64 0, .string ⟨#[]⟩, .string ⟨#[]⟩] 24 _ rfl)
      have HP := Lib.hid (HP.out.alloc (.cells #[.int .i64 0, .string ⟨#[]⟩, .int .i64 0, .string ⟨#[]⟩, .string ⟨#[]⟩] 24))
      have HR := Lib.hid (HR.out.alloc (.cells #[.int .i64 0, .string ⟨#[]⟩, .int .i64 0, .string ⟨#[]⟩, .string ⟨#[]⟩] 24))
      have HE := Lib.hid (HE.out.below ((Below.refl _ _).alloc (Nat.le_refl _) (.cells #[.int .i64 0, .string ⟨#[]⟩, .int .i64 0, .string ⟨#[]⟩, .string ⟨#[]⟩] 24)))
      have HB := Lib.hid (HB.out.alloc HB.out.size (.cells #[.int .i64 0, .string ⟨#[]⟩, .int .i64 0, .string ⟨#[]⟩, .string ⟨#[]⟩] 24))
      refine wpOp_alone (d := some 3) 16 (.pointer (some ⟨w5.heap.size, 0, none⟩)) (w5.alloc (.cells #[.int .i64 0, .string ⟨#[]⟩, .int .i64 0, .string ⟨#[]⟩, .string ⟨#[]⟩] 24)) rfl rfl (by rfl) (by go_simp) ?_
      refine ⟨⟨HP.out.cell 0, HP.out.cell 1, HP.out.cell 3, HP.out.cell 4⟩, ?_⟩
      simp only [Act.put, List.setIfInBounds_toArray, List.set_cons_zero, List.set_cons_succ]
      have hHeld : (fun w' : World => w'.cell? ⟨g, 0, none⟩ = some (.string (bs x0)) ∧ w'.cell? ⟨g, 1, none⟩ = some (.string (bs x1)) ∧ w'.cell? ⟨g, 3, none⟩ = some (.string (bs x3)) ∧ w'.cell? ⟨g, 4, none⟩ = some (.string (bs x4))) (w5.alloc (.cells #[.int .i64 0, .string ⟨#[]⟩, .int .i64 0, .string ⟨#[]⟩, .string ⟨#[]⟩] 24)) := ⟨HP.out.cell 0, HP.out.cell 1, HP.out.cell 3, HP.out.cell 4⟩
      skip
      refine wpAnyH_call (d := some 29) 10 23 _ _ [.string (bs x3)] rfl rfl (by kernel_rfl) rfl (enters_of Tryz.func23 (by kernel_rfl) rfl) (by rfl) (by rfl) ?_
      refine (HM3.out _ HE.out.e).mono ?_; rintro e w5 ⟨rfl, hb1⟩
      have HB := Lib.hid (below_then HB.out hb1)
      have HE := Lib.hid (HE.out.below hb1)
      have HP := Lib.hid (HP.out.below hb1)
      have HR := Lib.hid (HR.out.below hb1)
      have HV := Lib.hid (HV.out.below hb1)
      clear hHeld
      have hHeld := (⟨HP.out.cell 0, HP.out.cell 1, HP.out.cell 3, HP.out.cell 4⟩ : (fun w' : World => w'.cell? ⟨g, 0, none⟩ = some (.string (bs x0)) ∧ w'.cell? ⟨g, 1, none⟩ = some (.string (bs x1)) ∧ w'.cell? ⟨g, 3, none⟩ = some (.string (bs x3)) ∧ w'.cell? ⟨g, 4, none⟩ = some (.string (bs x4))) w5)
      refine ⟨_, rfl, _, fun _ h => h, hHeld, fun hHeld => ?_⟩
      simp only [Act.put, List.setIfInBounds_toArray, List.set_cons_zero, List.set_cons_succ]
      refine wpAnyH_die [{ v := errV (ea 4), recovered := false }] 14 23 _ _ [.string (bs x4)] rfl (by kernel_rfl) rfl (enters_of Tryz.func23 (by kernel_rfl) rfl) (by rfl) (by rfl) ?_
      refine (HM4.out _ HE.out.e).mono ?_; rintro e w6 ⟨rfl, hb6⟩; exact ⟨rfl, rfl, rfl, below_then HB.out hb6⟩
  · skip
    have HNG := Lib.hid (And.intro HP.out.lt HR.out.lt)
    have HV := Lib.hid (Blk.fresh w5 #[.int .i64 0, .string ⟨#[]⟩, .int .i64 0, .string ⟨#[]⟩, .string ⟨#[]⟩] 24 _ rfl)
    have HP := Lib.hid (HP.out.alloc (.cells #[.int .i64 0, .string ⟨#[]⟩, .int .i64 0, .string ⟨#[]⟩, .string ⟨#[]⟩] 24))
    have HR := Lib.hid (HR.out.alloc (.cells #[.int .i64 0, .string ⟨#[]⟩, .int .i64 0, .string ⟨#[]⟩, .string ⟨#[]⟩] 24))
    have HE := Lib.hid (HE.out.below ((Below.refl _ _).alloc (Nat.le_refl _) (.cells #[.int .i64 0, .string ⟨#[]⟩, .int .i64 0, .string ⟨#[]⟩, .string ⟨#[]⟩] 24)))
    have HB := Lib.hid (HB.out.alloc HB.out.size (.cells #[.int .i64 0, .string ⟨#[]⟩, .int .i64 0, .string ⟨#[]⟩, .string ⟨#[]⟩] 24))
    refine wpOp_alone (d := some 3) 16 (.pointer (some ⟨w5.heap.size, 0, none⟩)) (w5.alloc (.cells #[.int .i64 0, .string ⟨#[]⟩, .int .i64 0, .string ⟨#[]⟩, .string ⟨#[]⟩] 24)) rfl rfl (by rfl) (by go_simp) ?_
    refine ⟨⟨HP.out.cell 0, HP.out.cell 1, HP.out.cell 3, HP.out.cell 4⟩, ?_⟩
    simp only [Act.put, List.setIfInBounds_toArray, List.set_cons_zero, List.set_cons_succ]
    have hHeld : (fun w' : World => w'.cell? ⟨g, 0, none⟩ = some (.string (bs x0)) ∧ w'.cell? ⟨g, 1, none⟩ = some (.string (bs x1)) ∧ w'.cell? ⟨g, 3, none⟩ = some (.string (bs x3)) ∧ w'.cell? ⟨g, 4, none⟩ = some (.string (bs x4))) (w5.alloc (.cells #[.int .i64 0, .string ⟨#[]⟩, .int .i64 0, .string ⟨#[]⟩, .string ⟨#[]⟩] 24)) := ⟨HP.out.cell 0, HP.out.cell 1, HP.out.cell 3, HP.out.cell 4⟩
    skip
    refine wpAnyH_call (d := some 22) 3 22 _ _ [.string (bs x0)] rfl rfl (by kernel_rfl) rfl (enters_of Tryz.func22 (by kernel_rfl) rfl) (by rfl) (by rfl) ?_
    refine (HN.out _ HE.out.e).mono ?_; rintro e w5 ⟨rfl, hb1⟩
    have HB := Lib.hid (below_then HB.out hb1)
    have HE := Lib.hid (HE.out.below hb1)
    have HP := Lib.hid (HP.out.below hb1)
    have HR := Lib.hid (HR.out.below hb1)
    have HV := Lib.hid (HV.out.below hb1)
    clear hHeld
    have hHeld := (⟨HP.out.cell 0, HP.out.cell 1, HP.out.cell 3, HP.out.cell 4⟩ : (fun w' : World => w'.cell? ⟨g, 0, none⟩ = some (.string (bs x0)) ∧ w'.cell? ⟨g, 1, none⟩ = some (.string (bs x1)) ∧ w'.cell? ⟨g, 3, none⟩ = some (.string (bs x3)) ∧ w'.cell? ⟨g, 4, none⟩ = some (.string (bs x4))) w5)
    refine ⟨_, rfl, _, fun _ h => h, hHeld, fun hHeld => ?_⟩
    simp only [Act.put, List.setIfInBounds_toArray, List.set_cons_zero, List.set_cons_succ]
    refine wpAnyH_call (d := some 29) 10 23 _ _ [.string (bs x3)] rfl rfl (by kernel_rfl) rfl (enters_of Tryz.func23 (by kernel_rfl) rfl) (by rfl) (by rfl) ?_
    refine (HM3.out _ HE.out.e).mono ?_; rintro e w5 ⟨rfl, hb1⟩
    have HB := Lib.hid (below_then HB.out hb1)
    have HE := Lib.hid (HE.out.below hb1)
    have HP := Lib.hid (HP.out.below hb1)
    have HR := Lib.hid (HR.out.below hb1)
    have HV := Lib.hid (HV.out.below hb1)
    clear hHeld
    have hHeld := (⟨HP.out.cell 0, HP.out.cell 1, HP.out.cell 3, HP.out.cell 4⟩ : (fun w' : World => w'.cell? ⟨g, 0, none⟩ = some (.string (bs x0)) ∧ w'.cell? ⟨g, 1, none⟩ = some (.string (bs x1)) ∧ w'.cell? ⟨g, 3, none⟩ = some (.string (bs x3)) ∧ w'.cell? ⟨g, 4, none⟩ = some (.string (bs x4))) w5)
    refine ⟨_, rfl, _, fun _ h => h, hHeld, fun hHeld => ?_⟩
    simp only [Act.put, List.setIfInBounds_toArray, List.set_cons_zero, List.set_cons_succ]
    refine wpAnyH_die [{ v := errV (ea 4), recovered := false }] 14 23 _ _ [.string (bs x4)] rfl (by kernel_rfl) rfl (enters_of Tryz.func23 (by kernel_rfl) rfl) (by rfl) (by rfl) ?_
    refine (HM4.out _ HE.out.e).mono ?_; rintro e w6 ⟨rfl, hb6⟩; exact ⟨rfl, rfl, rfl, below_then HB.out hb6⟩
end Go.Proofs.YthjdaehiebcoaaaGreatDoor
