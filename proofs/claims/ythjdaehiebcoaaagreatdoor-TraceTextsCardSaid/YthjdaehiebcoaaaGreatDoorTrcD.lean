/- The walks of ids.Node and package trace: a place, an event's line. -/
import Derived.Test.YthjdaehiebcoaaaGreatDoorRows
import Derived.WalkKit
import Derived.WalkSpells
import Derived.WalkLawsBesides
import Derived.BigQuiet
import Derived.Deep.QuietTactic
import Derived.StillTailTactics
import Derived.Handy
import Derived.Lib.Hide
import Derived.Test.YthjdaehiebcoaaaGreatDoorTrcC
import Derived.Test.YthjdaehiebcoaaaGreatDoorTryA
set_option linter.unusedSimpArgs false
set_option linter.unusedVariables false
namespace Go.Proofs.YthjdaehiebcoaaaGreatDoor
open Go.RowKit

theorem idNode_yes (n : Int) (h0 : 0 ≤ n) (h1 : n ≤ 3) (ea : Int → Addr) (w : World) (h : Env ea w) : Calls Tryz.prog 71 #[.int .i64 n] w (Makes (.tuple #[.string (bs (110 :: Lib.decDigits n.toNat)), .nilIface]) w) := by
  have hmf : ∀ (fn : Fn) (first cap : Array Value) (w : World), (Instr.makeFunc fn first cap).run Tryz.prog w = .ok (.func fn first cap) w := fun _ _ _ _ => rfl
  have hB : Below w.heap.size w (w.alloc (.cells #[.int .i64 n] 3)) := (Below.refl _ _).alloc (Nat.le_refl _) _
  have HT := Lib.hid (try_gives_node ⟨w.heap.size, 0, none⟩ (bs (110 :: Lib.decDigits n.toNat)) (w.alloc (.cells #[.int .i64 n] 3)) (fun W hW => idNode1_yes n h0 h1 _ ea W ((h.below hB).below hW) (((Blk.fresh w #[.int .i64 n] 3 _ rfl).below hW).cell 0)))
  clear h
  go_enter Tryz.func71, Tryz.ntmps71
  go_wp2_with fail
  refine HT.out.mono ?_
  rintro e w1 ⟨rfl, hb1⟩
  go_wp2_with fail
  go_ret2
  exact ⟨rfl, below_then hB hb1⟩
theorem idNode_no (n : Int) (hn : n < 0 ∨ 3 < n) (ea : Int → Addr) (w : World) (h : Errs ea w) : Calls Tryz.prog 71 #[.int .i64 n] w (Makes (.tuple #[.string ⟨#[]⟩, errV (ea 1)]) w) := by
  have hmf : ∀ (fn : Fn) (first cap : Array Value) (w : World), (Instr.makeFunc fn first cap).run Tryz.prog w = .ok (.func fn first cap) w := fun _ _ _ _ => rfl
  have hB : Below w.heap.size w (w.alloc (.cells #[.int .i64 n] 3)) := (Below.refl _ _).alloc (Nat.le_refl _) _
  have HT := Lib.hid (try_dies_node ⟨w.heap.size, 0, none⟩ 1 (by omega) ea (w.alloc (.cells #[.int .i64 n] 3)) (h.below hB) (fun W hW => idNode1_no n hn _ ea W ((h.below hB).below hW) (((Blk.fresh w #[.int .i64 n] 3 _ rfl).below hW).cell 0)))
  clear h
  go_enter Tryz.func71, Tryz.ntmps71
  go_wp2_with fail
  refine HT.out.mono ?_
  rintro e w1 ⟨rfl, hb1⟩
  go_wp2_with fail
  go_ret2
  exact ⟨rfl, below_then hB hb1⟩
theorem place_yes (n : Int) (h0 : -1 ≤ n) (h1 : n ≤ 3) (ea : Int → Addr) (w : World) (h : Env ea w) : Calls Tryz.prog 47 #[.int .i64 n] w (Makes (.string (bs (tPlace n))) w) := by
  have HE := Lib.hid h
  clear h
  unfold tPlace
  by_cases hn : n = -1
  · rw [if_pos hn]
    subst hn
    go_enter Tryz.func47, Tryz.ntmps47
    go_wp2_with fail
    go_ret
    exact ⟨rfl, by go_grown⟩
  · rw [if_neg hn]
    have HN := Lib.hid (fun W hW => idNode_yes n (by omega) h1 ea W hW)
    have hn' : (n == -1) = false := by simpa using hn
    clear hn
    go_enter Tryz.func47, Tryz.ntmps47
    go_wp2_with fail
    refine (HN.out _ HE.out).mono ?_
    rintro e w1 ⟨rfl, hb1⟩
    have k1 : w1.cell? ⟨1, 0, none⟩ = some (errV (ea 1)) := (HE.out.below hb1).e.e1
    go_wp2_with fail
    go_quiet ((go_at_call 20; exact Calls.quiet_of_same ((fail_if _ _ _ (by first | rfl)).mono fun e w' h => ⟨h.1, h.2.symm⟩)))
    have hb2 : Below w.heap.size w (w1.drewN nq) := hb1.trans ⟨rfl, rfl, rfl, Nat.le_refl _, fun _ _ => rfl⟩
    clear k1
    go_wp2_with fail
    go_ret
    exact ⟨rfl, hb2⟩
theorem place_no (n : Int) (hn : n < -1 ∨ 3 < n) (ea : Int → Addr) (w : World) (h : Errs ea w) : Calls Tryz.prog 47 #[.int .i64 n] w (Fails (errV (ea 1)) w) := by
  have HE := Lib.hid h
  have HN := Lib.hid (fun W hW => idNode_no n (by omega) ea W hW)
  have hn' : (n == -1) = false := by
    rw [beq_eq_false_iff_ne]; omega
  clear h hn
  go_enter Tryz.func47, Tryz.ntmps47
  go_wp2_with fail
  refine (HN.out _ HE.out).mono ?_
  rintro e w1 ⟨rfl, hb1⟩
  have k1 : w1.cell? ⟨1, 0, none⟩ = some (errV (ea 1)) := (HE.out.below hb1).e1
  have B1 : Below w.heap.size w w1.drew := hb1.drew
  go_wp2_with fail
  refine wp_region_quiet_tail 3 _ _ rfl rfl (by kernel_rfl) (by kernel_rfl) ?_; simp only [List.take_succ_cons, List.take_zero, List.drop_succ_cons, List.drop_zero]; (repeat (first | go_big_quiet_skip | (go_big_quiet_want; go_big_quiet_op; go_big_quiet_on))); refine wpQuiet_nil ?_
  go_wp2_with (go_at_call 20; refine (fail_unless _ _ _ (by first | rfl)).mono ?_; rintro e w2 ⟨rfl, rfl⟩)
  exact ⟨rfl, rfl, B1⟩

abbrev evC (e : Ev) : Array Value := #[.int .i64 e.step, .string (bs e.what), .int .i64 e.node, .string (bs e.first), .string (bs e.second)]
def evSizes (e : Ev) : Prop := e.what.length ≤ 100 ∧ e.first.length ≤ 400 ∧ e.second.length ≤ 400
set_option maxHeartbeats 1000000 in
theorem line1_formA (step node : Int) (what first second : Str) (h1 : tWord what = false) (hs : evSizes ⟨step, what, node, first, second⟩) (b : Nat) (ea : Int → Addr) (w : World) (h : Errs ea w) (hp : Blk w b (evC ⟨step, what, node, first, second⟩)) :
    Calls Tryz.prog 43 #[.pointer (some ⟨b, 0, none⟩)] w (Fails (errV (ea 4)) w) := by
  obtain ⟨z1, z2, z3⟩ := hs
  have HW := Lib.hid (fun W => h1 ▸ isWord_of what W)
  have HE := Lib.hid (h.below (Below.refl _ _).drew)
  have HK := Lib.hid hp.drew
  have HB := Lib.hid ((Below.refl w.heap.size w).drew)
  clear h hp h1 z1 z2 z3
  go_enter Tryz.func43, Tryz.ntmps43
  go_wp2_with fail
  refine wp_region_held_drew (S := fun w' => w'.cell? ⟨b, 1, none⟩ = some (.string (bs what)) ∧ w'.cell? ⟨b, 3, none⟩ = some (.string (bs first)) ∧ w'.cell? ⟨b, 4, none⟩ = some (.string (bs second)) ∧ w'.cell? ⟨0, 0, none⟩ = some (errV (ea 4))) (by kernel_rfl) ⟨HK.out.cell 1, HK.out.cell 3, HK.out.cell 4, HE.out.e4⟩ (fun hHeld => ?_)
  refine wpAnyH_takeAt (v := ?_) (d := some 2) 0 rfl rfl (by kernel_rfl) (by kernel_rfl) (by kernel_rfl) (fun _ _ _ h => h) hHeld (by rfl) ?_ ?_
  rotate_left 1
  · (intro w' hS'; (try dsimp only at hS'); go_simp; (try with_reducible rfl))
  simp only [Act.put, List.setIfInBounds_toArray, List.set_cons_zero, List.set_cons_succ]
  refine wpAnyH_takeAt (v := ?_) (d := some 3) 1 rfl rfl (by kernel_rfl) (by kernel_rfl) (by kernel_rfl) (fun _ _ _ h => h) hHeld (by rfl) ?_ ?_
  rotate_left 1
  · (intro w' hS'; (try dsimp only at hS'); go_simp; (try with_reducible rfl))
  simp only [Act.put, List.setIfInBounds_toArray, List.set_cons_zero, List.set_cons_succ]
  refine wpAnyH_takeAt (v := ?_) (d := some 15) 13 rfl rfl (by kernel_rfl) (by kernel_rfl) (by kernel_rfl) (fun _ _ _ h => h) hHeld (by rfl) ?_ ?_
  rotate_left 1
  · (intro w' hS'; (try dsimp only at hS'); go_simp; (try with_reducible rfl))
  simp only [Act.put, List.setIfInBounds_toArray, List.set_cons_zero, List.set_cons_succ]
  refine wpAnyH_call (d := some 4) 2 21 _ _ [.string (bs what)] rfl rfl (by kernel_rfl) rfl (enters_of Tryz.func21 (by kernel_rfl) rfl) (by rfl) (by rfl) ?_
  refine (HW.out _).mono ?_; rintro e w5 ⟨rfl, rfl⟩
  refine ⟨_, rfl, _, fun _ h => h, hHeld, fun hHeld => ?_⟩
  simp only [Act.put, List.setIfInBounds_toArray, List.set_cons_zero, List.set_cons_succ]
  refine wpAnyH_takeAt (v := ?_) (d := some 5) 3 rfl rfl (by kernel_rfl) (by kernel_rfl) (by kernel_rfl) (fun _ _ _ h => h) hHeld (by rfl) ?_ ?_
  rotate_left 1
  · (intro w' hS'; (try dsimp only at hS'); go_simp; (try with_reducible rfl))
  simp only [Act.put, List.setIfInBounds_toArray, List.set_cons_zero, List.set_cons_succ]
  refine wpAnyH_skipAt (d := some 6) 4 rfl rfl (by kernel_rfl) (by kernel_rfl) (by kernel_rfl) (fun _ _ _ h => h) hHeld (by rfl) ?_
  simp only [Act.put, List.setIfInBounds_toArray, List.set_cons_zero, List.set_cons_succ]
  refine wpAnyH_skipAt (d := some 7) 5 rfl rfl (by kernel_rfl) (by kernel_rfl) (by kernel_rfl) (fun _ _ _ h => h) hHeld (by rfl) ?_
  simp only [Act.put, List.setIfInBounds_toArray, List.set_cons_zero, List.set_cons_succ]
  refine wpAnyH_skipAt (d := some 8) 6 rfl rfl (by kernel_rfl) (by kernel_rfl) (by kernel_rfl) (fun _ _ _ h => h) hHeld (by rfl) ?_
  simp only [Act.put, List.setIfInBounds_toArray, List.set_cons_zero, List.set_cons_succ]
  refine wpAnyH_takeAt (v := ?_) (d := some 9) 7 rfl rfl (by kernel_rfl) (by kernel_rfl) (by kernel_rfl) (fun _ _ _ h => h) hHeld (by rfl) ?_ ?_
  rotate_left 1
  · (intro w' hS'; (try dsimp only at hS'); go_simp; (try with_reducible rfl))
  simp only [Act.put, List.setIfInBounds_toArray, List.set_cons_zero, List.set_cons_succ]
  refine wpAnyH_takeAt (v := ?_) (d := some 10) 8 rfl rfl (by kernel_rfl) (by kernel_rfl) (by kernel_rfl) (fun _ _ _ h => h) hHeld (by rfl) ?_ ?_
  rotate_left 1
  · (intro w' hS'; (try dsimp only at hS'); go_simp; (try with_reducible rfl))
  simp only [Act.put, List.setIfInBounds_toArray, List.set_cons_zero, List.set_cons_succ]
  refine wpAnyH_skipAt (d := some 11) 9 rfl rfl (by kernel_rfl) (by kernel_rfl) (by kernel_rfl) (fun _ _ _ h => h) hHeld (by rfl) ?_
  simp only [Act.put, List.setIfInBounds_toArray, List.set_cons_zero, List.set_cons_succ]
  refine wpAnyH_skipAt (d := some 12) 10 rfl rfl (by kernel_rfl) (by kernel_rfl) (by kernel_rfl) (fun _ _ _ h => h) hHeld (by rfl) ?_
  simp only [Act.put, List.setIfInBounds_toArray, List.set_cons_zero, List.set_cons_succ]
  refine wpAnyH_skipAt (d := some 13) 11 rfl rfl (by kernel_rfl) (by kernel_rfl) (by kernel_rfl) (fun _ _ _ h => h) hHeld (by rfl) ?_
  simp only [Act.put, List.setIfInBounds_toArray, List.set_cons_zero, List.set_cons_succ]
  refine wpAnyH_takeAt (v := ?_) (d := some 14) 12 rfl rfl (by kernel_rfl) (by kernel_rfl) (by kernel_rfl) (fun _ _ _ h => h) hHeld (by rfl) ?_ ?_
  rotate_left 1
  · (intro w' hS'; (try dsimp only at hS'); go_simp; (try with_reducible rfl))
  simp only [Act.put, List.setIfInBounds_toArray, List.set_cons_zero, List.set_cons_succ]
  refine wpAnyH_die [{ v := errV (ea 4), recovered := false }] 14 20 _ _ [.bool false, errV (ea 4)] rfl (by kernel_rfl) rfl (enters_of Tryz.func20 (by kernel_rfl) rfl) (by rfl) (by rfl) ?_
  refine (fail_no _ _).mono ?_; rintro e w6 ⟨rfl, rfl⟩; exact ⟨rfl, rfl, rfl, HB.out⟩
set_option maxHeartbeats 1000000 in
theorem line1_formB (step node : Int) (what first second : Str) (h1 : tWord what = true) (h2 : tText first = false) (hs : evSizes ⟨step, what, node, first, second⟩) (b : Nat) (ea : Int → Addr) (w : World) (h : Errs ea w) (hp : Blk w b (evC ⟨step, what, node, first, second⟩)) :
    Calls Tryz.prog 43 #[.pointer (some ⟨b, 0, none⟩)] w (Fails (errV (ea 4)) w) := by
  obtain ⟨z1, z2, z3⟩ := hs
  have HW := Lib.hid (fun W => h1 ▸ isWord_of what W)
  have HF := Lib.hid (fun W => h2 ▸ isText_of first W (Nat.le_trans z2 (by omega)))
  have HE := Lib.hid (h.below (Below.refl _ _).drew)
  have HK := Lib.hid hp.drew
  have HB := Lib.hid ((Below.refl w.heap.size w).drew)
  clear h hp h1 z1 z2 z3 h2
  go_enter Tryz.func43, Tryz.ntmps43
  go_wp2_with fail
  refine wp_region_held_drew (S := fun w' => w'.cell? ⟨b, 1, none⟩ = some (.string (bs what)) ∧ w'.cell? ⟨b, 3, none⟩ = some (.string (bs first)) ∧ w'.cell? ⟨b, 4, none⟩ = some (.string (bs second)) ∧ w'.cell? ⟨0, 0, none⟩ = some (errV (ea 4))) (by kernel_rfl) ⟨HK.out.cell 1, HK.out.cell 3, HK.out.cell 4, HE.out.e4⟩ (fun hHeld => ?_)
  refine wpAnyH_takeAt (v := ?_) (d := some 2) 0 rfl rfl (by kernel_rfl) (by kernel_rfl) (by kernel_rfl) (fun _ _ _ h => h) hHeld (by rfl) ?_ ?_
  rotate_left 1
  · (intro w' hS'; (try dsimp only at hS'); go_simp; (try with_reducible rfl))
  simp only [Act.put, List.setIfInBounds_toArray, List.set_cons_zero, List.set_cons_succ]
  refine wpAnyH_takeAt (v := ?_) (d := some 3) 1 rfl rfl (by kernel_rfl) (by kernel_rfl) (by kernel_rfl) (fun _ _ _ h => h) hHeld (by rfl) ?_ ?_
  rotate_left 1
  · (intro w' hS'; (try dsimp only at hS'); go_simp; (try with_reducible rfl))
  simp only [Act.put, List.setIfInBounds_toArray, List.set_cons_zero, List.set_cons_succ]
  refine wpAnyH_takeAt (v := ?_) (d := some 15) 13 rfl rfl (by kernel_rfl) (by kernel_rfl) (by kernel_rfl) (fun _ _ _ h => h) hHeld (by rfl) ?_ ?_
  rotate_left 1
  · (intro w' hS'; (try dsimp only at hS'); go_simp; (try with_reducible rfl))
  simp only [Act.put, List.setIfInBounds_toArray, List.set_cons_zero, List.set_cons_succ]
  refine wpAnyH_call (d := some 4) 2 21 _ _ [.string (bs what)] rfl rfl (by kernel_rfl) rfl (enters_of Tryz.func21 (by kernel_rfl) rfl) (by rfl) (by rfl) ?_
  refine (HW.out _).mono ?_; rintro e w5 ⟨rfl, rfl⟩
  refine ⟨_, rfl, _, fun _ h => h, hHeld, fun hHeld => ?_⟩
  simp only [Act.put, List.setIfInBounds_toArray, List.set_cons_zero, List.set_cons_succ]
  refine wpAnyH_takeAt (v := ?_) (d := some 5) 3 rfl rfl (by kernel_rfl) (by kernel_rfl) (by kernel_rfl) (fun _ _ _ h => h) hHeld (by rfl) ?_ ?_
  rotate_left 1
  · (intro w' hS'; (try dsimp only at hS'); go_simp; (try with_reducible rfl))
  simp only [Act.put, List.setIfInBounds_toArray, List.set_cons_zero, List.set_cons_succ]
  refine wpAnyH_takeAt (v := ?_) (d := some 6) 4 rfl rfl (by kernel_rfl) (by kernel_rfl) (by kernel_rfl) (fun _ _ _ h => h) hHeld (by rfl) ?_ ?_
  rotate_left 1
  · (intro w' hS'; (try dsimp only at hS'); go_simp; (try with_reducible rfl))
  simp only [Act.put, List.setIfInBounds_toArray, List.set_cons_zero, List.set_cons_succ]
  refine wpAnyH_takeAt (v := ?_) (d := some 7) 5 rfl rfl (by kernel_rfl) (by kernel_rfl) (by kernel_rfl) (fun _ _ _ h => h) hHeld (by rfl) ?_ ?_
  rotate_left 1
  · (intro w' hS'; (try dsimp only at hS'); go_simp; (try with_reducible rfl))
  simp only [Act.put, List.setIfInBounds_toArray, List.set_cons_zero, List.set_cons_succ]
  refine wpAnyH_call (d := some 8) 6 44 _ _ [.string (bs first)] rfl rfl (by kernel_rfl) rfl (enters_of Tryz.func44 (by kernel_rfl) rfl) (by rfl) (by rfl) ?_
  refine (HF.out _).mono ?_; rintro e w5 ⟨rfl, hb1⟩
  have HB := Lib.hid (below_then HB.out hb1)
  have HK := Lib.hid (HK.out.below hb1)
  have HE := Lib.hid (HE.out.below hb1)
  have hHeld := (⟨HK.out.cell 1, HK.out.cell 3, HK.out.cell 4, HE.out.e4⟩ : (fun w' : World => w'.cell? ⟨b, 1, none⟩ = some (.string (bs what)) ∧ w'.cell? ⟨b, 3, none⟩ = some (.string (bs first)) ∧ w'.cell? ⟨b, 4, none⟩ = some (.string (bs second)) ∧ w'.cell? ⟨0, 0, none⟩ = some (errV (ea 4))) w5)
  refine ⟨_, rfl, _, fun _ h => h, hHeld, fun hHeld => ?_⟩
  simp only [Act.put, List.setIfInBounds_toArray, List.set_cons_zero, List.set_cons_succ]
  refine wpAnyH_takeAt (v := ?_) (d := some 9) 7 rfl rfl (by kernel_rfl) (by kernel_rfl) (by kernel_rfl) (fun _ _ _ h => h) hHeld (by rfl) ?_ ?_
  rotate_left 1
  · (intro w' hS'; (try dsimp only at hS'); go_simp; (try with_reducible rfl))
  simp only [Act.put, List.setIfInBounds_toArray, List.set_cons_zero, List.set_cons_succ]
  refine wpAnyH_takeAt (v := ?_) (d := some 10) 8 rfl rfl (by kernel_rfl) (by kernel_rfl) (by kernel_rfl) (fun _ _ _ h => h) hHeld (by rfl) ?_ ?_
  rotate_left 1
  · (intro w' hS'; (try dsimp only at hS'); go_simp; (try with_reducible rfl))
  simp only [Act.put, List.setIfInBounds_toArray, List.set_cons_zero, List.set_cons_succ]
  refine wpAnyH_skipAt (d := some 11) 9 rfl rfl (by kernel_rfl) (by kernel_rfl) (by kernel_rfl) (fun _ _ _ h => h) hHeld (by rfl) ?_
  simp only [Act.put, List.setIfInBounds_toArray, List.set_cons_zero, List.set_cons_succ]
  refine wpAnyH_skipAt (d := some 12) 10 rfl rfl (by kernel_rfl) (by kernel_rfl) (by kernel_rfl) (fun _ _ _ h => h) hHeld (by rfl) ?_
  simp only [Act.put, List.setIfInBounds_toArray, List.set_cons_zero, List.set_cons_succ]
  refine wpAnyH_skipAt (d := some 13) 11 rfl rfl (by kernel_rfl) (by kernel_rfl) (by kernel_rfl) (fun _ _ _ h => h) hHeld (by rfl) ?_
  simp only [Act.put, List.setIfInBounds_toArray, List.set_cons_zero, List.set_cons_succ]
  refine wpAnyH_takeAt (v := ?_) (d := some 14) 12 rfl rfl (by kernel_rfl) (by kernel_rfl) (by kernel_rfl) (fun _ _ _ h => h) hHeld (by rfl) ?_ ?_
  rotate_left 1
  · (intro w' hS'; (try dsimp only at hS'); go_simp; (try with_reducible rfl))
  simp only [Act.put, List.setIfInBounds_toArray, List.set_cons_zero, List.set_cons_succ]
  refine wpAnyH_die [{ v := errV (ea 4), recovered := false }] 14 20 _ _ [.bool false, errV (ea 4)] rfl (by kernel_rfl) rfl (enters_of Tryz.func20 (by kernel_rfl) rfl) (by rfl) (by rfl) ?_
  refine (fail_no _ _).mono ?_; rintro e w6 ⟨rfl, rfl⟩; exact ⟨rfl, rfl, rfl, HB.out⟩
set_option maxHeartbeats 1000000 in
theorem line1_formC (step node : Int) (what first second : Str) (h1 : tWord what = true) (h2 : tText first = true) (h3 : tText second = false) (hs : evSizes ⟨step, what, node, first, second⟩) (b : Nat) (ea : Int → Addr) (w : World) (h : Errs ea w) (hp : Blk w b (evC ⟨step, what, node, first, second⟩)) :
    Calls Tryz.prog 43 #[.pointer (some ⟨b, 0, none⟩)] w (Fails (errV (ea 4)) w) := by
  obtain ⟨z1, z2, z3⟩ := hs
  have HW := Lib.hid (fun W => h1 ▸ isWord_of what W)
  have HF := Lib.hid (fun W => h2 ▸ isText_of first W (Nat.le_trans z2 (by omega)))
  have HS := Lib.hid (fun W => h3 ▸ isText_of second W (Nat.le_trans z3 (by omega)))
  have HE := Lib.hid (h.below (Below.refl _ _).drew)
  have HK := Lib.hid hp.drew
  have HB := Lib.hid ((Below.refl w.heap.size w).drew)
  clear h hp h1 z1 z2 z3 h2 h3
  go_enter Tryz.func43, Tryz.ntmps43
  go_wp2_with fail
  refine wp_region_held_drew (S := fun w' => w'.cell? ⟨b, 1, none⟩ = some (.string (bs what)) ∧ w'.cell? ⟨b, 3, none⟩ = some (.string (bs first)) ∧ w'.cell? ⟨b, 4, none⟩ = some (.string (bs second)) ∧ w'.cell? ⟨0, 0, none⟩ = some (errV (ea 4))) (by kernel_rfl) ⟨HK.out.cell 1, HK.out.cell 3, HK.out.cell 4, HE.out.e4⟩ (fun hHeld => ?_)
  refine wpAnyH_takeAt (v := ?_) (d := some 2) 0 rfl rfl (by kernel_rfl) (by kernel_rfl) (by kernel_rfl) (fun _ _ _ h => h) hHeld (by rfl) ?_ ?_
  rotate_left 1
  · (intro w' hS'; (try dsimp only at hS'); go_simp; (try with_reducible rfl))
  simp only [Act.put, List.setIfInBounds_toArray, List.set_cons_zero, List.set_cons_succ]
  refine wpAnyH_takeAt (v := ?_) (d := some 3) 1 rfl rfl (by kernel_rfl) (by kernel_rfl) (by kernel_rfl) (fun _ _ _ h => h) hHeld (by rfl) ?_ ?_
  rotate_left 1
  · (intro w' hS'; (try dsimp only at hS'); go_simp; (try with_reducible rfl))
  simp only [Act.put, List.setIfInBounds_toArray, List.set_cons_zero, List.set_cons_succ]
  refine wpAnyH_takeAt (v := ?_) (d := some 15) 13 rfl rfl (by kernel_rfl) (by kernel_rfl) (by kernel_rfl) (fun _ _ _ h => h) hHeld (by rfl) ?_ ?_
  rotate_left 1
  · (intro w' hS'; (try dsimp only at hS'); go_simp; (try with_reducible rfl))
  simp only [Act.put, List.setIfInBounds_toArray, List.set_cons_zero, List.set_cons_succ]
  refine wpAnyH_call (d := some 4) 2 21 _ _ [.string (bs what)] rfl rfl (by kernel_rfl) rfl (enters_of Tryz.func21 (by kernel_rfl) rfl) (by rfl) (by rfl) ?_
  refine (HW.out _).mono ?_; rintro e w5 ⟨rfl, rfl⟩
  refine ⟨_, rfl, _, fun _ h => h, hHeld, fun hHeld => ?_⟩
  simp only [Act.put, List.setIfInBounds_toArray, List.set_cons_zero, List.set_cons_succ]
  refine wpAnyH_takeAt (v := ?_) (d := some 5) 3 rfl rfl (by kernel_rfl) (by kernel_rfl) (by kernel_rfl) (fun _ _ _ h => h) hHeld (by rfl) ?_ ?_
  rotate_left 1
  · (intro w' hS'; (try dsimp only at hS'); go_simp; (try with_reducible rfl))
  simp only [Act.put, List.setIfInBounds_toArray, List.set_cons_zero, List.set_cons_succ]
  refine wpAnyH_takeAt (v := ?_) (d := some 6) 4 rfl rfl (by kernel_rfl) (by kernel_rfl) (by kernel_rfl) (fun _ _ _ h => h) hHeld (by rfl) ?_ ?_
  rotate_left 1
  · (intro w' hS'; (try dsimp only at hS'); go_simp; (try with_reducible rfl))
  simp only [Act.put, List.setIfInBounds_toArray, List.set_cons_zero, List.set_cons_succ]
  refine wpAnyH_takeAt (v := ?_) (d := some 7) 5 rfl rfl (by kernel_rfl) (by kernel_rfl) (by kernel_rfl) (fun _ _ _ h => h) hHeld (by rfl) ?_ ?_
  rotate_left 1
  · (intro w' hS'; (try dsimp only at hS'); go_simp; (try with_reducible rfl))
  simp only [Act.put, List.setIfInBounds_toArray, List.set_cons_zero, List.set_cons_succ]
  refine wpAnyH_call (d := some 8) 6 44 _ _ [.string (bs first)] rfl rfl (by kernel_rfl) rfl (enters_of Tryz.func44 (by kernel_rfl) rfl) (by rfl) (by rfl) ?_
  refine (HF.out _).mono ?_; rintro e w5 ⟨rfl, hb1⟩
  have HB := Lib.hid (below_then HB.out hb1)
  have HK := Lib.hid (HK.out.below hb1)
  have HE := Lib.hid (HE.out.below hb1)
  have hHeld := (⟨HK.out.cell 1, HK.out.cell 3, HK.out.cell 4, HE.out.e4⟩ : (fun w' : World => w'.cell? ⟨b, 1, none⟩ = some (.string (bs what)) ∧ w'.cell? ⟨b, 3, none⟩ = some (.string (bs first)) ∧ w'.cell? ⟨b, 4, none⟩ = some (.string (bs second)) ∧ w'.cell? ⟨0, 0, none⟩ = some (errV (ea 4))) w5)
  refine ⟨_, rfl, _, fun _ h => h, hHeld, fun hHeld => ?_⟩
  simp only [Act.put, List.setIfInBounds_toArray, List.set_cons_zero, List.set_cons_succ]
  refine wpAnyH_takeAt (v := ?_) (d := some 9) 7 rfl rfl (by kernel_rfl) (by kernel_rfl) (by kernel_rfl) (fun _ _ _ h => h) hHeld (by rfl) ?_ ?_
  rotate_left 1
  · (intro w' hS'; (try dsimp only at hS'); go_simp; (try with_reducible rfl))
  simp only [Act.put, List.setIfInBounds_toArray, List.set_cons_zero, List.set_cons_succ]
  refine wpAnyH_takeAt (v := ?_) (d := some 10) 8 rfl rfl (by kernel_rfl) (by kernel_rfl) (by kernel_rfl) (fun _ _ _ h => h) hHeld (by rfl) ?_ ?_
  rotate_left 1
  · (intro w' hS'; (try dsimp only at hS'); go_simp; (try with_reducible rfl))
  simp only [Act.put, List.setIfInBounds_toArray, List.set_cons_zero, List.set_cons_succ]
  refine wpAnyH_takeAt (v := ?_) (d := some 11) 9 rfl rfl (by kernel_rfl) (by kernel_rfl) (by kernel_rfl) (fun _ _ _ h => h) hHeld (by rfl) ?_ ?_
  rotate_left 1
  · (intro w' hS'; (try dsimp only at hS'); go_simp; (try with_reducible rfl))
  simp only [Act.put, List.setIfInBounds_toArray, List.set_cons_zero, List.set_cons_succ]
  refine wpAnyH_takeAt (v := ?_) (d := some 12) 10 rfl rfl (by kernel_rfl) (by kernel_rfl) (by kernel_rfl) (fun _ _ _ h => h) hHeld (by rfl) ?_ ?_
  rotate_left 1
  · (intro w' hS'; (try dsimp only at hS'); go_simp; (try with_reducible rfl))
  simp only [Act.put, List.setIfInBounds_toArray, List.set_cons_zero, List.set_cons_succ]
  refine wpAnyH_call (d := some 13) 11 44 _ _ [.string (bs second)] rfl rfl (by kernel_rfl) rfl (enters_of Tryz.func44 (by kernel_rfl) rfl) (by rfl) (by rfl) ?_
  refine (HS.out _).mono ?_; rintro e w5 ⟨rfl, hb1⟩
  have HB := Lib.hid (below_then HB.out hb1)
  have HK := Lib.hid (HK.out.below hb1)
  have HE := Lib.hid (HE.out.below hb1)
  have hHeld := (⟨HK.out.cell 1, HK.out.cell 3, HK.out.cell 4, HE.out.e4⟩ : (fun w' : World => w'.cell? ⟨b, 1, none⟩ = some (.string (bs what)) ∧ w'.cell? ⟨b, 3, none⟩ = some (.string (bs first)) ∧ w'.cell? ⟨b, 4, none⟩ = some (.string (bs second)) ∧ w'.cell? ⟨0, 0, none⟩ = some (errV (ea 4))) w5)
  refine ⟨_, rfl, _, fun _ h => h, hHeld, fun hHeld => ?_⟩
  simp only [Act.put, List.setIfInBounds_toArray, List.set_cons_zero, List.set_cons_succ]
  refine wpAnyH_takeAt (v := ?_) (d := some 14) 12 rfl rfl (by kernel_rfl) (by kernel_rfl) (by kernel_rfl) (fun _ _ _ h => h) hHeld (by rfl) ?_ ?_
  rotate_left 1
  · (intro w' hS'; (try dsimp only at hS'); go_simp; (try with_reducible rfl))
  simp only [Act.put, List.setIfInBounds_toArray, List.set_cons_zero, List.set_cons_succ]
  refine wpAnyH_die [{ v := errV (ea 4), recovered := false }] 14 20 _ _ [.bool false, errV (ea 4)] rfl (by kernel_rfl) rfl (enters_of Tryz.func20 (by kernel_rfl) rfl) (by rfl) (by rfl) ?_
  refine (fail_no _ _).mono ?_; rintro e w6 ⟨rfl, rfl⟩; exact ⟨rfl, rfl, rfl, HB.out⟩
set_option maxHeartbeats 1000000 in
theorem line1_rest (step node : Int) (what first second : Str) (h1 : tWord what = true) (h2 : tText first = true) (h3 : tText second = true) (hs : evSizes ⟨step, what, node, first, second⟩) (b : Nat) (ea : Int → Addr) (w : World) (h : Env ea w) (hp : Blk w b (evC ⟨step, what, node, first, second⟩)) :
    Calls Tryz.prog 43 #[.pointer (some ⟨b, 0, none⟩)] w (Tries ea (tLineN ⟨step, what, node, first, second⟩) (.string (bs (tLineOf ⟨step, what, node, first, second⟩))) w) := by
  obtain ⟨z1, z2, z3⟩ := hs
  dsimp only at z1 z2 z3
  have HW := Lib.hid (fun W => h1 ▸ isWord_of what W)
  have HF := Lib.hid (fun W => h2 ▸ isText_of first W (Nat.le_trans z2 (by omega)))
  have HS := Lib.hid (fun W => h3 ▸ isText_of second W (Nat.le_trans z3 (by omega)))
  have HE := Lib.hid (h.below (Below.refl _ _).drew)
  have HK := Lib.hid hp.drew
  have HB := Lib.hid ((Below.refl w.heap.size w).drew)
  have hn : tLineN ⟨step, what, node, first, second⟩ = if 0 ≤ step ∧ step ≤ 999999 ∧ -1 ≤ node ∧ node ≤ 3 then 0 else 1 := by
    unfold tLineN; dsimp only; rw [h1, h2, h3]; rfl
  have HZ := Lib.hid (And.intro z1 (And.intro z2 z3))
  clear h hp h1 h2 h3 z1 z2 z3
  by_cases hst : 0 ≤ step ∧ step ≤ 999999
  · obtain ⟨s0, s1⟩ := hst
    by_cases hno : -1 ≤ node ∧ node ≤ 3
    · obtain ⟨n0, n1⟩ := hno
      refine tries_makes (by rw [hn, if_pos ⟨s0, s1, n0, n1⟩]) ?_
      have HI := Lib.hid (fun W hW => itoa_of step s0 s1 W hW)
      have HP := Lib.hid (fun W hW => place_yes node n0 n1 ea W hW)
      have HL : Hid ((Lib.decDigits step.toNat).length + what.length + (tPlace node).length + (tShown first).length + (tShown second).length ≤ 100000) := Lib.hid (by
        have q1 := dec_len 5 step.toNat (by omega)
        have q2 : (tPlace node).length ≤ 7 := by
          unfold tPlace
          split
          · simp
          · have := dec_len 5 node.toNat (by omega)
            simp only [List.length_cons]; omega
        have q3 : ∀ x : Str, (tShown x).length ≤ x.length + 1 := fun x => by unfold tShown; split <;> simp_all
        have q4 := q3 first; have q5 := q3 second
        have q6 := HZ.out
        omega)
      clear hn n0 n1 HZ
      unfold tLineOf
      dsimp only
      go_enter Tryz.func43, Tryz.ntmps43
      go_wp2_with fail
      refine wp_region_held_drew (S := fun w' => w'.cell? ⟨b, 1, none⟩ = some (.string (bs what)) ∧ w'.cell? ⟨b, 3, none⟩ = some (.string (bs first)) ∧ w'.cell? ⟨b, 4, none⟩ = some (.string (bs second)) ∧ w'.cell? ⟨0, 0, none⟩ = some (errV (ea 4))) (by kernel_rfl) ⟨HK.out.cell 1, HK.out.cell 3, HK.out.cell 4, HE.out.e.e4⟩ (fun hHeld => ?_)
      refine wpAnyH_takeAt (v := ?_) (d := some 2) 0 rfl rfl (by kernel_rfl) (by kernel_rfl) (by kernel_rfl) (fun _ _ _ h => h) hHeld (by rfl) ?_ ?_
      rotate_left 1
      · (intro w' hS'; (try dsimp only at hS'); go_simp; (try with_reducible rfl))
      simp only [Act.put, List.setIfInBounds_toArray, List.set_cons_zero, List.set_cons_succ]
      refine wpAnyH_takeAt (v := ?_) (d := some 3) 1 rfl rfl (by kernel_rfl) (by kernel_rfl) (by kernel_rfl) (fun _ _ _ h => h) hHeld (by rfl) ?_ ?_
      rotate_left 1
      · (intro w' hS'; (try dsimp only at hS'); go_simp; (try with_reducible rfl))
      simp only [Act.put, List.setIfInBounds_toArray, List.set_cons_zero, List.set_cons_succ]
      refine wpAnyH_takeAt (v := ?_) (d := some 15) 13 rfl rfl (by kernel_rfl) (by kernel_rfl) (by kernel_rfl) (fun _ _ _ h => h) hHeld (by rfl) ?_ ?_
      rotate_left 1
      · (intro w' hS'; (try dsimp only at hS'); go_simp; (try with_reducible rfl))
      simp only [Act.put, List.setIfInBounds_toArray, List.set_cons_zero, List.set_cons_succ]
      refine wpAnyH_call (d := some 4) 2 21 _ _ [.string (bs what)] rfl rfl (by kernel_rfl) rfl (enters_of Tryz.func21 (by kernel_rfl) rfl) (by rfl) (by rfl) ?_
      refine (HW.out _).mono ?_; rintro e w5 ⟨rfl, rfl⟩
      refine ⟨_, rfl, _, fun _ h => h, hHeld, fun hHeld => ?_⟩
      simp only [Act.put, List.setIfInBounds_toArray, List.set_cons_zero, List.set_cons_succ]
      refine wpAnyH_takeAt (v := ?_) (d := some 5) 3 rfl rfl (by kernel_rfl) (by kernel_rfl) (by kernel_rfl) (fun _ _ _ h => h) hHeld (by rfl) ?_ ?_
      rotate_left 1
      · (intro w' hS'; (try dsimp only at hS'); go_simp; (try with_reducible rfl))
      simp only [Act.put, List.setIfInBounds_toArray, List.set_cons_zero, List.set_cons_succ]
      refine wpAnyH_takeAt (v := ?_) (d := some 6) 4 rfl rfl (by kernel_rfl) (by kernel_rfl) (by kernel_rfl) (fun _ _ _ h => h) hHeld (by rfl) ?_ ?_
      rotate_left 1
      · (intro w' hS'; (try dsimp only at hS'); go_simp; (try with_reducible rfl))
      simp only [Act.put, List.setIfInBounds_toArray, List.set_cons_zero, List.set_cons_succ]
      refine wpAnyH_takeAt (v := ?_) (d := some 7) 5 rfl rfl (by kernel_rfl) (by kernel_rfl) (by kernel_rfl) (fun _ _ _ h => h) hHeld (by rfl) ?_ ?_
      rotate_left 1
      · (intro w' hS'; (try dsimp only at hS'); go_simp; (try with_reducible rfl))
      simp only [Act.put, List.setIfInBounds_toArray, List.set_cons_zero, List.set_cons_succ]
      refine wpAnyH_call (d := some 8) 6 44 _ _ [.string (bs first)] rfl rfl (by kernel_rfl) rfl (enters_of Tryz.func44 (by kernel_rfl) rfl) (by rfl) (by rfl) ?_
      refine (HF.out _).mono ?_; rintro e w5 ⟨rfl, hb1⟩
      have HB := Lib.hid (below_then HB.out hb1)
      have HK := Lib.hid (HK.out.below hb1)
      have HE := Lib.hid (HE.out.below hb1)
      have hHeld := (⟨HK.out.cell 1, HK.out.cell 3, HK.out.cell 4, HE.out.e.e4⟩ : (fun w' : World => w'.cell? ⟨b, 1, none⟩ = some (.string (bs what)) ∧ w'.cell? ⟨b, 3, none⟩ = some (.string (bs first)) ∧ w'.cell? ⟨b, 4, none⟩ = some (.string (bs second)) ∧ w'.cell? ⟨0, 0, none⟩ = some (errV (ea 4))) w5)
      refine ⟨_, rfl, _, fun _ h => h, hHeld, fun hHeld => ?_⟩
      simp only [Act.put, List.setIfInBounds_toArray, List.set_cons_zero, List.set_cons_succ]
      refine wpAnyH_takeAt (v := ?_) (d := some 9) 7 rfl rfl (by kernel_rfl) (by kernel_rfl) (by kernel_rfl) (fun _ _ _ h => h) hHeld (by rfl) ?_ ?_
      rotate_left 1
      · (intro w' hS'; (try dsimp only at hS'); go_simp; (try with_reducible rfl))
      simp only [Act.put, List.setIfInBounds_toArray, List.set_cons_zero, List.set_cons_succ]
      refine wpAnyH_takeAt (v := ?_) (d := some 10) 8 rfl rfl (by kernel_rfl) (by kernel_rfl) (by kernel_rfl) (fun _ _ _ h => h) hHeld (by rfl) ?_ ?_
      rotate_left 1
      · (intro w' hS'; (try dsimp only at hS'); go_simp; (try with_reducible rfl))
      simp only [Act.put, List.setIfInBounds_toArray, List.set_cons_zero, List.set_cons_succ]
      refine wpAnyH_takeAt (v := ?_) (d := some 11) 9 rfl rfl (by kernel_rfl) (by kernel_rfl) (by kernel_rfl) (fun _ _ _ h => h) hHeld (by rfl) ?_ ?_
      rotate_left 1
      · (intro w' hS'; (try dsimp only at hS'); go_simp; (try with_reducible rfl))
      simp only [Act.put, List.setIfInBounds_toArray, List.set_cons_zero, List.set_cons_succ]
      refine wpAnyH_takeAt (v := ?_) (d := some 12) 10 rfl rfl (by kernel_rfl) (by kernel_rfl) (by kernel_rfl) (fun _ _ _ h => h) hHeld (by rfl) ?_ ?_
      rotate_left 1
      · (intro w' hS'; (try dsimp only at hS'); go_simp; (try with_reducible rfl))
      simp only [Act.put, List.setIfInBounds_toArray, List.set_cons_zero, List.set_cons_succ]
      refine wpAnyH_call (d := some 13) 11 44 _ _ [.string (bs second)] rfl rfl (by kernel_rfl) rfl (enters_of Tryz.func44 (by kernel_rfl) rfl) (by rfl) (by rfl) ?_
      refine (HS.out _).mono ?_; rintro e w5 ⟨rfl, hb1⟩
      have HB := Lib.hid (below_then HB.out hb1)
      have HK := Lib.hid (HK.out.below hb1)
      have HE := Lib.hid (HE.out.below hb1)
      have hHeld := (⟨HK.out.cell 1, HK.out.cell 3, HK.out.cell 4, HE.out.e.e4⟩ : (fun w' : World => w'.cell? ⟨b, 1, none⟩ = some (.string (bs what)) ∧ w'.cell? ⟨b, 3, none⟩ = some (.string (bs first)) ∧ w'.cell? ⟨b, 4, none⟩ = some (.string (bs second)) ∧ w'.cell? ⟨0, 0, none⟩ = some (errV (ea 4))) w5)
      refine ⟨_, rfl, _, fun _ h => h, hHeld, fun hHeld => ?_⟩
      simp only [Act.put, List.setIfInBounds_toArray, List.set_cons_zero, List.set_cons_succ]
      refine wpAnyH_takeAt (v := ?_) (d := some 14) 12 rfl rfl (by kernel_rfl) (by kernel_rfl) (by kernel_rfl) (fun _ _ _ h => h) hHeld (by rfl) ?_ ?_
      rotate_left 1
      · (intro w' hS'; (try dsimp only at hS'); go_simp; (try with_reducible rfl))
      simp only [Act.put, List.setIfInBounds_toArray, List.set_cons_zero, List.set_cons_succ]
      refine wpAnyH_call (d := some 16) 14 20 _ _ [.bool true, errV (ea 4)] rfl rfl (by kernel_rfl) rfl (enters_of Tryz.func20 (by kernel_rfl) rfl) (by rfl) (by rfl) ?_
      refine (fail_ok _ _).mono ?_; rintro e w5 ⟨rfl, rfl⟩
      refine ⟨_, rfl, _, fun _ h => h, hHeld, fun hHeld => ?_⟩
      simp only [Act.put, List.setIfInBounds_toArray, List.set_cons_zero, List.set_cons_succ]
      refine wpAnyH_done (by kernel_rfl) ?_ _
      have c0 := HK.out.cell 0
      have k1 := HE.out.e.e1
      dsimp only [ErrIs] at k1
      go_wp2_with (go_at_call 20; refine (fail_if _ _ _ (by first | rfl)).mono ?_; rintro e w6 ⟨rfl, rfl⟩)
      clear c0 k1
      have HE := Lib.hid (HE.out.below (Below.refl _ _).drew)
      have HK := Lib.hid HK.out.drew
      have HB := Lib.hid HB.out.drew
      refine wp_region_held_drew (S := fun w' => w'.cell? ⟨b, 0, none⟩ = some (.int .i64 step) ∧ w'.cell? ⟨b, 1, none⟩ = some (.string (bs what)) ∧ w'.cell? ⟨b, 2, none⟩ = some (.int .i64 node) ∧ w'.cell? ⟨b, 3, none⟩ = some (.string (bs first)) ∧ w'.cell? ⟨b, 4, none⟩ = some (.string (bs second))) (by kernel_rfl) ⟨HK.out.cell 0, HK.out.cell 1, HK.out.cell 2, HK.out.cell 3, HK.out.cell 4⟩ (fun hHeld => ?_)
      refine wpAnyH_takeAt (v := ?_) (d := some 27) 0 rfl rfl (by kernel_rfl) (by kernel_rfl) (by kernel_rfl) (fun _ _ _ h => h) hHeld (by rfl) ?_ ?_
      rotate_left 1
      · (intro w' hS'; (try dsimp only at hS'); go_simp; (try with_reducible rfl))
      simp only [Act.put, List.setIfInBounds_toArray, List.set_cons_zero, List.set_cons_succ]
      refine wpAnyH_takeAt (v := ?_) (d := some 28) 1 rfl rfl (by kernel_rfl) (by kernel_rfl) (by kernel_rfl) (fun _ _ _ h => h) hHeld (by rfl) ?_ ?_
      rotate_left 1
      · (intro w' hS'; (try dsimp only at hS'); go_simp; (try with_reducible rfl))
      simp only [Act.put, List.setIfInBounds_toArray, List.set_cons_zero, List.set_cons_succ]
      refine wpAnyH_takeAt (v := ?_) (d := some 30) 3 rfl rfl (by kernel_rfl) (by kernel_rfl) (by kernel_rfl) (fun _ _ _ h => h) hHeld (by rfl) ?_ ?_
      rotate_left 1
      · (intro w' hS'; (try dsimp only at hS'); go_simp; (try with_reducible rfl))
      simp only [Act.put, List.setIfInBounds_toArray, List.set_cons_zero, List.set_cons_succ]
      refine wpAnyH_takeAt (v := ?_) (d := some 31) 4 rfl rfl (by kernel_rfl) (by kernel_rfl) (by kernel_rfl) (fun _ _ _ h => h) hHeld (by rfl) ?_ ?_
      rotate_left 1
      · (intro w' hS'; (try dsimp only at hS'); go_simp; (try with_reducible rfl))
      simp only [Act.put, List.setIfInBounds_toArray, List.set_cons_zero, List.set_cons_succ]
      refine wpAnyH_takeAt (v := ?_) (d := some 32) 5 rfl rfl (by kernel_rfl) (by kernel_rfl) (by kernel_rfl) (fun _ _ _ h => h) hHeld (by rfl) ?_ ?_
      rotate_left 1
      · (intro w' hS'; (try dsimp only at hS'); go_simp; (try with_reducible rfl))
      simp only [Act.put, List.setIfInBounds_toArray, List.set_cons_zero, List.set_cons_succ]
      refine wpAnyH_takeAt (v := ?_) (d := some 33) 6 rfl rfl (by kernel_rfl) (by kernel_rfl) (by kernel_rfl) (fun _ _ _ h => h) hHeld (by rfl) ?_ ?_
      rotate_left 1
      · (intro w' hS'; (try dsimp only at hS'); go_simp; (try with_reducible rfl))
      simp only [Act.put, List.setIfInBounds_toArray, List.set_cons_zero, List.set_cons_succ]
      refine wpAnyH_takeAt (v := ?_) (d := some 35) 8 rfl rfl (by kernel_rfl) (by kernel_rfl) (by kernel_rfl) (fun _ _ _ h => h) hHeld (by rfl) ?_ ?_
      rotate_left 1
      · (intro w' hS'; (try dsimp only at hS'); go_simp; (try with_reducible rfl))
      simp only [Act.put, List.setIfInBounds_toArray, List.set_cons_zero, List.set_cons_succ]
      refine wpAnyH_takeAt (v := ?_) (d := some 36) 9 rfl rfl (by kernel_rfl) (by kernel_rfl) (by kernel_rfl) (fun _ _ _ h => h) hHeld (by rfl) ?_ ?_
      rotate_left 1
      · (intro w' hS'; (try dsimp only at hS'); go_simp; (try with_reducible rfl))
      simp only [Act.put, List.setIfInBounds_toArray, List.set_cons_zero, List.set_cons_succ]
      refine wpAnyH_takeAt (v := ?_) (d := some 38) 11 rfl rfl (by kernel_rfl) (by kernel_rfl) (by kernel_rfl) (fun _ _ _ h => h) hHeld (by rfl) ?_ ?_
      rotate_left 1
      · (intro w' hS'; (try dsimp only at hS'); go_simp; (try with_reducible rfl))
      simp only [Act.put, List.setIfInBounds_toArray, List.set_cons_zero, List.set_cons_succ]
      refine wpAnyH_takeAt (v := ?_) (d := some 39) 12 rfl rfl (by kernel_rfl) (by kernel_rfl) (by kernel_rfl) (fun _ _ _ h => h) hHeld (by rfl) ?_ ?_
      rotate_left 1
      · (intro w' hS'; (try dsimp only at hS'); go_simp; (try with_reducible rfl))
      simp only [Act.put, List.setIfInBounds_toArray, List.set_cons_zero, List.set_cons_succ]
      refine wpAnyH_call (d := some 29) 2 46 _ _ [.int .i64 step] rfl rfl (by kernel_rfl) rfl (enters_of Tryz.func46 (by kernel_rfl) rfl) (by rfl) (by rfl) ?_
      refine (HI.out _ HE.out.tab).mono ?_; rintro e w5 ⟨rfl, hb1⟩
      have HB := Lib.hid (below_then HB.out hb1)
      have HK := Lib.hid (HK.out.below hb1)
      have HE := Lib.hid (HE.out.below hb1)
      have hHeld := (⟨HK.out.cell 0, HK.out.cell 1, HK.out.cell 2, HK.out.cell 3, HK.out.cell 4⟩ : (fun w' : World => w'.cell? ⟨b, 0, none⟩ = some (.int .i64 step) ∧ w'.cell? ⟨b, 1, none⟩ = some (.string (bs what)) ∧ w'.cell? ⟨b, 2, none⟩ = some (.int .i64 node) ∧ w'.cell? ⟨b, 3, none⟩ = some (.string (bs first)) ∧ w'.cell? ⟨b, 4, none⟩ = some (.string (bs second))) w5)
      refine ⟨_, rfl, _, fun _ h => h, hHeld, fun hHeld => ?_⟩
      simp only [Act.put, List.setIfInBounds_toArray, List.set_cons_zero, List.set_cons_succ]
      refine wpAnyH_call (d := some 34) 7 47 _ _ [.int .i64 node] rfl rfl (by kernel_rfl) rfl (enters_of Tryz.func47 (by kernel_rfl) rfl) (by rfl) (by rfl) ?_
      refine (HP.out _ HE.out).mono ?_; rintro e w5 ⟨rfl, hb1⟩
      have HB := Lib.hid (below_then HB.out hb1)
      have HK := Lib.hid (HK.out.below hb1)
      have HE := Lib.hid (HE.out.below hb1)
      have hHeld := (⟨HK.out.cell 0, HK.out.cell 1, HK.out.cell 2, HK.out.cell 3, HK.out.cell 4⟩ : (fun w' : World => w'.cell? ⟨b, 0, none⟩ = some (.int .i64 step) ∧ w'.cell? ⟨b, 1, none⟩ = some (.string (bs what)) ∧ w'.cell? ⟨b, 2, none⟩ = some (.int .i64 node) ∧ w'.cell? ⟨b, 3, none⟩ = some (.string (bs first)) ∧ w'.cell? ⟨b, 4, none⟩ = some (.string (bs second))) w5)
      refine ⟨_, rfl, _, fun _ h => h, hHeld, fun hHeld => ?_⟩
      simp only [Act.put, List.setIfInBounds_toArray, List.set_cons_zero, List.set_cons_succ]
      refine wpAnyH_call (d := some 37) 10 48 _ _ [.string (bs first)] rfl rfl (by kernel_rfl) rfl (enters_of Tryz.func48 (by kernel_rfl) rfl) (by rfl) (by rfl) ?_
      refine (shown_of first _).mono ?_; rintro e w5 ⟨rfl, rfl⟩
      refine ⟨_, rfl, _, fun _ h => h, hHeld, fun hHeld => ?_⟩
      simp only [Act.put, List.setIfInBounds_toArray, List.set_cons_zero, List.set_cons_succ]
      refine wpAnyH_call (d := some 40) 13 48 _ _ [.string (bs second)] rfl rfl (by kernel_rfl) rfl (enters_of Tryz.func48 (by kernel_rfl) rfl) (by rfl) (by rfl) ?_
      refine (shown_of second _).mono ?_; rintro e w5 ⟨rfl, rfl⟩
      have hHeld := (⟨HK.out.cell 0, HK.out.cell 1, HK.out.cell 2, HK.out.cell 3, HK.out.cell 4⟩ : (fun w' : World => w'.cell? ⟨b, 0, none⟩ = some (.int .i64 step) ∧ w'.cell? ⟨b, 1, none⟩ = some (.string (bs what)) ∧ w'.cell? ⟨b, 2, none⟩ = some (.int .i64 node) ∧ w'.cell? ⟨b, 3, none⟩ = some (.string (bs first)) ∧ w'.cell? ⟨b, 4, none⟩ = some (.string (bs second))) w5)
      have HBl := Lib.hid (Blk.fresh w5 #[.string (bs (Lib.decDigits step.toNat)), .string (bs what), .string (bs (tPlace node)), .string (bs (tShown first)), .string (bs (tShown second))] 9 _ rfl)
      have HK := Lib.hid (HK.out.alloc (.cells #[.string (bs (Lib.decDigits step.toNat)), .string (bs what), .string (bs (tPlace node)), .string (bs (tShown first)), .string (bs (tShown second))] 9))
      have HB := Lib.hid (HB.out.alloc HB.out.size (.cells #[.string (bs (Lib.decDigits step.toNat)), .string (bs what), .string (bs (tPlace node)), .string (bs (tShown first)), .string (bs (tShown second))] 9))
      refine ⟨_, rfl, _, fun _ h => h, hHeld, fun hHeld => ?_⟩
      simp only [Act.put, List.setIfInBounds_toArray, List.set_cons_zero, List.set_cons_succ]
      refine wpAnyH_alone (d := some 41) 14 (.slice (some ⟨w5.heap.size, 0, none⟩) 5 5) (w5.alloc (.cells #[.string (bs (Lib.decDigits step.toNat)), .string (bs what), .string (bs (tPlace node)), .string (bs (tShown first)), .string (bs (tShown second))] 9)) rfl rfl (by kernel_rfl) (by rfl) (by go_simp) (⟨HK.out.cell 0, HK.out.cell 1, HK.out.cell 2, HK.out.cell 3, HK.out.cell 4⟩) ?_
      simp only [Act.put, List.setIfInBounds_toArray, List.set_cons_zero, List.set_cons_succ]
      refine wpAnyH_call (d := some 42) 15 45 _ _ [.slice (some ⟨w5.heap.size, 0, none⟩) 5 5, .string ⟨#[32]⟩] rfl rfl (by kernel_rfl) rfl (enters_of Tryz.func45 (by kernel_rfl) rfl) (by rfl) (by rfl) ?_
      refine (join5_of w5.heap.size _ _ _ _ _ _ HBl.out HL.out).mono ?_; rintro e w5 ⟨rfl, hb1⟩
      have HB := Lib.hid (below_then HB.out hb1)
      have HK := Lib.hid (HK.out.below hb1)
      have hHeld := (⟨HK.out.cell 0, HK.out.cell 1, HK.out.cell 2, HK.out.cell 3, HK.out.cell 4⟩ : (fun w' : World => w'.cell? ⟨b, 0, none⟩ = some (.int .i64 step) ∧ w'.cell? ⟨b, 1, none⟩ = some (.string (bs what)) ∧ w'.cell? ⟨b, 2, none⟩ = some (.int .i64 node) ∧ w'.cell? ⟨b, 3, none⟩ = some (.string (bs first)) ∧ w'.cell? ⟨b, 4, none⟩ = some (.string (bs second))) w5)
      refine ⟨_, rfl, _, fun _ h => h, hHeld, fun hHeld => ?_⟩
      simp only [Act.put, List.setIfInBounds_toArray, List.set_cons_zero, List.set_cons_succ]
      refine wpAnyH_takeAt (v := ?_) (d := some 1) 16 rfl rfl (by kernel_rfl) (by kernel_rfl) (by kernel_rfl) (fun _ _ _ h => h) hHeld (by rfl) ?_ ?_
      rotate_left 1
      · (intro w' hS'; (try dsimp only at hS'); go_simp; (try with_reducible rfl))
      simp only [Act.put, List.setIfInBounds_toArray, List.set_cons_zero, List.set_cons_succ]
      refine wpAnyH_done (by kernel_rfl) ?_ _
      go_wp2_with fail
      go_ret
      exact ⟨rfl, HB.out⟩
    · refine tries_fails (by rw [hn, if_neg (fun h => hno ⟨h.2.2.1, h.2.2.2⟩)]; decide) ?_
      have he1 : tLineN ⟨step, what, node, first, second⟩ = 1 := by rw [hn, if_neg (fun h => hno ⟨h.2.2.1, h.2.2.2⟩)]
      rw [he1]
      have HI := Lib.hid (fun W hW => itoa_of step s0 s1 W hW)
      have HP := Lib.hid (fun W hW => place_no node (by omega) ea W hW)
      clear hn hno he1 HZ
      go_enter Tryz.func43, Tryz.ntmps43
      go_wp2_with fail
      refine wp_region_held_drew (S := fun w' => w'.cell? ⟨b, 1, none⟩ = some (.string (bs what)) ∧ w'.cell? ⟨b, 3, none⟩ = some (.string (bs first)) ∧ w'.cell? ⟨b, 4, none⟩ = some (.string (bs second)) ∧ w'.cell? ⟨0, 0, none⟩ = some (errV (ea 4))) (by kernel_rfl) ⟨HK.out.cell 1, HK.out.cell 3, HK.out.cell 4, HE.out.e.e4⟩ (fun hHeld => ?_)
      refine wpAnyH_takeAt (v := ?_) (d := some 2) 0 rfl rfl (by kernel_rfl) (by kernel_rfl) (by kernel_rfl) (fun _ _ _ h => h) hHeld (by rfl) ?_ ?_
      rotate_left 1
      · (intro w' hS'; (try dsimp only at hS'); go_simp; (try with_reducible rfl))
      simp only [Act.put, List.setIfInBounds_toArray, List.set_cons_zero, List.set_cons_succ]
      refine wpAnyH_takeAt (v := ?_) (d := some 3) 1 rfl rfl (by kernel_rfl) (by kernel_rfl) (by kernel_rfl) (fun _ _ _ h => h) hHeld (by rfl) ?_ ?_
      rotate_left 1
      · (intro w' hS'; (try dsimp only at hS'); go_simp; (try with_reducible rfl))
      simp only [Act.put, List.setIfInBounds_toArray, List.set_cons_zero, List.set_cons_succ]
      refine wpAnyH_takeAt (v := ?_) (d := some 15) 13 rfl rfl (by kernel_rfl) (by kernel_rfl) (by kernel_rfl) (fun _ _ _ h => h) hHeld (by rfl) ?_ ?_
      rotate_left 1
      · (intro w' hS'; (try dsimp only at hS'); go_simp; (try with_reducible rfl))
      simp only [Act.put, List.setIfInBounds_toArray, List.set_cons_zero, List.set_cons_succ]
      refine wpAnyH_call (d := some 4) 2 21 _ _ [.string (bs what)] rfl rfl (by kernel_rfl) rfl (enters_of Tryz.func21 (by kernel_rfl) rfl) (by rfl) (by rfl) ?_
      refine (HW.out _).mono ?_; rintro e w5 ⟨rfl, rfl⟩
      refine ⟨_, rfl, _, fun _ h => h, hHeld, fun hHeld => ?_⟩
      simp only [Act.put, List.setIfInBounds_toArray, List.set_cons_zero, List.set_cons_succ]
      refine wpAnyH_takeAt (v := ?_) (d := some 5) 3 rfl rfl (by kernel_rfl) (by kernel_rfl) (by kernel_rfl) (fun _ _ _ h => h) hHeld (by rfl) ?_ ?_
      rotate_left 1
      · (intro w' hS'; (try dsimp only at hS'); go_simp; (try with_reducible rfl))
      simp only [Act.put, List.setIfInBounds_toArray, List.set_cons_zero, List.set_cons_succ]
      refine wpAnyH_takeAt (v := ?_) (d := some 6) 4 rfl rfl (by kernel_rfl) (by kernel_rfl) (by kernel_rfl) (fun _ _ _ h => h) hHeld (by rfl) ?_ ?_
      rotate_left 1
      · (intro w' hS'; (try dsimp only at hS'); go_simp; (try with_reducible rfl))
      simp only [Act.put, List.setIfInBounds_toArray, List.set_cons_zero, List.set_cons_succ]
      refine wpAnyH_takeAt (v := ?_) (d := some 7) 5 rfl rfl (by kernel_rfl) (by kernel_rfl) (by kernel_rfl) (fun _ _ _ h => h) hHeld (by rfl) ?_ ?_
      rotate_left 1
      · (intro w' hS'; (try dsimp only at hS'); go_simp; (try with_reducible rfl))
      simp only [Act.put, List.setIfInBounds_toArray, List.set_cons_zero, List.set_cons_succ]
      refine wpAnyH_call (d := some 8) 6 44 _ _ [.string (bs first)] rfl rfl (by kernel_rfl) rfl (enters_of Tryz.func44 (by kernel_rfl) rfl) (by rfl) (by rfl) ?_
      refine (HF.out _).mono ?_; rintro e w5 ⟨rfl, hb1⟩
      have HB := Lib.hid (below_then HB.out hb1)
      have HK := Lib.hid (HK.out.below hb1)
      have HE := Lib.hid (HE.out.below hb1)
      have hHeld := (⟨HK.out.cell 1, HK.out.cell 3, HK.out.cell 4, HE.out.e.e4⟩ : (fun w' : World => w'.cell? ⟨b, 1, none⟩ = some (.string (bs what)) ∧ w'.cell? ⟨b, 3, none⟩ = some (.string (bs first)) ∧ w'.cell? ⟨b, 4, none⟩ = some (.string (bs second)) ∧ w'.cell? ⟨0, 0, none⟩ = some (errV (ea 4))) w5)
      refine ⟨_, rfl, _, fun _ h => h, hHeld, fun hHeld => ?_⟩
      simp only [Act.put, List.setIfInBounds_toArray, List.set_cons_zero, List.set_cons_succ]
      refine wpAnyH_takeAt (v := ?_) (d := some 9) 7 rfl rfl (by kernel_rfl) (by kernel_rfl) (by kernel_rfl) (fun _ _ _ h => h) hHeld (by rfl) ?_ ?_
      rotate_left 1
      · (intro w' hS'; (try dsimp only at hS'); go_simp; (try with_reducible rfl))
      simp only [Act.put, List.setIfInBounds_toArray, List.set_cons_zero, List.set_cons_succ]
      refine wpAnyH_takeAt (v := ?_) (d := some 10) 8 rfl rfl (by kernel_rfl) (by kernel_rfl) (by kernel_rfl) (fun _ _ _ h => h) hHeld (by rfl) ?_ ?_
      rotate_left 1
      · (intro w' hS'; (try dsimp only at hS'); go_simp; (try with_reducible rfl))
      simp only [Act.put, List.setIfInBounds_toArray, List.set_cons_zero, List.set_cons_succ]
      refine wpAnyH_takeAt (v := ?_) (d := some 11) 9 rfl rfl (by kernel_rfl) (by kernel_rfl) (by kernel_rfl) (fun _ _ _ h => h) hHeld (by rfl) ?_ ?_
      rotate_left 1
      · (intro w' hS'; (try dsimp only at hS'); go_simp; (try with_reducible rfl))
      simp only [Act.put, List.setIfInBounds_toArray, List.set_cons_zero, List.set_cons_succ]
      refine wpAnyH_takeAt (v := ?_) (d := some 12) 10 rfl rfl (by kernel_rfl) (by kernel_rfl) (by kernel_rfl) (fun _ _ _ h => h) hHeld (by rfl) ?_ ?_
      rotate_left 1
      · (intro w' hS'; (try dsimp only at hS'); go_simp; (try with_reducible rfl))
      simp only [Act.put, List.setIfInBounds_toArray, List.set_cons_zero, List.set_cons_succ]
      refine wpAnyH_call (d := some 13) 11 44 _ _ [.string (bs second)] rfl rfl (by kernel_rfl) rfl (enters_of Tryz.func44 (by kernel_rfl) rfl) (by rfl) (by rfl) ?_
      refine (HS.out _).mono ?_; rintro e w5 ⟨rfl, hb1⟩
      have HB := Lib.hid (below_then HB.out hb1)
      have HK := Lib.hid (HK.out.below hb1)
      have HE := Lib.hid (HE.out.below hb1)
      have hHeld := (⟨HK.out.cell 1, HK.out.cell 3, HK.out.cell 4, HE.out.e.e4⟩ : (fun w' : World => w'.cell? ⟨b, 1, none⟩ = some (.string (bs what)) ∧ w'.cell? ⟨b, 3, none⟩ = some (.string (bs first)) ∧ w'.cell? ⟨b, 4, none⟩ = some (.string (bs second)) ∧ w'.cell? ⟨0, 0, none⟩ = some (errV (ea 4))) w5)
      refine ⟨_, rfl, _, fun _ h => h, hHeld, fun hHeld => ?_⟩
      simp only [Act.put, List.setIfInBounds_toArray, List.set_cons_zero, List.set_cons_succ]
      refine wpAnyH_takeAt (v := ?_) (d := some 14) 12 rfl rfl (by kernel_rfl) (by kernel_rfl) (by kernel_rfl) (fun _ _ _ h => h) hHeld (by rfl) ?_ ?_
      rotate_left 1
      · (intro w' hS'; (try dsimp only at hS'); go_simp; (try with_reducible rfl))
      simp only [Act.put, List.setIfInBounds_toArray, List.set_cons_zero, List.set_cons_succ]
      refine wpAnyH_call (d := some 16) 14 20 _ _ [.bool true, errV (ea 4)] rfl rfl (by kernel_rfl) rfl (enters_of Tryz.func20 (by kernel_rfl) rfl) (by rfl) (by rfl) ?_
      refine (fail_ok _ _).mono ?_; rintro e w5 ⟨rfl, rfl⟩
      refine ⟨_, rfl, _, fun _ h => h, hHeld, fun hHeld => ?_⟩
      simp only [Act.put, List.setIfInBounds_toArray, List.set_cons_zero, List.set_cons_succ]
      refine wpAnyH_done (by kernel_rfl) ?_ _
      have c0 := HK.out.cell 0
      have k1 := HE.out.e.e1
      dsimp only [ErrIs] at k1
      go_wp2_with (go_at_call 20; refine (fail_if _ _ _ (by first | rfl)).mono ?_; rintro e w6 ⟨rfl, rfl⟩)
      clear c0 k1
      have HE := Lib.hid (HE.out.below (Below.refl _ _).drew)
      have HK := Lib.hid HK.out.drew
      have HB := Lib.hid HB.out.drew
      refine wp_region_held_drew (S := fun w' => w'.cell? ⟨b, 0, none⟩ = some (.int .i64 step) ∧ w'.cell? ⟨b, 1, none⟩ = some (.string (bs what)) ∧ w'.cell? ⟨b, 2, none⟩ = some (.int .i64 node) ∧ w'.cell? ⟨b, 3, none⟩ = some (.string (bs first)) ∧ w'.cell? ⟨b, 4, none⟩ = some (.string (bs second))) (by kernel_rfl) ⟨HK.out.cell 0, HK.out.cell 1, HK.out.cell 2, HK.out.cell 3, HK.out.cell 4⟩ (fun hHeld => ?_)
      refine wpAnyH_takeAt (v := ?_) (d := some 27) 0 rfl rfl (by kernel_rfl) (by kernel_rfl) (by kernel_rfl) (fun _ _ _ h => h) hHeld (by rfl) ?_ ?_
      rotate_left 1
      · (intro w' hS'; (try dsimp only at hS'); go_simp; (try with_reducible rfl))
      simp only [Act.put, List.setIfInBounds_toArray, List.set_cons_zero, List.set_cons_succ]
      refine wpAnyH_takeAt (v := ?_) (d := some 28) 1 rfl rfl (by kernel_rfl) (by kernel_rfl) (by kernel_rfl) (fun _ _ _ h => h) hHeld (by rfl) ?_ ?_
      rotate_left 1
      · (intro w' hS'; (try dsimp only at hS'); go_simp; (try with_reducible rfl))
      simp only [Act.put, List.setIfInBounds_toArray, List.set_cons_zero, List.set_cons_succ]
      refine wpAnyH_takeAt (v := ?_) (d := some 30) 3 rfl rfl (by kernel_rfl) (by kernel_rfl) (by kernel_rfl) (fun _ _ _ h => h) hHeld (by rfl) ?_ ?_
      rotate_left 1
      · (intro w' hS'; (try dsimp only at hS'); go_simp; (try with_reducible rfl))
      simp only [Act.put, List.setIfInBounds_toArray, List.set_cons_zero, List.set_cons_succ]
      refine wpAnyH_takeAt (v := ?_) (d := some 31) 4 rfl rfl (by kernel_rfl) (by kernel_rfl) (by kernel_rfl) (fun _ _ _ h => h) hHeld (by rfl) ?_ ?_
      rotate_left 1
      · (intro w' hS'; (try dsimp only at hS'); go_simp; (try with_reducible rfl))
      simp only [Act.put, List.setIfInBounds_toArray, List.set_cons_zero, List.set_cons_succ]
      refine wpAnyH_takeAt (v := ?_) (d := some 32) 5 rfl rfl (by kernel_rfl) (by kernel_rfl) (by kernel_rfl) (fun _ _ _ h => h) hHeld (by rfl) ?_ ?_
      rotate_left 1
      · (intro w' hS'; (try dsimp only at hS'); go_simp; (try with_reducible rfl))
      simp only [Act.put, List.setIfInBounds_toArray, List.set_cons_zero, List.set_cons_succ]
      refine wpAnyH_takeAt (v := ?_) (d := some 33) 6 rfl rfl (by kernel_rfl) (by kernel_rfl) (by kernel_rfl) (fun _ _ _ h => h) hHeld (by rfl) ?_ ?_
      rotate_left 1
      · (intro w' hS'; (try dsimp only at hS'); go_simp; (try with_reducible rfl))
      simp only [Act.put, List.setIfInBounds_toArray, List.set_cons_zero, List.set_cons_succ]
      refine wpAnyH_takeAt (v := ?_) (d := some 35) 8 rfl rfl (by kernel_rfl) (by kernel_rfl) (by kernel_rfl) (fun _ _ _ h => h) hHeld (by rfl) ?_ ?_
      rotate_left 1
      · (intro w' hS'; (try dsimp only at hS'); go_simp; (try with_reducible rfl))
      simp only [Act.put, List.setIfInBounds_toArray, List.set_cons_zero, List.set_cons_succ]
      refine wpAnyH_takeAt (v := ?_) (d := some 36) 9 rfl rfl (by kernel_rfl) (by kernel_rfl) (by kernel_rfl) (fun _ _ _ h => h) hHeld (by rfl) ?_ ?_
      rotate_left 1
      · (intro w' hS'; (try dsimp only at hS'); go_simp; (try with_reducible rfl))
      simp only [Act.put, List.setIfInBounds_toArray, List.set_cons_zero, List.set_cons_succ]
      refine wpAnyH_takeAt (v := ?_) (d := some 38) 11 rfl rfl (by kernel_rfl) (by kernel_rfl) (by kernel_rfl) (fun _ _ _ h => h) hHeld (by rfl) ?_ ?_
      rotate_left 1
      · (intro w' hS'; (try dsimp only at hS'); go_simp; (try with_reducible rfl))
      simp only [Act.put, List.setIfInBounds_toArray, List.set_cons_zero, List.set_cons_succ]
      refine wpAnyH_takeAt (v := ?_) (d := some 39) 12 rfl rfl (by kernel_rfl) (by kernel_rfl) (by kernel_rfl) (fun _ _ _ h => h) hHeld (by rfl) ?_ ?_
      rotate_left 1
      · (intro w' hS'; (try dsimp only at hS'); go_simp; (try with_reducible rfl))
      simp only [Act.put, List.setIfInBounds_toArray, List.set_cons_zero, List.set_cons_succ]
      refine wpAnyH_call (d := some 29) 2 46 _ _ [.int .i64 step] rfl rfl (by kernel_rfl) rfl (enters_of Tryz.func46 (by kernel_rfl) rfl) (by rfl) (by rfl) ?_
      refine (HI.out _ HE.out.tab).mono ?_; rintro e w5 ⟨rfl, hb1⟩
      have HB := Lib.hid (below_then HB.out hb1)
      have HK := Lib.hid (HK.out.below hb1)
      have HE := Lib.hid (HE.out.below hb1)
      have hHeld := (⟨HK.out.cell 0, HK.out.cell 1, HK.out.cell 2, HK.out.cell 3, HK.out.cell 4⟩ : (fun w' : World => w'.cell? ⟨b, 0, none⟩ = some (.int .i64 step) ∧ w'.cell? ⟨b, 1, none⟩ = some (.string (bs what)) ∧ w'.cell? ⟨b, 2, none⟩ = some (.int .i64 node) ∧ w'.cell? ⟨b, 3, none⟩ = some (.string (bs first)) ∧ w'.cell? ⟨b, 4, none⟩ = some (.string (bs second))) w5)
      refine ⟨_, rfl, _, fun _ h => h, hHeld, fun hHeld => ?_⟩
      simp only [Act.put, List.setIfInBounds_toArray, List.set_cons_zero, List.set_cons_succ]
      refine wpAnyH_die [{ v := errV (ea 1), recovered := false }] 7 47 _ _ [.int .i64 node] rfl (by kernel_rfl) rfl (enters_of Tryz.func47 (by kernel_rfl) rfl) (by rfl) (by rfl) ?_
      refine (HP.out _ HE.out.e).mono ?_; rintro e w6 ⟨rfl, hb6⟩; exact ⟨rfl, rfl, rfl, below_then HB.out hb6⟩
  · refine tries_fails (by rw [hn, if_neg (fun h => hst ⟨h.1, h.2.1⟩)]; decide) ?_
    have he1 : tLineN ⟨step, what, node, first, second⟩ = 1 := by rw [hn, if_neg (fun h => hst ⟨h.1, h.2.1⟩)]
    rw [he1]
    clear hn he1 HZ
    by_cases hs0 : step < 0
    · have hf : decide (0 ≤ step) = false := decide_eq_false (by omega)
      clear hst
      go_enter Tryz.func43, Tryz.ntmps43
      go_wp2_with fail
      refine wp_region_held_drew (S := fun w' => w'.cell? ⟨b, 1, none⟩ = some (.string (bs what)) ∧ w'.cell? ⟨b, 3, none⟩ = some (.string (bs first)) ∧ w'.cell? ⟨b, 4, none⟩ = some (.string (bs second)) ∧ w'.cell? ⟨0, 0, none⟩ = some (errV (ea 4))) (by kernel_rfl) ⟨HK.out.cell 1, HK.out.cell 3, HK.out.cell 4, HE.out.e.e4⟩ (fun hHeld => ?_)
      refine wpAnyH_takeAt (v := ?_) (d := some 2) 0 rfl rfl (by kernel_rfl) (by kernel_rfl) (by kernel_rfl) (fun _ _ _ h => h) hHeld (by rfl) ?_ ?_
      rotate_left 1
      · (intro w' hS'; (try dsimp only at hS'); go_simp; (try with_reducible rfl))
      simp only [Act.put, List.setIfInBounds_toArray, List.set_cons_zero, List.set_cons_succ]
      refine wpAnyH_takeAt (v := ?_) (d := some 3) 1 rfl rfl (by kernel_rfl) (by kernel_rfl) (by kernel_rfl) (fun _ _ _ h => h) hHeld (by rfl) ?_ ?_
      rotate_left 1
      · (intro w' hS'; (try dsimp only at hS'); go_simp; (try with_reducible rfl))
      simp only [Act.put, List.setIfInBounds_toArray, List.set_cons_zero, List.set_cons_succ]
      refine wpAnyH_takeAt (v := ?_) (d := some 15) 13 rfl rfl (by kernel_rfl) (by kernel_rfl) (by kernel_rfl) (fun _ _ _ h => h) hHeld (by rfl) ?_ ?_
      rotate_left 1
      · (intro w' hS'; (try dsimp only at hS'); go_simp; (try with_reducible rfl))
      simp only [Act.put, List.setIfInBounds_toArray, List.set_cons_zero, List.set_cons_succ]
      refine wpAnyH_call (d := some 4) 2 21 _ _ [.string (bs what)] rfl rfl (by kernel_rfl) rfl (enters_of Tryz.func21 (by kernel_rfl) rfl) (by rfl) (by rfl) ?_
      refine (HW.out _).mono ?_; rintro e w5 ⟨rfl, rfl⟩
      refine ⟨_, rfl, _, fun _ h => h, hHeld, fun hHeld => ?_⟩
      simp only [Act.put, List.setIfInBounds_toArray, List.set_cons_zero, List.set_cons_succ]
      refine wpAnyH_takeAt (v := ?_) (d := some 5) 3 rfl rfl (by kernel_rfl) (by kernel_rfl) (by kernel_rfl) (fun _ _ _ h => h) hHeld (by rfl) ?_ ?_
      rotate_left 1
      · (intro w' hS'; (try dsimp only at hS'); go_simp; (try with_reducible rfl))
      simp only [Act.put, List.setIfInBounds_toArray, List.set_cons_zero, List.set_cons_succ]
      refine wpAnyH_takeAt (v := ?_) (d := some 6) 4 rfl rfl (by kernel_rfl) (by kernel_rfl) (by kernel_rfl) (fun _ _ _ h => h) hHeld (by rfl) ?_ ?_
      rotate_left 1
      · (intro w' hS'; (try dsimp only at hS'); go_simp; (try with_reducible rfl))
      simp only [Act.put, List.setIfInBounds_toArray, List.set_cons_zero, List.set_cons_succ]
      refine wpAnyH_takeAt (v := ?_) (d := some 7) 5 rfl rfl (by kernel_rfl) (by kernel_rfl) (by kernel_rfl) (fun _ _ _ h => h) hHeld (by rfl) ?_ ?_
      rotate_left 1
      · (intro w' hS'; (try dsimp only at hS'); go_simp; (try with_reducible rfl))
      simp only [Act.put, List.setIfInBounds_toArray, List.set_cons_zero, List.set_cons_succ]
      refine wpAnyH_call (d := some 8) 6 44 _ _ [.string (bs first)] rfl rfl (by kernel_rfl) rfl (enters_of Tryz.func44 (by kernel_rfl) rfl) (by rfl) (by rfl) ?_
      refine (HF.out _).mono ?_; rintro e w5 ⟨rfl, hb1⟩
      have HB := Lib.hid (below_then HB.out hb1)
      have HK := Lib.hid (HK.out.below hb1)
      have HE := Lib.hid (HE.out.below hb1)
      have hHeld := (⟨HK.out.cell 1, HK.out.cell 3, HK.out.cell 4, HE.out.e.e4⟩ : (fun w' : World => w'.cell? ⟨b, 1, none⟩ = some (.string (bs what)) ∧ w'.cell? ⟨b, 3, none⟩ = some (.string (bs first)) ∧ w'.cell? ⟨b, 4, none⟩ = some (.string (bs second)) ∧ w'.cell? ⟨0, 0, none⟩ = some (errV (ea 4))) w5)
      refine ⟨_, rfl, _, fun _ h => h, hHeld, fun hHeld => ?_⟩
      simp only [Act.put, List.setIfInBounds_toArray, List.set_cons_zero, List.set_cons_succ]
      refine wpAnyH_takeAt (v := ?_) (d := some 9) 7 rfl rfl (by kernel_rfl) (by kernel_rfl) (by kernel_rfl) (fun _ _ _ h => h) hHeld (by rfl) ?_ ?_
      rotate_left 1
      · (intro w' hS'; (try dsimp only at hS'); go_simp; (try with_reducible rfl))
      simp only [Act.put, List.setIfInBounds_toArray, List.set_cons_zero, List.set_cons_succ]
      refine wpAnyH_takeAt (v := ?_) (d := some 10) 8 rfl rfl (by kernel_rfl) (by kernel_rfl) (by kernel_rfl) (fun _ _ _ h => h) hHeld (by rfl) ?_ ?_
      rotate_left 1
      · (intro w' hS'; (try dsimp only at hS'); go_simp; (try with_reducible rfl))
      simp only [Act.put, List.setIfInBounds_toArray, List.set_cons_zero, List.set_cons_succ]
      refine wpAnyH_takeAt (v := ?_) (d := some 11) 9 rfl rfl (by kernel_rfl) (by kernel_rfl) (by kernel_rfl) (fun _ _ _ h => h) hHeld (by rfl) ?_ ?_
      rotate_left 1
      · (intro w' hS'; (try dsimp only at hS'); go_simp; (try with_reducible rfl))
      simp only [Act.put, List.setIfInBounds_toArray, List.set_cons_zero, List.set_cons_succ]
      refine wpAnyH_takeAt (v := ?_) (d := some 12) 10 rfl rfl (by kernel_rfl) (by kernel_rfl) (by kernel_rfl) (fun _ _ _ h => h) hHeld (by rfl) ?_ ?_
      rotate_left 1
      · (intro w' hS'; (try dsimp only at hS'); go_simp; (try with_reducible rfl))
      simp only [Act.put, List.setIfInBounds_toArray, List.set_cons_zero, List.set_cons_succ]
      refine wpAnyH_call (d := some 13) 11 44 _ _ [.string (bs second)] rfl rfl (by kernel_rfl) rfl (enters_of Tryz.func44 (by kernel_rfl) rfl) (by rfl) (by rfl) ?_
      refine (HS.out _).mono ?_; rintro e w5 ⟨rfl, hb1⟩
      have HB := Lib.hid (below_then HB.out hb1)
      have HK := Lib.hid (HK.out.below hb1)
      have HE := Lib.hid (HE.out.below hb1)
      have hHeld := (⟨HK.out.cell 1, HK.out.cell 3, HK.out.cell 4, HE.out.e.e4⟩ : (fun w' : World => w'.cell? ⟨b, 1, none⟩ = some (.string (bs what)) ∧ w'.cell? ⟨b, 3, none⟩ = some (.string (bs first)) ∧ w'.cell? ⟨b, 4, none⟩ = some (.string (bs second)) ∧ w'.cell? ⟨0, 0, none⟩ = some (errV (ea 4))) w5)
      refine ⟨_, rfl, _, fun _ h => h, hHeld, fun hHeld => ?_⟩
      simp only [Act.put, List.setIfInBounds_toArray, List.set_cons_zero, List.set_cons_succ]
      refine wpAnyH_takeAt (v := ?_) (d := some 14) 12 rfl rfl (by kernel_rfl) (by kernel_rfl) (by kernel_rfl) (fun _ _ _ h => h) hHeld (by rfl) ?_ ?_
      rotate_left 1
      · (intro w' hS'; (try dsimp only at hS'); go_simp; (try with_reducible rfl))
      simp only [Act.put, List.setIfInBounds_toArray, List.set_cons_zero, List.set_cons_succ]
      refine wpAnyH_call (d := some 16) 14 20 _ _ [.bool true, errV (ea 4)] rfl rfl (by kernel_rfl) rfl (enters_of Tryz.func20 (by kernel_rfl) rfl) (by rfl) (by rfl) ?_
      refine (fail_ok _ _).mono ?_; rintro e w5 ⟨rfl, rfl⟩
      refine ⟨_, rfl, _, fun _ h => h, hHeld, fun hHeld => ?_⟩
      simp only [Act.put, List.setIfInBounds_toArray, List.set_cons_zero, List.set_cons_succ]
      refine wpAnyH_done (by kernel_rfl) ?_ _
      have c0 := HK.out.cell 0
      have k1 := HE.out.e.e1
      dsimp only [ErrIs] at k1
      go_wp2_with (go_at_call 20; refine (fail_unless _ _ _ (by first | rfl)).mono ?_; rintro e w6 ⟨rfl, rfl⟩)
      exact ⟨rfl, rfl, HB.out⟩
    · have hs1 : decide (step ≤ 999999) = false := decide_eq_false (by omega)
      have hf0 : 0 ≤ step := by omega
      clear hst hs0
      go_enter Tryz.func43, Tryz.ntmps43
      go_wp2_with fail
      refine wp_region_held_drew (S := fun w' => w'.cell? ⟨b, 1, none⟩ = some (.string (bs what)) ∧ w'.cell? ⟨b, 3, none⟩ = some (.string (bs first)) ∧ w'.cell? ⟨b, 4, none⟩ = some (.string (bs second)) ∧ w'.cell? ⟨0, 0, none⟩ = some (errV (ea 4))) (by kernel_rfl) ⟨HK.out.cell 1, HK.out.cell 3, HK.out.cell 4, HE.out.e.e4⟩ (fun hHeld => ?_)
      refine wpAnyH_takeAt (v := ?_) (d := some 2) 0 rfl rfl (by kernel_rfl) (by kernel_rfl) (by kernel_rfl) (fun _ _ _ h => h) hHeld (by rfl) ?_ ?_
      rotate_left 1
      · (intro w' hS'; (try dsimp only at hS'); go_simp; (try with_reducible rfl))
      simp only [Act.put, List.setIfInBounds_toArray, List.set_cons_zero, List.set_cons_succ]
      refine wpAnyH_takeAt (v := ?_) (d := some 3) 1 rfl rfl (by kernel_rfl) (by kernel_rfl) (by kernel_rfl) (fun _ _ _ h => h) hHeld (by rfl) ?_ ?_
      rotate_left 1
      · (intro w' hS'; (try dsimp only at hS'); go_simp; (try with_reducible rfl))
      simp only [Act.put, List.setIfInBounds_toArray, List.set_cons_zero, List.set_cons_succ]
      refine wpAnyH_takeAt (v := ?_) (d := some 15) 13 rfl rfl (by kernel_rfl) (by kernel_rfl) (by kernel_rfl) (fun _ _ _ h => h) hHeld (by rfl) ?_ ?_
      rotate_left 1
      · (intro w' hS'; (try dsimp only at hS'); go_simp; (try with_reducible rfl))
      simp only [Act.put, List.setIfInBounds_toArray, List.set_cons_zero, List.set_cons_succ]
      refine wpAnyH_call (d := some 4) 2 21 _ _ [.string (bs what)] rfl rfl (by kernel_rfl) rfl (enters_of Tryz.func21 (by kernel_rfl) rfl) (by rfl) (by rfl) ?_
      refine (HW.out _).mono ?_; rintro e w5 ⟨rfl, rfl⟩
      refine ⟨_, rfl, _, fun _ h => h, hHeld, fun hHeld => ?_⟩
      simp only [Act.put, List.setIfInBounds_toArray, List.set_cons_zero, List.set_cons_succ]
      refine wpAnyH_takeAt (v := ?_) (d := some 5) 3 rfl rfl (by kernel_rfl) (by kernel_rfl) (by kernel_rfl) (fun _ _ _ h => h) hHeld (by rfl) ?_ ?_
      rotate_left 1
      · (intro w' hS'; (try dsimp only at hS'); go_simp; (try with_reducible rfl))
      simp only [Act.put, List.setIfInBounds_toArray, List.set_cons_zero, List.set_cons_succ]
      refine wpAnyH_takeAt (v := ?_) (d := some 6) 4 rfl rfl (by kernel_rfl) (by kernel_rfl) (by kernel_rfl) (fun _ _ _ h => h) hHeld (by rfl) ?_ ?_
      rotate_left 1
      · (intro w' hS'; (try dsimp only at hS'); go_simp; (try with_reducible rfl))
      simp only [Act.put, List.setIfInBounds_toArray, List.set_cons_zero, List.set_cons_succ]
      refine wpAnyH_takeAt (v := ?_) (d := some 7) 5 rfl rfl (by kernel_rfl) (by kernel_rfl) (by kernel_rfl) (fun _ _ _ h => h) hHeld (by rfl) ?_ ?_
      rotate_left 1
      · (intro w' hS'; (try dsimp only at hS'); go_simp; (try with_reducible rfl))
      simp only [Act.put, List.setIfInBounds_toArray, List.set_cons_zero, List.set_cons_succ]
      refine wpAnyH_call (d := some 8) 6 44 _ _ [.string (bs first)] rfl rfl (by kernel_rfl) rfl (enters_of Tryz.func44 (by kernel_rfl) rfl) (by rfl) (by rfl) ?_
      refine (HF.out _).mono ?_; rintro e w5 ⟨rfl, hb1⟩
      have HB := Lib.hid (below_then HB.out hb1)
      have HK := Lib.hid (HK.out.below hb1)
      have HE := Lib.hid (HE.out.below hb1)
      have hHeld := (⟨HK.out.cell 1, HK.out.cell 3, HK.out.cell 4, HE.out.e.e4⟩ : (fun w' : World => w'.cell? ⟨b, 1, none⟩ = some (.string (bs what)) ∧ w'.cell? ⟨b, 3, none⟩ = some (.string (bs first)) ∧ w'.cell? ⟨b, 4, none⟩ = some (.string (bs second)) ∧ w'.cell? ⟨0, 0, none⟩ = some (errV (ea 4))) w5)
      refine ⟨_, rfl, _, fun _ h => h, hHeld, fun hHeld => ?_⟩
      simp only [Act.put, List.setIfInBounds_toArray, List.set_cons_zero, List.set_cons_succ]
      refine wpAnyH_takeAt (v := ?_) (d := some 9) 7 rfl rfl (by kernel_rfl) (by kernel_rfl) (by kernel_rfl) (fun _ _ _ h => h) hHeld (by rfl) ?_ ?_
      rotate_left 1
      · (intro w' hS'; (try dsimp only at hS'); go_simp; (try with_reducible rfl))
      simp only [Act.put, List.setIfInBounds_toArray, List.set_cons_zero, List.set_cons_succ]
      refine wpAnyH_takeAt (v := ?_) (d := some 10) 8 rfl rfl (by kernel_rfl) (by kernel_rfl) (by kernel_rfl) (fun _ _ _ h => h) hHeld (by rfl) ?_ ?_
      rotate_left 1
      · (intro w' hS'; (try dsimp only at hS'); go_simp; (try with_reducible rfl))
      simp only [Act.put, List.setIfInBounds_toArray, List.set_cons_zero, List.set_cons_succ]
      refine wpAnyH_takeAt (v := ?_) (d := some 11) 9 rfl rfl (by kernel_rfl) (by kernel_rfl) (by kernel_rfl) (fun _ _ _ h => h) hHeld (by rfl) ?_ ?_
      rotate_left 1
      · (intro w' hS'; (try dsimp only at hS'); go_simp; (try with_reducible rfl))
      simp only [Act.put, List.setIfInBounds_toArray, List.set_cons_zero, List.set_cons_succ]
      refine wpAnyH_takeAt (v := ?_) (d := some 12) 10 rfl rfl (by kernel_rfl) (by kernel_rfl) (by kernel_rfl) (fun _ _ _ h => h) hHeld (by rfl) ?_ ?_
      rotate_left 1
      · (intro w' hS'; (try dsimp only at hS'); go_simp; (try with_reducible rfl))
      simp only [Act.put, List.setIfInBounds_toArray, List.set_cons_zero, List.set_cons_succ]
      refine wpAnyH_call (d := some 13) 11 44 _ _ [.string (bs second)] rfl rfl (by kernel_rfl) rfl (enters_of Tryz.func44 (by kernel_rfl) rfl) (by rfl) (by rfl) ?_
      refine (HS.out _).mono ?_; rintro e w5 ⟨rfl, hb1⟩
      have HB := Lib.hid (below_then HB.out hb1)
      have HK := Lib.hid (HK.out.below hb1)
      have HE := Lib.hid (HE.out.below hb1)
      have hHeld := (⟨HK.out.cell 1, HK.out.cell 3, HK.out.cell 4, HE.out.e.e4⟩ : (fun w' : World => w'.cell? ⟨b, 1, none⟩ = some (.string (bs what)) ∧ w'.cell? ⟨b, 3, none⟩ = some (.string (bs first)) ∧ w'.cell? ⟨b, 4, none⟩ = some (.string (bs second)) ∧ w'.cell? ⟨0, 0, none⟩ = some (errV (ea 4))) w5)
      refine ⟨_, rfl, _, fun _ h => h, hHeld, fun hHeld => ?_⟩
      simp only [Act.put, List.setIfInBounds_toArray, List.set_cons_zero, List.set_cons_succ]
      refine wpAnyH_takeAt (v := ?_) (d := some 14) 12 rfl rfl (by kernel_rfl) (by kernel_rfl) (by kernel_rfl) (fun _ _ _ h => h) hHeld (by rfl) ?_ ?_
      rotate_left 1
      · (intro w' hS'; (try dsimp only at hS'); go_simp; (try with_reducible rfl))
      simp only [Act.put, List.setIfInBounds_toArray, List.set_cons_zero, List.set_cons_succ]
      refine wpAnyH_call (d := some 16) 14 20 _ _ [.bool true, errV (ea 4)] rfl rfl (by kernel_rfl) rfl (enters_of Tryz.func20 (by kernel_rfl) rfl) (by rfl) (by rfl) ?_
      refine (fail_ok _ _).mono ?_; rintro e w5 ⟨rfl, rfl⟩
      refine ⟨_, rfl, _, fun _ h => h, hHeld, fun hHeld => ?_⟩
      simp only [Act.put, List.setIfInBounds_toArray, List.set_cons_zero, List.set_cons_succ]
      refine wpAnyH_done (by kernel_rfl) ?_ _
      have c0 := HK.out.cell 0
      have k1 := HE.out.e.e1
      dsimp only [ErrIs] at k1
      go_wp2_with (go_at_call 20; refine (fail_unless _ _ _ (by first | rfl | exact hs1)).mono ?_; rintro e w6 ⟨rfl, rfl⟩)
      exact ⟨rfl, rfl, HB.out⟩
theorem line1_of (e : Ev) (hs : evSizes e) (b : Nat) (ea : Int → Addr) (w : World) (h : Env ea w) (hp : Blk w b (evC e)) :
    Calls Tryz.prog 43 #[.pointer (some ⟨b, 0, none⟩)] w (Tries ea (tLineN e) (.string (bs (tLineOf e))) w) := by
  obtain ⟨step, what, node, first, second⟩ := e
  have hn : ∀ (c : Bool), (tWord what && tText first && tText second) = false → tLineN ⟨step, what, node, first, second⟩ = 4 := fun c hc => by
    unfold tLineN; dsimp only; rw [hc]; rfl
  cases h1 : tWord what with
  | false =>
    have e4 := hn true (by rw [h1]; rfl)
    refine tries_fails (by rw [e4]; decide) ?_
    rw [e4]
    exact line1_formA step node what first second h1 hs b ea w h.e hp
  | true =>
    cases h2 : tText first with
    | false =>
      have e4 := hn true (by rw [h1, h2]; rfl)
      refine tries_fails (by rw [e4]; decide) ?_
      rw [e4]
      exact line1_formB step node what first second h1 h2 hs b ea w h.e hp
    | true =>
      cases h3 : tText second with
      | false =>
        have e4 := hn true (by rw [h1, h2, h3]; rfl)
        refine tries_fails (by rw [e4]; decide) ?_
        rw [e4]
        exact line1_formC step node what first second h1 h2 h3 hs b ea w h.e hp
      | true => exact line1_rest step node what first second h1 h2 h3 hs b ea w h hp
abbrev evV (e : Ev) : Value := .agg (evC e)
theorem line_of (e : Ev) (hs : evSizes e) (ea : Int → Addr) (w : World) (h : Env ea w) :
    Calls Tryz.prog 16 #[evV e] w (Makes (.tuple #[.string (bs (tLine e)), errOf ea (tLineN e)]) w) := by
  have hmf : ∀ (fn : Fn) (first cap : Array Value) (w : World), (Instr.makeFunc fn first cap).run Tryz.prog w = .ok (.func fn first cap) w := fun _ _ _ _ => rfl
  have hB : Below w.heap.size w (w.alloc (.cells (evC e) 24)) := (Below.refl _ _).alloc (Nat.le_refl _) _
  have hc : ∀ W, Below (w.alloc (.cells (evC e) 24)).heap.size (w.alloc (.cells (evC e) 24)) W → Calls Tryz.prog 43 #[.pointer (some ⟨w.heap.size, 0, none⟩)] W (Tries ea (tLineN e) (.string (bs (tLineOf e))) W) := fun W hW =>
    line1_of e hs _ ea W ((h.below hB).below hW) ((Blk.fresh w (evC e) 24 _ rfl).below hW)
  unfold tLine errOf
  have hE := h.e.below hB
  have hln := line_num e
  obtain ⟨n, hn⟩ : ∃ n, n = tLineN e := ⟨_, rfl⟩
  rw [← hn] at hc hln ⊢
  obtain ⟨step, what, node, first, second⟩ := e
  by_cases h0 : n = 0
  · rw [if_pos h0, if_pos h0]
    have HT := Lib.hid (try_gives_line ⟨w.heap.size, 0, none⟩ _ _ (fun W hW => tries_makes' h0 (hc W hW)))
    clear h hc hE hln hn h0 hs
    dsimp only [evC, evV] at *
    go_enter Tryz.func16, Tryz.ntmps16
    go_wp2_with fail
    refine HT.out.mono ?_
    rintro e w1 ⟨rfl, hb1⟩
    go_wp2_with fail
    go_ret2
    exact ⟨rfl, below_then hB hb1⟩
  · rw [if_neg h0, if_neg h0]
    have HT := Lib.hid (try_dies_line ⟨w.heap.size, 0, none⟩ n (by omega) ea _ hE (fun W hW => tries_fails' h0 (hc W hW)))
    clear h hc hE hln hn h0 hs
    dsimp only [evC, evV] at *
    go_enter Tryz.func16, Tryz.ntmps16
    go_wp2_with fail
    refine HT.out.mono ?_
    rintro e w1 ⟨rfl, hb1⟩
    go_wp2_with fail
    go_ret2
    exact ⟨rfl, below_then hB hb1⟩
end Go.Proofs.YthjdaehiebcoaaaGreatDoor
