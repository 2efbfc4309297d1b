/- The walks of package trace: what a text means, a place, an event's line. -/
import Derived.Test.YthjdaehiebcoaaaGreatDoorRows
import Derived.WalkKit
import Derived.WalkSpells
import Derived.WalkLawsBesides
import Derived.BigQuiet
import Derived.Deep.QuietTactic
import Derived.StillTailTactics
import Derived.Handy
import Derived.Lib.Hide
import Derived.Test.YthjdaehiebcoaaaGreatDoorTrcB
import Derived.Test.YthjdaehiebcoaaaGreatDoorStep
set_option linter.unusedSimpArgs false
set_option linter.unusedVariables false
namespace Go.Proofs.YthjdaehiebcoaaaGreatDoor
open Go.RowKit

theorem dec_len : ∀ (k n : Nat), n < 10 ^ (k + 1) → (Lib.decDigits n).length ≤ k + 1
  | 0, n, h => by rw [Lib.decDigits, dif_pos (by omega)]; simp
  | k + 1, n, h => by
    rw [Lib.decDigits]
    split
    · simp
    · have := dec_len k (n / 10) (by rw [Nat.pow_succ] at h; omega)
      simp only [List.length_append, List.length_cons, List.length_nil]
      omega
theorem meant_yes (s : Str) (hs : s.length ≤ 100000) (hd : s = [45] ∨ s ≠ [] ∧ tText s = true) (ea : Int → Addr) (w : World) (h : Errs ea w) :
    Calls Tryz.prog 23 #[.string (bs s)] w (Makes (.string (bs (tMeant s))) w) := by
  have h4 : w.cell? ⟨0, 0, none⟩ = some (errV (ea 4)) := h.e4
  unfold tMeant
  by_cases h45 : s = [45]
  · rw [if_pos h45]
    have e1 : ((bs s).toList == [45]) = true := by rw [bs_toList, h45]; rfl
    clear h hd h45
    go_enter Tryz.func23, Tryz.ntmps23
    go_wp2_with fail
    go_ret
    exact ⟨rfl, by go_grown⟩
  · rw [if_neg h45]
    obtain ⟨h0, ht⟩ := hd.resolve_left h45
    have e1 : ((bs s).toList == [45]) = false := by rw [bs_toList]; simpa using h45
    have e2 : ((bs s).toList == []) = false := by rw [bs_toList]; simpa using h0
    have HT := Lib.hid (fun W => ht ▸ isText_of s W hs)
    have HE := Lib.hid h
    clear h hd h45 h0 ht
    go_enter Tryz.func23, Tryz.ntmps23
    go_wp2_with fail
    go_region_held3 (fun w' => w'.cell? ⟨0, 0, none⟩ = some (errV (ea 4))) (first | exact h4 | exact k4) (first | (go_at_call 44; refine (HT.out _).mono ?_; rintro e w1 ⟨rfl, hb1⟩; have B1 : Below w.heap.size w w1 := below_then (by go_grown) hb1; have k4 : w1.cell? ⟨0, 0, none⟩ = some (errV (ea 4)) := (HE.out.below B1).e4) | (go_at_call 20; refine (fail_if _ _ _ (by first | rfl)).mono ?_; rintro e w2 ⟨rfl, rfl⟩))
    all_goals go_wp2_with fail
    all_goals go_ret
    all_goals exact ⟨rfl, B1⟩
theorem meant_no (s : Str) (hs : s.length ≤ 100000) (h45 : s ≠ [45]) (hd : s = [] ∨ tText s = false) (ea : Int → Addr) (w : World) (h : Errs ea w) :
    Calls Tryz.prog 23 #[.string (bs s)] w (Fails (errV (ea 4)) w) := by
  have h4 : w.cell? ⟨0, 0, none⟩ = some (errV (ea 4)) := h.e4
  have e1 : ((bs s).toList == [45]) = false := by rw [bs_toList]; simpa using h45
  have B0 : Below w.heap.size w w.drew := (Below.refl _ _).drew
  by_cases h0 : s = []
  · have e2 : (bs s).toList = [] := by rw [bs_toList, h0]
    clear h hd h45 h0 e1
    go_enter Tryz.func23, Tryz.ntmps23
    go_wp2_with fail
    refine wp_region_quiet_tail 7 _ _ rfl rfl (by kernel_rfl) (by kernel_rfl) ?_; simp only [List.take_succ_cons, List.take_zero, List.drop_succ_cons, List.drop_zero]; (repeat (first | go_big_quiet_skip | (go_big_quiet_want; go_big_quiet_op; go_big_quiet_on))); refine wpQuiet_nil ?_
    go_wp2_with (go_at_call 20; refine (fail_unless _ _ _ (by first | rfl)).mono ?_; rintro e w1 ⟨rfl, rfl⟩)
    exact ⟨rfl, rfl, B0⟩
  · have ht := hd.resolve_left h0
    have e2 : ((bs s).toList == []) = false := by rw [bs_toList]; simpa using h0
    have HT := Lib.hid (fun W => ht ▸ isText_of s W hs)
    have HE := Lib.hid h
    clear h hd h45 h0 ht
    go_enter Tryz.func23, Tryz.ntmps23
    go_wp2_with fail
    refine wp_region_held_drew (S := fun w' => w'.cell? ⟨0, 0, none⟩ = some (errV (ea 4))) (by kernel_rfl) h4 (fun hHeld => ?_)
    refine wpAnyH_takeAt (v := ?_) (d := some 5) 0 rfl rfl (by kernel_rfl) (by kernel_rfl) (by kernel_rfl) (fun _ _ _ h => h) hHeld (by rfl) ?_ ?_
    rotate_left 1
    · (intro w' hS'; (try dsimp only at hS'); go_simp; (try with_reducible rfl))
    simp only [Act.put, List.setIfInBounds_toArray, List.set_cons_zero, List.set_cons_succ]
    refine wpAnyH_takeAt (v := ?_) (d := some 6) 1 rfl rfl (by kernel_rfl) (by kernel_rfl) (by kernel_rfl) (fun _ _ _ h => h) hHeld (by rfl) ?_ ?_
    rotate_left 1
    · (intro w' hS'; (try dsimp only at hS'); go_simp; (try with_reducible rfl))
    simp only [Act.put, List.setIfInBounds_toArray, List.set_cons_zero, List.set_cons_succ]
    refine wpAnyH_takeAt (v := ?_) (d := some 7) 2 rfl rfl (by kernel_rfl) (by kernel_rfl) (by kernel_rfl) (fun _ _ _ h => h) hHeld (by rfl) ?_ ?_
    rotate_left 1
    · (intro w' hS'; (try dsimp only at hS'); go_simp; (try with_reducible rfl))
    simp only [Act.put, List.setIfInBounds_toArray, List.set_cons_zero, List.set_cons_succ]
    refine wpAnyH_takeAt (v := ?_) (d := some 8) 3 rfl rfl (by kernel_rfl) (by kernel_rfl) (by kernel_rfl) (fun _ _ _ h => h) hHeld (by rfl) ?_ ?_
    rotate_left 1
    · (intro w' hS'; (try dsimp only at hS'); go_simp; (try with_reducible rfl))
    simp only [Act.put, List.setIfInBounds_toArray, List.set_cons_zero, List.set_cons_succ]
    refine wpAnyH_takeAt (v := ?_) (d := some 11) 6 rfl rfl (by kernel_rfl) (by kernel_rfl) (by kernel_rfl) (fun _ _ _ h => h) hHeld (by rfl) ?_ ?_
    rotate_left 1
    · (intro w' hS'; (try dsimp only at hS'); go_simp; (try with_reducible rfl))
    simp only [Act.put, List.setIfInBounds_toArray, List.set_cons_zero, List.set_cons_succ]
    refine wpAnyH_call (d := some 9) 4 44 _ _ [.string (bs s)] rfl rfl (by kernel_rfl) rfl (enters_of Tryz.func44 (by kernel_rfl) rfl) (by rfl) (by rfl) ?_
    refine (HT.out _).mono ?_; rintro e w5 ⟨rfl, hb1⟩
    have B1 : Below w.heap.size w w5 := below_then (by go_grown) hb1
    have hHeld := (HE.out.below B1).e4
    refine ⟨_, rfl, _, fun _ h => h, hHeld, fun hHeld => ?_⟩
    simp only [Act.put, List.setIfInBounds_toArray, List.set_cons_zero, List.set_cons_succ]
    refine wpAnyH_takeAt (v := ?_) (d := some 10) 5 rfl rfl (by kernel_rfl) (by kernel_rfl) (by kernel_rfl) (fun _ _ _ h => h) hHeld (by rfl) ?_ ?_
    rotate_left 1
    · (intro w' hS'; (try dsimp only at hS'); go_simp; (try with_reducible rfl))
    simp only [Act.put, List.setIfInBounds_toArray, List.set_cons_zero, List.set_cons_succ]
    refine wpAnyH_die [{ v := errV (ea 4), recovered := false }] 7 20 _ _ [.bool false, errV (ea 4)] rfl (by kernel_rfl) rfl (enters_of Tryz.func20 (by kernel_rfl) rfl) (by rfl) (by rfl) ?_
    refine (fail_no _ _).mono ?_; rintro e w6 ⟨rfl, rfl⟩; exact ⟨rfl, rfl, rfl, B1⟩
theorem idNumber_yes (n : Int) (m : Int) (h0 : 0 ≤ n) (h1 : n ≤ m) (hm : m ≤ 999999) (ea : Int → Addr) (w : World) (h : Env ea w) : Calls Tryz.prog 85 #[.int .i64 n, .int .i64 m] w (Makes (.string (bs (Lib.decDigits n.toNat))) w) := by
  have HI := Lib.hid (fun W hW => itoa_of n h0 (by omega) W hW)
  have HE := Lib.hid h
  clear h
  go_enter Tryz.func85, Tryz.ntmps85
  go_wp2_with fail
  refine (HI.out _ (HE.out.below (by go_grown)).tab).mono ?_
  rintro e w1 ⟨rfl, hb1⟩
  go_wp2_with fail
  go_ret
  exact ⟨rfl, below_then (by go_grown) hb1⟩
theorem idNumber_no (n : Int) (m : Int) (hn : n < 0 ∨ m < n) (ea : Int → Addr) (w : World) (h : Errs ea w) : Calls Tryz.prog 85 #[.int .i64 n, .int .i64 m] w (Fails (errV (ea 1)) w) := by
  have h1 : w.cell? ⟨1, 0, none⟩ = some (errV (ea 1)) := h.e1
  clear h
  by_cases hn0 : n < 0
  · clear hn
    go_enter Tryz.func85, Tryz.ntmps85
    go_wp2_with fail
    exact ⟨rfl, rfl, by go_grown⟩
  · have hm := hn.resolve_left hn0
    clear hn
    go_enter Tryz.func85, Tryz.ntmps85
    go_wp2_with fail
    exact ⟨rfl, rfl, by go_grown⟩
theorem idNode1_yes (n : Int) (h0 : 0 ≤ n) (h1 : n ≤ 3) (p : Addr) (ea : Int → Addr) (w : World) (h : Env ea w) (hp : w.cell? p = some (.int .i64 n)) : Calls Tryz.prog 84 #[.pointer (some p)] w (Makes (.string (bs (110 :: Lib.decDigits n.toNat))) w) := by
  have HI := Lib.hid (fun W hW => idNumber_yes n 3 h0 h1 (by omega) ea W hW)
  have HE := Lib.hid h
  have hz : (bs (Lib.decDigits n.toNat)).size ≤ 6 := by rw [bs_size]; exact dec_len 5 _ (by omega)
  have hb : (⟨#[110]⟩ : ByteArray) ++ bs (Lib.decDigits n.toNat) = bs (110 :: Lib.decDigits n.toNat) := by
    apply data_inj
    simp [bs]
  clear h
  go_enter Tryz.func84, Tryz.ntmps84
  go_wp2_with fail
  refine (HI.out _ (HE.out.below (by go_grown))).mono ?_
  rintro e w1 ⟨rfl, hb1⟩
  go_wp2_with fail
  go_ret
  exact ⟨rfl, below_then (by go_grown) hb1⟩
theorem idNode1_no (n : Int) (hn : n < 0 ∨ 3 < n) (p : Addr) (ea : Int → Addr) (w : World) (h : Errs ea w) (hp : w.cell? p = some (.int .i64 n)) : Calls Tryz.prog 84 #[.pointer (some p)] w (Fails (errV (ea 1)) w) := by
  have HI := Lib.hid (fun W hW => idNumber_no n 3 hn ea W hW)
  have HE := Lib.hid h
  clear h
  go_enter Tryz.func84, Tryz.ntmps84
  go_wp2_with fail
  refine (HI.out _ (HE.out.below (by go_grown))).mono ?_
  rintro e w1 ⟨rfl, hb1⟩
  go_wp2_with fail
  exact ⟨rfl, rfl, below_then (by go_grown) hb1⟩
end Go.Proofs.YthjdaehiebcoaaaGreatDoor
