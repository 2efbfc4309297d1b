/- The walk of liaisonref27.Line. -/
import Derived.Test.YthjdaehiebcoaaaGreatDoorRows
import Derived.WalkKit
import Derived.WalkSpells
import Derived.WalkLawsBesides
import Derived.BigQuiet
import Derived.Deep.QuietTactic
import Derived.StillTailTactics
import Derived.Handy
import Derived.Lib.Hide
import Derived.Test.YthjdaehiebcoaaaGreatDoorRefM
set_option linter.unusedSimpArgs false
set_option linter.unusedVariables false
namespace Go.Proofs.YthjdaehiebcoaaaGreatDoor
open Go.RowKit

set_option maxHeartbeats 1000000 in
theorem rline_no (step node : Int) (what first second : Str) (hs : evSizes ⟨step, what, node, first, second⟩) (hn : tLineN ⟨step, what, node, first, second⟩ ≠ 0) (w : World) :
    Calls Tryz.prog 41 #[evV ⟨step, what, node, first, second⟩] w (Makes (.tuple #[.string ⟨#[]⟩, .int .i64 (tLineN ⟨step, what, node, first, second⟩)]) w) := by
  obtain ⟨z1, z2, z3⟩ := hs
  dsimp only at z1 z2 z3
  have HW := Lib.hid (fun W => rword_of what W)
  have HF := Lib.hid (fun W => rtext_of first (Nat.le_trans z2 (by omega)) W)
  have HS := Lib.hid (fun W => rtext_of second (Nat.le_trans z3 (by omega)) W)
  clear z1 z2 z3
  unfold tLineN at hn ⊢
  dsimp only at hn ⊢
  dsimp only [evV, evC]
  cases h1 : tWord what with
  | false =>
    rw [h1] at HW
    rw [show (false && tText first && tText second) = false from rfl]
    simp only [Bool.false_eq_true, if_false]
    clear hn h1 HF HS
    go_enter Tryz.func41, Tryz.ntmps41
    go_wp2_with fail
    refine (HW.out _).mono ?_
    rintro e w1 ⟨rfl, rfl⟩
    go_wp2_with fail
    go_ret2
    exact ⟨rfl, by go_grown⟩
  | true =>
    rw [h1] at HW hn
    cases h2 : tText first with
    | false =>
      rw [h2] at HF
      rw [show (true && false && tText second) = false from rfl]
      simp only [Bool.false_eq_true, if_false]
      clear hn h1 h2 HS
      go_enter Tryz.func41, Tryz.ntmps41
      go_wp2_with fail
      refine (HW.out _).mono ?_
      rintro e w1 ⟨rfl, rfl⟩
      go_wp2_with fail
      refine (HF.out _).mono ?_
      rintro e w1 ⟨rfl, rfl⟩
      go_wp2_with fail
      go_ret2
      exact ⟨rfl, by go_grown⟩
    | true =>
      rw [h2] at HF hn
      cases h3 : tText second with
      | false =>
        rw [h3] at HS
        simp only [Bool.and_false, Bool.false_eq_true, if_false]
        clear hn h1 h2 h3
        go_enter Tryz.func41, Tryz.ntmps41
        go_wp2_with fail
        refine (HW.out _).mono ?_
        rintro e w1 ⟨rfl, rfl⟩
        go_wp2_with fail
        refine (HF.out _).mono ?_
        rintro e w1 ⟨rfl, rfl⟩
        go_wp2_with fail
        refine (HS.out _).mono ?_
        rintro e w1 ⟨rfl, rfl⟩
        go_wp2_with fail
        go_ret2
        exact ⟨rfl, by go_grown⟩
      | true =>
        rw [h3] at HS hn
        simp only [Bool.and_self, if_true] at hn ⊢
        have hr : ¬ (0 ≤ step ∧ step ≤ 999999 ∧ -1 ≤ node ∧ node ≤ 3) := fun h => hn (if_pos h)
        rw [if_neg hr]
        clear hn h1 h2 h3
        have hc : step < 0 ∨ (0 ≤ step ∧ 999999 < step) ∨ (0 ≤ step ∧ step ≤ 999999 ∧ node < -1) ∨ (0 ≤ step ∧ step ≤ 999999 ∧ -1 ≤ node ∧ 3 < node) := by omega
        clear hr
        go_enter Tryz.func41, Tryz.ntmps41
        go_wp2_with fail
        refine (HW.out _).mono ?_
        rintro e w1 ⟨rfl, rfl⟩
        go_wp2_with fail
        refine (HF.out _).mono ?_
        rintro e w1 ⟨rfl, rfl⟩
        go_wp2_with fail
        refine (HS.out _).mono ?_
        rintro e w1 ⟨rfl, rfl⟩
        rcases hc with hc | ⟨c1, c2⟩ | ⟨c1, c2, c3⟩ | ⟨c1, c2, c3, c4⟩
        all_goals
          go_wp2_with fail
          go_ret2
          exact ⟨rfl, by go_grown⟩
set_option maxHeartbeats 1000000 in
theorem rline_yes (step node : Int) (what first second : Str) (hs : evSizes ⟨step, what, node, first, second⟩) (hn : tLineN ⟨step, what, node, first, second⟩ = 0) (w : World) :
    Calls Tryz.prog 41 #[evV ⟨step, what, node, first, second⟩] w (Makes (.tuple #[.string (bs (tLineOf ⟨step, what, node, first, second⟩)), .int .i64 0]) w) := by
  obtain ⟨z1, z2, z3⟩ := hs
  dsimp only at z1 z2 z3
  have HW := Lib.hid (fun W => rword_of what W)
  have HF := Lib.hid (fun W => rtext_of first (Nat.le_trans z2 (by omega)) W)
  have HS := Lib.hid (fun W => rtext_of second (Nat.le_trans z3 (by omega)) W)
  unfold tLineN at hn
  dsimp only at hn
  cases h1 : tWord what with
  | false => rw [h1] at hn; cases hn
  | true =>
  cases h2 : tText first with
  | false => rw [h1, h2] at hn; cases hn
  | true =>
  cases h3 : tText second with
  | false => rw [h1, h2, h3] at hn; cases hn
  | true =>
  rw [h1, h2, h3] at hn
  rw [h1] at HW; rw [h2] at HF; rw [h3] at HS
  simp only [Bool.and_self, if_true] at hn
  have hr : 0 ≤ step ∧ step ≤ 999999 ∧ -1 ≤ node ∧ node ≤ 3 := by
    by_cases h : 0 ≤ step ∧ step ≤ 999999 ∧ -1 ≤ node ∧ node ≤ 3
    · exact h
    · rw [if_neg h] at hn; cases hn
  obtain ⟨s0, s1, n0, n1⟩ := hr
  clear hn h1 h2 h3
  obtain ⟨k, hk⟩ : ∃ k : Nat, step = (k : Int) := ⟨step.toNat, by omega⟩
  have hkt : step.toNat = k := by omega
  have HD := Lib.hid (fun W => rdigits_of k (by omega) W)
  have HG := Lib.hid (fun W => rshown_of first W)
  have HH := Lib.hid (fun W => rshown_of second W)
  have hdl := dec_len 5 k (by omega)
  have hpl : (tPlace node).length ≤ 7 := by
    unfold tPlace
    split
    · simp
    · have := dec_len 5 node.toNat (by omega)
      simp only [List.length_cons]; omega
  have q3 : ∀ x : Str, (tShown x).length ≤ x.length + 1 := fun x => by unfold tShown; split <;> simp_all
  have q4 := q3 first; have q5 := q3 second
  have happ : ∀ a b : Str, bs a ++ bs b = bs (a ++ b) := fun a b => by apply data_inj; simp [bs]
  have h32 : (⟨#[32]⟩ : ByteArray) = bs [32] := rfl
  obtain ⟨A0, hA0⟩ : ∃ A, A = bs (Lib.decDigits k) := ⟨_, rfl⟩
  obtain ⟨A1, hA1⟩ : ∃ A, A0 ++ ⟨#[32]⟩ = A := ⟨_, rfl⟩
  obtain ⟨A2, hA2⟩ : ∃ A, A1 ++ bs what = A := ⟨_, rfl⟩
  obtain ⟨A3, hA3⟩ : ∃ A, A2 ++ ⟨#[32]⟩ = A := ⟨_, rfl⟩
  obtain ⟨A4, hA4⟩ : ∃ A, A3 ++ bs (tPlace node) = A := ⟨_, rfl⟩
  obtain ⟨A5, hA5⟩ : ∃ A, A4 ++ ⟨#[32]⟩ = A := ⟨_, rfl⟩
  obtain ⟨A6, hA6⟩ : ∃ A, A5 ++ bs (tShown first) = A := ⟨_, rfl⟩
  obtain ⟨A7, hA7⟩ : ∃ A, A6 ++ ⟨#[32]⟩ = A := ⟨_, rfl⟩
  obtain ⟨A8, hA8⟩ : ∃ A, A7 ++ bs (tShown second) = A := ⟨_, rfl⟩
  have hsz1 : (⟨#[32]⟩ : ByteArray).size = 1 := rfl
  have y0 : A0.size ≤ 6 := by rw [hA0, bs_size]; exact hdl
  have y1 : A1.size ≤ 7 := by rw [← hA1, ByteArray.size_append, hsz1]; omega
  have y2 : A2.size ≤ 107 := by rw [← hA2, ByteArray.size_append, bs_size]; omega
  have y3 : A3.size ≤ 108 := by rw [← hA3, ByteArray.size_append, hsz1]; omega
  have y4 : A4.size ≤ 115 := by rw [← hA4, ByteArray.size_append, bs_size]; omega
  have y5 : A5.size ≤ 116 := by rw [← hA5, ByteArray.size_append, hsz1]; omega
  have y6 : A6.size ≤ 517 := by rw [← hA6, ByteArray.size_append, bs_size]; omega
  have y7 : A7.size ≤ 518 := by rw [← hA7, ByteArray.size_append, hsz1]; omega
  have l1 : ¬ 9223372036854775807 < A0.size + 1 := by omega
  have l2 : ¬ 9223372036854775807 < A1.size + (bs what).size := by rw [bs_size]; omega
  have l3 : ¬ 9223372036854775807 < A2.size + 1 := by omega
  have l4 : ¬ 9223372036854775807 < A3.size + (bs (tPlace node)).size := by rw [bs_size]; omega
  have l5 : ¬ 9223372036854775807 < A4.size + 1 := by omega
  have l6 : ¬ 9223372036854775807 < A5.size + (bs (tShown first)).size := by rw [bs_size]; omega
  have l7 : ¬ 9223372036854775807 < A6.size + 1 := by omega
  have l8 : ¬ 9223372036854775807 < A7.size + (bs (tShown second)).size := by rw [bs_size]; omega
  have hline : bs (tLineOf ⟨step, what, node, first, second⟩) = A8 := by
    unfold tLineOf
    dsimp only
    rw [hkt, ← hA8, ← hA7, ← hA6, ← hA5, ← hA4, ← hA3, ← hA2, ← hA1, hA0, h32]
    simp only [happ, List.append_assoc, List.singleton_append, List.cons_append, List.nil_append]
  rw [hline]
  rw [← hA0] at HD
  have s0' : 0 ≤ (k : Int) := by omega
  have s1' : (k : Int) ≤ 999999 := by omega
  subst hk
  clear hkt hdl hpl q3 q4 q5 happ h32 z1 z2 z3 y0 y1 y2 y3 y4 y5 y6 y7 hA0 hline s0
  dsimp only [evV, evC]
  by_cases hm : node = -1
  · subst hm
    rw [show tPlace (-1) = [45] from rfl] at hA4 l4
    rw [show bs [45] = ⟨#[45]⟩ from rfl] at hA4 l4
    rw [show (⟨#[45]⟩ : ByteArray).size = 1 from rfl] at l4
    clear n0 n1
    go_enter Tryz.func41, Tryz.ntmps41
    go_wp2_with fail
    refine (HW.out _).mono ?_
    rintro e w1 ⟨rfl, rfl⟩
    go_wp2_with fail
    refine (HF.out _).mono ?_
    rintro e w1 ⟨rfl, rfl⟩
    go_wp2_with fail
    refine (HS.out _).mono ?_
    rintro e w1 ⟨rfl, rfl⟩
    go_wp2_with fail
    have HB := Lib.hid (((Below.refl w.heap.size w).alloc (Nat.le_refl _) (.cells #[.int .i64 (k : Int), .string (bs what), .int .i64 (-1), .string (bs first), .string (bs second)] 29)).drew)
    have HK := Lib.hid ((Blk.fresh w #[.int .i64 (k : Int), .string (bs what), .int .i64 (-1), .string (bs first), .string (bs second)] 29 _ rfl).drew)
    refine wp_region_held_drew (S := fun w' => w'.cell? ⟨w.heap.size, 0, none⟩ = some (.int .i64 (k : Int)) ∧ w'.cell? ⟨w.heap.size, 1, none⟩ = some (.string (bs what)) ∧ w'.cell? ⟨w.heap.size, 2, none⟩ = some (.int .i64 (-1)) ∧ w'.cell? ⟨w.heap.size, 3, none⟩ = some (.string (bs first)) ∧ w'.cell? ⟨w.heap.size, 4, none⟩ = some (.string (bs second))) (by kernel_rfl) ⟨HK.out.cell 0, HK.out.cell 1, HK.out.cell 2, HK.out.cell 3, HK.out.cell 4⟩ (fun hHeld => ?_)
    refine wpAnyH_takeAt (v := ?_) (d := some 46) 0 rfl rfl (by kernel_rfl) (by kernel_rfl) (by kernel_rfl) (fun _ _ _ h => h) hHeld (by rfl) ?_ ?_
    rotate_left 1
    · (intro w' hS'; (try dsimp only at hS'); go_simp; (try with_reducible rfl))
    simp only [Act.put, List.setIfInBounds_toArray, List.set_cons_zero, List.set_cons_succ]
    refine wpAnyH_takeAt (v := ?_) (d := some 47) 1 rfl rfl (by kernel_rfl) (by kernel_rfl) (by kernel_rfl) (fun _ _ _ h => h) hHeld (by rfl) ?_ ?_
    rotate_left 1
    · (intro w' hS'; (try dsimp only at hS'); go_simp; (try with_reducible rfl))
    simp only [Act.put, List.setIfInBounds_toArray, List.set_cons_zero, List.set_cons_succ]
    refine wpAnyH_takeAt (v := ?_) (d := some 50) 4 rfl rfl (by kernel_rfl) (by kernel_rfl) (by kernel_rfl) (fun _ _ _ h => h) hHeld (by rfl) ?_ ?_
    rotate_left 1
    · (intro w' hS'; (try dsimp only at hS'); go_simp; (try with_reducible rfl))
    simp only [Act.put, List.setIfInBounds_toArray, List.set_cons_zero, List.set_cons_succ]
    refine wpAnyH_takeAt (v := ?_) (d := some 51) 5 rfl rfl (by kernel_rfl) (by kernel_rfl) (by kernel_rfl) (fun _ _ _ h => h) hHeld (by rfl) ?_ ?_
    rotate_left 1
    · (intro w' hS'; (try dsimp only at hS'); go_simp; (try with_reducible rfl))
    simp only [Act.put, List.setIfInBounds_toArray, List.set_cons_zero, List.set_cons_succ]
    refine wpAnyH_takeAt (v := ?_) (d := some 54) 8 rfl rfl (by kernel_rfl) (by kernel_rfl) (by kernel_rfl) (fun _ _ _ h => h) hHeld (by rfl) ?_ ?_
    rotate_left 1
    · (intro w' hS'; (try dsimp only at hS'); go_simp; (try with_reducible rfl))
    simp only [Act.put, List.setIfInBounds_toArray, List.set_cons_zero, List.set_cons_succ]
    refine wpAnyH_takeAt (v := ?_) (d := some 57) 11 rfl rfl (by kernel_rfl) (by kernel_rfl) (by kernel_rfl) (fun _ _ _ h => h) hHeld (by rfl) ?_ ?_
    rotate_left 1
    · (intro w' hS'; (try dsimp only at hS'); go_simp; (try with_reducible rfl))
    simp only [Act.put, List.setIfInBounds_toArray, List.set_cons_zero, List.set_cons_succ]
    refine wpAnyH_takeAt (v := ?_) (d := some 58) 12 rfl rfl (by kernel_rfl) (by kernel_rfl) (by kernel_rfl) (fun _ _ _ h => h) hHeld (by rfl) ?_ ?_
    rotate_left 1
    · (intro w' hS'; (try dsimp only at hS'); go_simp; (try with_reducible rfl))
    simp only [Act.put, List.setIfInBounds_toArray, List.set_cons_zero, List.set_cons_succ]
    refine wpAnyH_takeAt (v := ?_) (d := some 62) 16 rfl rfl (by kernel_rfl) (by kernel_rfl) (by kernel_rfl) (fun _ _ _ h => h) hHeld (by rfl) ?_ ?_
    rotate_left 1
    · (intro w' hS'; (try dsimp only at hS'); go_simp; (try with_reducible rfl))
    simp only [Act.put, List.setIfInBounds_toArray, List.set_cons_zero, List.set_cons_succ]
    refine wpAnyH_takeAt (v := ?_) (d := some 63) 17 rfl rfl (by kernel_rfl) (by kernel_rfl) (by kernel_rfl) (fun _ _ _ h => h) hHeld (by rfl) ?_ ?_
    rotate_left 1
    · (intro w' hS'; (try dsimp only at hS'); go_simp; (try with_reducible rfl))
    simp only [Act.put, List.setIfInBounds_toArray, List.set_cons_zero, List.set_cons_succ]
    refine wpAnyH_call (d := some 48) 2 67 _ _ [.int .i64 (k : Int)] rfl rfl (by kernel_rfl) rfl (enters_of Tryz.func67 (by kernel_rfl) rfl) (by rfl) (by rfl) ?_
    refine (HD.out _).mono ?_; rintro e w5 ⟨rfl, hb1⟩
    have HB := Lib.hid (below_then HB.out hb1)
    have HK := Lib.hid (HK.out.below hb1)
    have hHeld := (⟨HK.out.cell 0, HK.out.cell 1, HK.out.cell 2, HK.out.cell 3, HK.out.cell 4⟩ : (fun w' : World => w'.cell? ⟨w.heap.size, 0, none⟩ = some (.int .i64 (k : Int)) ∧ w'.cell? ⟨w.heap.size, 1, none⟩ = some (.string (bs what)) ∧ w'.cell? ⟨w.heap.size, 2, none⟩ = some (.int .i64 (-1)) ∧ w'.cell? ⟨w.heap.size, 3, none⟩ = some (.string (bs first)) ∧ w'.cell? ⟨w.heap.size, 4, none⟩ = some (.string (bs second))) w5)
    refine ⟨_, rfl, _, fun _ h => h, hHeld, fun hHeld => ?_⟩
    simp only [Act.put, List.setIfInBounds_toArray, List.set_cons_zero, List.set_cons_succ]
    refine wpAnyH_takeAt (v := ?_) (d := some 49) 3 rfl rfl (by kernel_rfl) (by kernel_rfl) (by kernel_rfl) (fun _ _ _ h => h) hHeld (by rfl) ?_ ?_
    rotate_left 1
    · (intro w' hS'; (try dsimp only at hS'); go_simp; (try with_reducible rfl))
    simp only [Act.put, List.setIfInBounds_toArray, List.set_cons_zero, List.set_cons_succ]
    refine wpAnyH_takeAt (v := ?_) (d := some 52) 6 rfl rfl (by kernel_rfl) (by kernel_rfl) (by kernel_rfl) (fun _ _ _ h => h) hHeld (by rfl) ?_ ?_
    rotate_left 1
    · (intro w' hS'; (try dsimp only at hS'); go_simp; (try with_reducible rfl))
    simp only [Act.put, List.setIfInBounds_toArray, List.set_cons_zero, List.set_cons_succ]
    refine wpAnyH_takeAt (v := ?_) (d := some 53) 7 rfl rfl (by kernel_rfl) (by kernel_rfl) (by kernel_rfl) (fun _ _ _ h => h) hHeld (by rfl) ?_ ?_
    rotate_left 1
    · (intro w' hS'; (try dsimp only at hS'); go_simp; (try with_reducible rfl))
    simp only [Act.put, List.setIfInBounds_toArray, List.set_cons_zero, List.set_cons_succ]
    refine wpAnyH_takeAt (v := ?_) (d := some 55) 9 rfl rfl (by kernel_rfl) (by kernel_rfl) (by kernel_rfl) (fun _ _ _ h => h) hHeld (by rfl) ?_ ?_
    rotate_left 1
    · (intro w' hS'; (try dsimp only at hS'); go_simp; (try with_reducible rfl))
    simp only [Act.put, List.setIfInBounds_toArray, List.set_cons_zero, List.set_cons_succ]
    refine wpAnyH_takeAt (v := ?_) (d := some 56) 10 rfl rfl (by kernel_rfl) (by kernel_rfl) (by kernel_rfl) (fun _ _ _ h => h) hHeld (by rfl) ?_ ?_
    rotate_left 1
    · (intro w' hS'; (try dsimp only at hS'); go_simp; (try with_reducible rfl))
    simp only [Act.put, List.setIfInBounds_toArray, List.set_cons_zero, List.set_cons_succ]
    refine wpAnyH_call (d := some 59) 13 68 _ _ [.string (bs first)] rfl rfl (by kernel_rfl) rfl (enters_of Tryz.func68 (by kernel_rfl) rfl) (by rfl) (by rfl) ?_
    refine (HG.out _).mono ?_; rintro e w5 ⟨rfl, rfl⟩
    refine ⟨_, rfl, _, fun _ h => h, hHeld, fun hHeld => ?_⟩
    simp only [Act.put, List.setIfInBounds_toArray, List.set_cons_zero, List.set_cons_succ]
    refine wpAnyH_takeAt (v := ?_) (d := some 60) 14 rfl rfl (by kernel_rfl) (by kernel_rfl) (by kernel_rfl) (fun _ _ _ h => h) hHeld (by rfl) ?_ ?_
    rotate_left 1
    · (intro w' hS'; (try dsimp only at hS'); go_simp; (try with_reducible rfl))
    simp only [Act.put, List.setIfInBounds_toArray, List.set_cons_zero, List.set_cons_succ]
    refine wpAnyH_takeAt (v := ?_) (d := some 61) 15 rfl rfl (by kernel_rfl) (by kernel_rfl) (by kernel_rfl) (fun _ _ _ h => h) hHeld (by rfl) ?_ ?_
    rotate_left 1
    · (intro w' hS'; (try dsimp only at hS'); go_simp; (try with_reducible rfl))
    simp only [Act.put, List.setIfInBounds_toArray, List.set_cons_zero, List.set_cons_succ]
    refine wpAnyH_call (d := some 64) 18 68 _ _ [.string (bs second)] rfl rfl (by kernel_rfl) rfl (enters_of Tryz.func68 (by kernel_rfl) rfl) (by rfl) (by rfl) ?_
    refine (HH.out _).mono ?_; rintro e w5 ⟨rfl, rfl⟩
    refine ⟨_, rfl, _, fun _ h => h, hHeld, fun hHeld => ?_⟩
    simp only [Act.put, List.setIfInBounds_toArray, List.set_cons_zero, List.set_cons_succ]
    refine wpAnyH_takeAt (v := ?_) (d := some 65) 19 rfl rfl (by kernel_rfl) (by kernel_rfl) (by kernel_rfl) (fun _ _ _ h => h) hHeld (by rfl) ?_ ?_
    rotate_left 1
    · (intro w' hS'; (try dsimp only at hS'); go_simp; (try with_reducible rfl))
    simp only [Act.put, List.setIfInBounds_toArray, List.set_cons_zero, List.set_cons_succ]
    refine wpAnyH_takeAt (v := ?_) (d := some 2) 20 rfl rfl (by kernel_rfl) (by kernel_rfl) (by kernel_rfl) (fun _ _ _ h => h) hHeld (by rfl) ?_ ?_
    rotate_left 1
    · (intro w' hS'; (try dsimp only at hS'); go_simp; (try with_reducible rfl))
    simp only [Act.put, List.setIfInBounds_toArray, List.set_cons_zero, List.set_cons_succ]
    refine wpAnyH_takeAt (v := ?_) (d := some 3) 21 rfl rfl (by kernel_rfl) (by kernel_rfl) (by kernel_rfl) (fun _ _ _ h => h) hHeld (by rfl) ?_ ?_
    rotate_left 1
    · (intro w' hS'; (try dsimp only at hS'); go_simp; (try with_reducible rfl))
    simp only [Act.put, List.setIfInBounds_toArray, List.set_cons_zero, List.set_cons_succ]
    refine wpAnyH_done (by kernel_rfl) ?_ _
    go_wp2_with fail
    go_ret2
    exact ⟨rfl, HB.out⟩
  · have h0 : 0 ≤ node := by omega
    obtain ⟨m, rfl⟩ : ∃ m : Nat, node = (m : Int) := ⟨node.toNat, by omega⟩
    have HM := Lib.hid (fun W => rdigits_of m (by omega) W)
    have hpn : tPlace (m : Int) = 110 :: Lib.decDigits m := by unfold tPlace; rw [if_neg hm]; rfl
    have hz : (bs (Lib.decDigits m)).size ≤ 6 := by rw [bs_size]; exact dec_len 5 _ (by omega)
    have hb : (⟨#[110]⟩ : ByteArray) ++ bs (Lib.decDigits m) = bs (tPlace (m : Int)) := by
      rw [hpn]
      apply data_inj
      simp [bs]
    clear hm hpn
    go_enter Tryz.func41, Tryz.ntmps41
    go_wp2_with fail
    refine (HW.out _).mono ?_
    rintro e w1 ⟨rfl, rfl⟩
    go_wp2_with fail
    refine (HF.out _).mono ?_
    rintro e w1 ⟨rfl, rfl⟩
    go_wp2_with fail
    refine (HS.out _).mono ?_
    rintro e w1 ⟨rfl, rfl⟩
    have HB := Lib.hid ((Below.refl w.heap.size w).alloc (Nat.le_refl _) (.cells #[.int .i64 (k : Int), .string (bs what), .int .i64 (m : Int), .string (bs first), .string (bs second)] 29))
    have HK := Lib.hid (Blk.fresh w #[.int .i64 (k : Int), .string (bs what), .int .i64 (m : Int), .string (bs first), .string (bs second)] 29 _ rfl)
    go_wp2_with fail
    refine (HM.out _).mono ?_
    rintro e w1 ⟨rfl, hb1⟩
    have HB := Lib.hid (below_then HB.out hb1); have HK := Lib.hid (HK.out.below hb1)
    go_wp2_with fail
    have HB := Lib.hid HB.out.drew; have HK := Lib.hid HK.out.drew
    refine wp_region_held_drew (S := fun w' => w'.cell? ⟨w.heap.size, 0, none⟩ = some (.int .i64 (k : Int)) ∧ w'.cell? ⟨w.heap.size, 1, none⟩ = some (.string (bs what)) ∧ w'.cell? ⟨w.heap.size, 2, none⟩ = some (.int .i64 (m : Int)) ∧ w'.cell? ⟨w.heap.size, 3, none⟩ = some (.string (bs first)) ∧ w'.cell? ⟨w.heap.size, 4, none⟩ = some (.string (bs second))) (by kernel_rfl) ⟨HK.out.cell 0, HK.out.cell 1, HK.out.cell 2, HK.out.cell 3, HK.out.cell 4⟩ (fun hHeld => ?_)
    refine wpAnyH_takeAt (v := ?_) (d := some 46) 0 rfl rfl (by kernel_rfl) (by kernel_rfl) (by kernel_rfl) (fun _ _ _ h => h) hHeld (by rfl) ?_ ?_
    rotate_left 1
    · (intro w' hS'; (try dsimp only at hS'); go_simp; (try with_reducible rfl))
    simp only [Act.put, List.setIfInBounds_toArray, List.set_cons_zero, List.set_cons_succ]
    refine wpAnyH_takeAt (v := ?_) (d := some 47) 1 rfl rfl (by kernel_rfl) (by kernel_rfl) (by kernel_rfl) (fun _ _ _ h => h) hHeld (by rfl) ?_ ?_
    rotate_left 1
    · (intro w' hS'; (try dsimp only at hS'); go_simp; (try with_reducible rfl))
    simp only [Act.put, List.setIfInBounds_toArray, List.set_cons_zero, List.set_cons_succ]
    refine wpAnyH_takeAt (v := ?_) (d := some 50) 4 rfl rfl (by kernel_rfl) (by kernel_rfl) (by kernel_rfl) (fun _ _ _ h => h) hHeld (by rfl) ?_ ?_
    rotate_left 1
    · (intro w' hS'; (try dsimp only at hS'); go_simp; (try with_reducible rfl))
    simp only [Act.put, List.setIfInBounds_toArray, List.set_cons_zero, List.set_cons_succ]
    refine wpAnyH_takeAt (v := ?_) (d := some 51) 5 rfl rfl (by kernel_rfl) (by kernel_rfl) (by kernel_rfl) (fun _ _ _ h => h) hHeld (by rfl) ?_ ?_
    rotate_left 1
    · (intro w' hS'; (try dsimp only at hS'); go_simp; (try with_reducible rfl))
    simp only [Act.put, List.setIfInBounds_toArray, List.set_cons_zero, List.set_cons_succ]
    refine wpAnyH_takeAt (v := ?_) (d := some 54) 8 rfl rfl (by kernel_rfl) (by kernel_rfl) (by kernel_rfl) (fun _ _ _ h => h) hHeld (by rfl) ?_ ?_
    rotate_left 1
    · (intro w' hS'; (try dsimp only at hS'); go_simp; (try with_reducible rfl))
    simp only [Act.put, List.setIfInBounds_toArray, List.set_cons_zero, List.set_cons_succ]
    refine wpAnyH_takeAt (v := ?_) (d := some 57) 11 rfl rfl (by kernel_rfl) (by kernel_rfl) (by kernel_rfl) (fun _ _ _ h => h) hHeld (by rfl) ?_ ?_
    rotate_left 1
    · (intro w' hS'; (try dsimp only at hS'); go_simp; (try with_reducible rfl))
    simp only [Act.put, List.setIfInBounds_toArray, List.set_cons_zero, List.set_cons_succ]
    refine wpAnyH_takeAt (v := ?_) (d := some 58) 12 rfl rfl (by kernel_rfl) (by kernel_rfl) (by kernel_rfl) (fun _ _ _ h => h) hHeld (by rfl) ?_ ?_
    rotate_left 1
    · (intro w' hS'; (try dsimp only at hS'); go_simp; (try with_reducible rfl))
    simp only [Act.put, List.setIfInBounds_toArray, List.set_cons_zero, List.set_cons_succ]
    refine wpAnyH_takeAt (v := ?_) (d := some 62) 16 rfl rfl (by kernel_rfl) (by kernel_rfl) (by kernel_rfl) (fun _ _ _ h => h) hHeld (by rfl) ?_ ?_
    rotate_left 1
    · (intro w' hS'; (try dsimp only at hS'); go_simp; (try with_reducible rfl))
    simp only [Act.put, List.setIfInBounds_toArray, List.set_cons_zero, List.set_cons_succ]
    refine wpAnyH_takeAt (v := ?_) (d := some 63) 17 rfl rfl (by kernel_rfl) (by kernel_rfl) (by kernel_rfl) (fun _ _ _ h => h) hHeld (by rfl) ?_ ?_
    rotate_left 1
    · (intro w' hS'; (try dsimp only at hS'); go_simp; (try with_reducible rfl))
    simp only [Act.put, List.setIfInBounds_toArray, List.set_cons_zero, List.set_cons_succ]
    refine wpAnyH_call (d := some 48) 2 67 _ _ [.int .i64 (k : Int)] rfl rfl (by kernel_rfl) rfl (enters_of Tryz.func67 (by kernel_rfl) rfl) (by rfl) (by rfl) ?_
    refine (HD.out _).mono ?_; rintro e w5 ⟨rfl, hb1⟩
    have HB := Lib.hid (below_then HB.out hb1)
    have HK := Lib.hid (HK.out.below hb1)
    have hHeld := (⟨HK.out.cell 0, HK.out.cell 1, HK.out.cell 2, HK.out.cell 3, HK.out.cell 4⟩ : (fun w' : World => w'.cell? ⟨w.heap.size, 0, none⟩ = some (.int .i64 (k : Int)) ∧ w'.cell? ⟨w.heap.size, 1, none⟩ = some (.string (bs what)) ∧ w'.cell? ⟨w.heap.size, 2, none⟩ = some (.int .i64 (m : Int)) ∧ w'.cell? ⟨w.heap.size, 3, none⟩ = some (.string (bs first)) ∧ w'.cell? ⟨w.heap.size, 4, none⟩ = some (.string (bs second))) w5)
    refine ⟨_, rfl, _, fun _ h => h, hHeld, fun hHeld => ?_⟩
    simp only [Act.put, List.setIfInBounds_toArray, List.set_cons_zero, List.set_cons_succ]
    refine wpAnyH_takeAt (v := ?_) (d := some 49) 3 rfl rfl (by kernel_rfl) (by kernel_rfl) (by kernel_rfl) (fun _ _ _ h => h) hHeld (by rfl) ?_ ?_
    rotate_left 1
    · (intro w' hS'; (try dsimp only at hS'); go_simp; (try with_reducible rfl))
    simp only [Act.put, List.setIfInBounds_toArray, List.set_cons_zero, List.set_cons_succ]
    refine wpAnyH_takeAt (v := ?_) (d := some 52) 6 rfl rfl (by kernel_rfl) (by kernel_rfl) (by kernel_rfl) (fun _ _ _ h => h) hHeld (by rfl) ?_ ?_
    rotate_left 1
    · (intro w' hS'; (try dsimp only at hS'); go_simp; (try with_reducible rfl))
    simp only [Act.put, List.setIfInBounds_toArray, List.set_cons_zero, List.set_cons_succ]
    refine wpAnyH_takeAt (v := ?_) (d := some 53) 7 rfl rfl (by kernel_rfl) (by kernel_rfl) (by kernel_rfl) (fun _ _ _ h => h) hHeld (by rfl) ?_ ?_
    rotate_left 1
    · (intro w' hS'; (try dsimp only at hS'); go_simp; (try with_reducible rfl))
    simp only [Act.put, List.setIfInBounds_toArray, List.set_cons_zero, List.set_cons_succ]
    refine wpAnyH_takeAt (v := ?_) (d := some 55) 9 rfl rfl (by kernel_rfl) (by kernel_rfl) (by kernel_rfl) (fun _ _ _ h => h) hHeld (by rfl) ?_ ?_
    rotate_left 1
    · (intro w' hS'; (try dsimp only at hS'); go_simp; (try with_reducible rfl))
    simp only [Act.put, List.setIfInBounds_toArray, List.set_cons_zero, List.set_cons_succ]
    refine wpAnyH_takeAt (v := ?_) (d := some 56) 10 rfl rfl (by kernel_rfl) (by kernel_rfl) (by kernel_rfl) (fun _ _ _ h => h) hHeld (by rfl) ?_ ?_
    rotate_left 1
    · (intro w' hS'; (try dsimp only at hS'); go_simp; (try with_reducible rfl))
    simp only [Act.put, List.setIfInBounds_toArray, List.set_cons_zero, List.set_cons_succ]
    refine wpAnyH_call (d := some 59) 13 68 _ _ [.string (bs first)] rfl rfl (by kernel_rfl) rfl (enters_of Tryz.func68 (by kernel_rfl) rfl) (by rfl) (by rfl) ?_
    refine (HG.out _).mono ?_; rintro e w5 ⟨rfl, rfl⟩
    refine ⟨_, rfl, _, fun _ h => h, hHeld, fun hHeld => ?_⟩
    simp only [Act.put, List.setIfInBounds_toArray, List.set_cons_zero, List.set_cons_succ]
    refine wpAnyH_takeAt (v := ?_) (d := some 60) 14 rfl rfl (by kernel_rfl) (by kernel_rfl) (by kernel_rfl) (fun _ _ _ h => h) hHeld (by rfl) ?_ ?_
    rotate_left 1
    · (intro w' hS'; (try dsimp only at hS'); go_simp; (try with_reducible rfl))
    simp only [Act.put, List.setIfInBounds_toArray, List.set_cons_zero, List.set_cons_succ]
    refine wpAnyH_takeAt (v := ?_) (d := some 61) 15 rfl rfl (by kernel_rfl) (by kernel_rfl) (by kernel_rfl) (fun _ _ _ h => h) hHeld (by rfl) ?_ ?_
    rotate_left 1
    · (intro w' hS'; (try dsimp only at hS'); go_simp; (try with_reducible rfl))
    simp only [Act.put, List.setIfInBounds_toArray, List.set_cons_zero, List.set_cons_succ]
    refine wpAnyH_call (d := some 64) 18 68 _ _ [.string (bs second)] rfl rfl (by kernel_rfl) rfl (enters_of Tryz.func68 (by kernel_rfl) rfl) (by rfl) (by rfl) ?_
    refine (HH.out _).mono ?_; rintro e w5 ⟨rfl, rfl⟩
    refine ⟨_, rfl, _, fun _ h => h, hHeld, fun hHeld => ?_⟩
    simp only [Act.put, List.setIfInBounds_toArray, List.set_cons_zero, List.set_cons_succ]
    refine wpAnyH_takeAt (v := ?_) (d := some 65) 19 rfl rfl (by kernel_rfl) (by kernel_rfl) (by kernel_rfl) (fun _ _ _ h => h) hHeld (by rfl) ?_ ?_
    rotate_left 1
    · (intro w' hS'; (try dsimp only at hS'); go_simp; (try with_reducible rfl))
    simp only [Act.put, List.setIfInBounds_toArray, List.set_cons_zero, List.set_cons_succ]
    refine wpAnyH_takeAt (v := ?_) (d := some 2) 20 rfl rfl (by kernel_rfl) (by kernel_rfl) (by kernel_rfl) (fun _ _ _ h => h) hHeld (by rfl) ?_ ?_
    rotate_left 1
    · (intro w' hS'; (try dsimp only at hS'); go_simp; (try with_reducible rfl))
    simp only [Act.put, List.setIfInBounds_toArray, List.set_cons_zero, List.set_cons_succ]
    refine wpAnyH_takeAt (v := ?_) (d := some 3) 21 rfl rfl (by kernel_rfl) (by kernel_rfl) (by kernel_rfl) (fun _ _ _ h => h) hHeld (by rfl) ?_ ?_
    rotate_left 1
    · (intro w' hS'; (try dsimp only at hS'); go_simp; (try with_reducible rfl))
    simp only [Act.put, List.setIfInBounds_toArray, List.set_cons_zero, List.set_cons_succ]
    refine wpAnyH_done (by kernel_rfl) ?_ _
    go_wp2_with fail
    go_ret2
    exact ⟨rfl, HB.out⟩
theorem rline_of (e : Ev) (hs : evSizes e) (w : World) : Calls Tryz.prog 41 #[evV e] w (Makes (.tuple #[.string (bs (tLine e)), .int .i64 (tLineN e)]) w) := by
  obtain ⟨step, what, node, first, second⟩ := e
  unfold tLine
  by_cases h : tLineN ⟨step, what, node, first, second⟩ = 0
  · rw [if_pos h, h]
    exact rline_yes step node what first second hs h w
  · rw [if_neg h]
    exact rline_no step node what first second hs h w
end Go.Proofs.YthjdaehiebcoaaaGreatDoor
