/- The order of floats, the program's (floats.Order) and the reference's (liaisonref01.Order), at all floats. -/
import Derived.Test.YtkidljiffeonjaaDoorRows
import Derived.WalkKit
import Derived.WalkSpells
import Derived.WalkLawsBesides
import Derived.BigQuiet
import Derived.Deep.QuietTactic
import Derived.StillTailTactics
import Derived.Handy
import Derived.Lib.Hide
import Derived.Test.YtkidljiffeonjaaDoorFlB
set_option linter.unusedSimpArgs false
set_option linter.unusedVariables false
namespace Go.Proofs.YtkidljiffeonjaaDoor
open Go.RowKit

def fcp (a b : Int) : Int := if a < b then -1 else if b < a then 1 else 0
theorem notnan_of (a : Int) (w : World) : Calls Tryd.prog 153 #[.int .i64 a] w (Gives (.bool false) w) := by
  go_enter Tryd.func153, Tryd.ntmps153
  go_wp2
  go_ret
  exact ⟨ret_bool (by simp), rfl⟩
theorem cmpInt_of (a b : Int) (w : World) : Calls Tryd.prog 114 #[.int .i64 a, .int .i64 b] w (Gives (.int .i64 (fcp a b)) w) := by
  have HN := Lib.hid notnan_of
  unfold fcp
  by_cases h1 : a < b
  · rw [if_pos h1]
    go_enter Tryd.func114, Tryd.ntmps114
    go_wp2_with (go_at_call 153; refine (HN.out _ _).mono ?_; rintro e w1 ⟨rfl, rfl⟩)
    go_ret
    exact ⟨rfl, rfl⟩
  rw [if_neg h1]
  by_cases h2 : b < a
  · rw [if_pos h2]
    go_enter Tryd.func114, Tryd.ntmps114
    go_wp2_with (go_at_call 153; refine (HN.out _ _).mono ?_; rintro e w1 ⟨rfl, rfl⟩)
    go_ret
    exact ⟨rfl, rfl⟩
  rw [if_neg h2]
  go_enter Tryd.func114, Tryd.ntmps114
  go_wp2_with (go_at_call 153; refine (HN.out _ _).mono ?_; rintro e w1 ⟨rfl, rfl⟩)
  go_ret
  exact ⟨rfl, rfl⟩
/-- the order by classes is the order by places -/
theorem forder_eq (x y : Nat) (hx : F64 x) (hy : F64 y) : forder x y = if flt x y = true then -1 else if flt y x = true then 1 else fcp (fclass x) (fclass y) := by
  unfold F64 at hx hy
  unfold forder fplace flt fclass fcp
  cases hnx : fnan x <;> cases hny : fnan y
  · simp only [Bool.not_false, Bool.true_and, decide_eq_true_eq, Bool.false_eq_true, if_false]
    unfold fkey
    have nx : ¬ 9218868437227405312 < x % 9223372036854775808 := by unfold fnan at hnx; simpa using hnx
    have ny : ¬ 9218868437227405312 < y % 9223372036854775808 := by unfold fnan at hny; simpa using hny
    repeat' split
    all_goals omega
  · simp only [Bool.not_false, Bool.not_true, Bool.true_and, Bool.and_false, Bool.false_and, Bool.false_eq_true, if_false, if_true]
    repeat' split
    all_goals omega
  · simp only [Bool.not_false, Bool.not_true, Bool.true_and, Bool.and_false, Bool.false_and, Bool.false_eq_true, if_false, if_true]
    repeat' split
    all_goals omega
  · simp
theorem forder_of (x y : Nat) (hx : F64 x) (hy : F64 y) (w : World) : Calls Tryd.prog 78 #[flV x, flV y] w (Gives (.int .i64 (forder x y)) w) := by
  rw [forder_eq x y hx hy]
  have e1 := run_flt x y hx hy
  have e2 := run_fgt x y hx hy
  have HX := Lib.hid (fun W => class_of x hx W)
  have HY := Lib.hid (fun W => class_of y hy W)
  have HC := Lib.hid cmpInt_of
  generalize fclass x = a at *
  generalize fclass y = b at *
  generalize flt x y = t at *
  generalize flt y x = u at *
  clear hx hy
  cases t with
  | true =>
    go_enter Tryd.func78, Tryd.ntmps78
    go_wp2
    go_ret
    exact ⟨rfl, rfl⟩
  | false =>
    cases u with
    | true =>
      simp only [Bool.false_eq_true, if_false, if_true]
      go_enter Tryd.func78, Tryd.ntmps78
      go_wp2
      go_ret
      exact ⟨rfl, rfl⟩
    | false =>
      simp only [Bool.false_eq_true, if_false]
      go_enter Tryd.func78, Tryd.ntmps78
      go_wp2_with fail
      refine (HX.out _).mono ?_; rintro e w1 ⟨rfl, rfl⟩
      go_wp2_with fail
      refine (HY.out _).mono ?_; rintro e w1 ⟨rfl, rfl⟩
      go_wp2_with fail
      refine (HC.out _ _ _).mono ?_; rintro e w1 ⟨rfl, rfl⟩
      go_wp2
      go_ret
      exact ⟨rfl, rfl⟩

def rkP (x : Nat) : Bool := fnan x || decide (x < 9223372036854775808)
def rkM (x : Nat) : Int := if fnan x = true then 18446744073709551615 else if x < 9223372036854775808 then (x : Int) else 9223372036854775807 - ((x : Int) - 9223372036854775808)
theorem rank_a (x : Nat) (hN : ∀ W, Calls Tryd.prog 89 #[flV x] W (Gives (.bool true) W)) (w : World) : Calls Tryd.prog 94 #[flV x] w (Gives (.tuple #[.bool true, .int .u64 18446744073709551615]) w) := by
  go_enter Tryd.func94, Tryd.ntmps94
  go_wp2_with (first | (go_at_call 89; refine (hN _).mono ?_; rintro e w1 ⟨rfl, rfl⟩))
  go_ret2
  exact ⟨rfl, rfl⟩
theorem rank_b (x : Nat) (y : Int) (hN : ∀ W, Calls Tryd.prog 89 #[flV x] W (Gives (.bool false) W)) (hR : ∀ W, Calls Tryd.prog 85 #[flV x] W (Gives (.int .u64 y) W)) (h1 : ¬ 9223372036854775808 ≤ y) (w : World) : Calls Tryd.prog 94 #[flV x] w (Gives (.tuple #[.bool true, .int .u64 y]) w) := by
  go_enter Tryd.func94, Tryd.ntmps94
  go_wp2_with (first | (go_at_call 89; refine (hN _).mono ?_; rintro e w1 ⟨rfl, rfl⟩) | (go_at_call 85; refine (hR _).mono ?_; rintro e w1 ⟨rfl, rfl⟩))
  go_ret2
  exact ⟨rfl, rfl⟩
theorem rank_c (x : Nat) (y z : Int) (hN : ∀ W, Calls Tryd.prog 89 #[flV x] W (Gives (.bool false) W)) (hR : ∀ W, Calls Tryd.prog 85 #[flV x] W (Gives (.int .u64 y) W)) (h1 : 9223372036854775808 ≤ y) (h2 : IntKind.u64.wrap (y - 9223372036854775808) = z) (h3 : IntKind.u64.wrap (9223372036854775807 - z) = 9223372036854775807 - z) (w : World) : Calls Tryd.prog 94 #[flV x] w (Gives (.tuple #[.bool false, .int .u64 (9223372036854775807 - z)]) w) := by
  go_enter Tryd.func94, Tryd.ntmps94
  go_wp2_with (first | (go_at_call 89; refine (hN _).mono ?_; rintro e w1 ⟨rfl, rfl⟩) | (go_at_call 85; refine (hR _).mono ?_; rintro e w1 ⟨rfl, rfl⟩))
  go_ret2
  exact ⟨rfl, rfl⟩
theorem rank_of (x : Nat) (hx : F64 x) (w : World) : Calls Tryd.prog 94 #[flV x] w (Gives (.tuple #[.bool (rkP x), .int .u64 (rkM x)]) w) := by
  have hN := fun W => rnan_of x hx W
  unfold F64 at hx
  unfold rkP rkM
  cases hn : fnan x with
  | true =>
    rw [hn] at hN
    exact rank_a x hN w
  | false =>
    rw [hn] at hN
    simp only [Bool.false_or, Bool.false_eq_true, if_false]
    by_cases h : x < 9223372036854775808
    · rw [decide_eq_true h, if_pos h]
      exact rank_b x (x : Int) hN (raw_of x) (by omega) w
    · rw [decide_eq_false h, if_neg h]
      exact rank_c x (x : Int) ((x : Int) - 9223372036854775808) hN (raw_of x) (by omega) (IntWalk.u64_in _ (by omega)) (IntWalk.u64_in _ (by omega)) w
def rob (p : Bool) (m : Int) (q : Bool) (n : Int) : Int := if p = false ∧ q = true then -1 else if p = true ∧ q = false then 1 else fcp m n
theorem rob_eq (x y : Nat) (hx : F64 x) (hy : F64 y) : rob (rkP x) (rkM x) (rkP y) (rkM y) = forder x y := by
  unfold F64 at hx hy
  unfold rob rkP rkM forder fplace fcp
  cases hnx : fnan x <;> cases hny : fnan y <;> simp only [Bool.false_or, Bool.true_or, Bool.false_eq_true, if_false, if_true, decide_eq_true_eq, decide_eq_false_iff_not, and_false, and_true, true_and, false_and, not_true, not_false_eq_true, Bool.true_eq_false]
  all_goals (repeat' split)
  all_goals omega
theorem rorder_any (x s : Nat) (p q : Bool) (m n : Int) (h1 : ∀ W, Calls Tryd.prog 94 #[flV x] W (Gives (.tuple #[.bool p, .int .u64 m]) W)) (h2 : ∀ W, Calls Tryd.prog 94 #[flV s] W (Gives (.tuple #[.bool q, .int .u64 n]) W)) (w : World) : Calls Tryd.prog 54 #[flV x, flV s] w (Gives (.int .i64 (rob p m q n)) w) := by
  unfold rob fcp
  have H1 := Lib.hid h1; have H2 := Lib.hid h2; clear h1 h2
  cases p <;> cases q <;> simp only [Bool.false_eq_true, if_false, if_true, and_false, and_true, true_and, false_and, Bool.true_eq_false, and_self]
  case false.true =>
    go_enter Tryd.func54, Tryd.ntmps54
    go_wp2_with fail
    refine (H1.out _).mono ?_; rintro e w1 ⟨rfl, rfl⟩
    go_wp2_with fail
    refine (H2.out _).mono ?_; rintro e w1 ⟨rfl, rfl⟩
    go_wp2
    go_ret
    exact ⟨rfl, rfl⟩
  case true.false =>
    go_enter Tryd.func54, Tryd.ntmps54
    go_wp2_with fail
    refine (H1.out _).mono ?_; rintro e w1 ⟨rfl, rfl⟩
    go_wp2_with fail
    refine (H2.out _).mono ?_; rintro e w1 ⟨rfl, rfl⟩
    go_wp2
    go_ret
    exact ⟨rfl, rfl⟩
  all_goals
    by_cases ha : m < n
    · rw [if_pos ha]
      go_enter Tryd.func54, Tryd.ntmps54
      go_wp2_with fail
      refine (H1.out _).mono ?_; rintro e w1 ⟨rfl, rfl⟩
      go_wp2_with fail
      refine (H2.out _).mono ?_; rintro e w1 ⟨rfl, rfl⟩
      go_wp2
      go_ret
      exact ⟨rfl, rfl⟩
    rw [if_neg ha]
    by_cases hb : n < m
    · rw [if_pos hb]
      go_enter Tryd.func54, Tryd.ntmps54
      go_wp2_with fail
      refine (H1.out _).mono ?_; rintro e w1 ⟨rfl, rfl⟩
      go_wp2_with fail
      refine (H2.out _).mono ?_; rintro e w1 ⟨rfl, rfl⟩
      go_wp2
      go_ret
      exact ⟨rfl, rfl⟩
    rw [if_neg hb]
    go_enter Tryd.func54, Tryd.ntmps54
    go_wp2_with fail
    refine (H1.out _).mono ?_; rintro e w1 ⟨rfl, rfl⟩
    go_wp2_with fail
    refine (H2.out _).mono ?_; rintro e w1 ⟨rfl, rfl⟩
    go_wp2
    go_ret
    exact ⟨rfl, rfl⟩
theorem rorder_of (x y : Nat) (hx : F64 x) (hy : F64 y) (w : World) : Calls Tryd.prog 54 #[flV x, flV y] w (Gives (.int .i64 (forder x y)) w) := by
  rw [← rob_eq x y hx hy]
  exact rorder_any x y _ _ _ _ (rank_of x hx) (rank_of y hy) w
end Go.Proofs.YtkidljiffeonjaaDoor
