/- The program's float functions (floats, liaisonref01), each once, by the bits. -/
import Derived.Test.YtkidljiffeonjaaDoorRows
import Derived.WalkKit
import Derived.WalkSpells
import Derived.WalkLawsBesides
import Derived.BigQuiet
import Derived.Deep.QuietTactic
import Derived.StillTailTactics
import Derived.Handy
import Derived.Lib.Hide
import Derived.Test.YtkidljiffeonjaaDoorRefA
import Derived.Test.YtkidljiffeonjaaDoorFloat
import Derived.Laws.Externs
import Derived.Laws.Cover2
set_option linter.unusedSimpArgs false
set_option linter.unusedVariables false
namespace Go.Proofs.YtkidljiffeonjaaDoor
open Go.RowKit

abbrev flV (x : Nat) : Value := .float .f64 x
/-- a float of 64 bits -/
def F64 (x : Nat) : Prop := x < 18446744073709551616
def fle (x y : Nat) : Bool := !fnan x && !fnan y && decide (fkey x ≤ fkey y)
def flt (x y : Nat) : Bool := !fnan x && !fnan y && decide (fkey x < fkey y)
def feq (x y : Nat) : Bool := !fnan x && !fnan y && decide (fkey x = fkey y)
theorem ford_some (x y : Nat) (hx : F64 x) (hy : F64 y) : FloatKind.f64.format.order x y = if fnan x = true ∨ fnan y = true then none else some (fcmp (fkey x) (fkey y)) := by
  show Ieee.double.order x y = _
  split
  · rename_i h; exact order_nan x y h
  · rename_i h
    simp only [not_or, Bool.not_eq_true] at h
    exact order_keys x y hx hy h.1 h.2
theorem run_feq (x y : Nat) (hx : F64 x) (hy : F64 y) : (FloatKind.f64.format.order x y == some .eq) = feq x y := by
  rw [ford_some x y hx hy]; unfold feq
  cases fnan x <;> cases fnan y <;> simp [fcmp]
  split <;> (try split) <;> simp <;> omega
theorem run_flt (x y : Nat) (hx : F64 x) (hy : F64 y) : (FloatKind.f64.format.order x y == some .lt) = flt x y := by
  rw [ford_some x y hx hy]; unfold flt
  cases fnan x <;> cases fnan y <;> simp [fcmp]
  split <;> (try split) <;> simp <;> omega
theorem run_fgt (x y : Nat) (hx : F64 x) (hy : F64 y) : (FloatKind.f64.format.order x y == some .gt) = flt y x := by
  rw [ford_some x y hx hy]; unfold flt
  cases fnan x <;> cases fnan y <;> simp [fcmp]
  split <;> (try split) <;> simp <;> omega
theorem run_fle (x y : Nat) (hx : F64 x) (hy : F64 y) : (FloatKind.f64.format.order x y == some .lt || FloatKind.f64.format.order x y == some .eq) = fle x y := by
  rw [run_feq x y hx hy, run_flt x y hx hy]; unfold feq flt fle
  cases fnan x <;> cases fnan y <;> simp
  rw [Bool.eq_iff_iff]; simp; omega
theorem run_fge (x y : Nat) (hx : F64 x) (hy : F64 y) : (FloatKind.f64.format.order x y == some .gt || FloatKind.f64.format.order x y == some .eq) = fle y x := by
  rw [run_feq x y hx hy, run_fgt x y hx hy]; unfold feq flt fle
  cases fnan x <;> cases fnan y <;> simp
  rw [Bool.eq_iff_iff]; simp; omega
theorem f64_zero : F64 0 := by unfold F64; omega
/-- is it a delay? -/
def fdelay (x : Nat) : Bool := !fnan x && decide (x ≤ 9223372036854775808)
def fplain (x : Nat) : Nat := if fnan x = true then 9221120237041090561 else if x = 9223372036854775808 then 0 else x
def fclass (x : Nat) : Int := if fnan x = true then 2 else if x = 9223372036854775808 then 0 else 1
def fplace (x : Nat) : Int := if fnan x = true then 18446744073709551615 else if x < 9223372036854775808 then x else -1 - ((x : Int) - 9223372036854775808)
def forder (a b : Nat) : Int := if fplace a < fplace b then -1 else if fplace b < fplace a then 1 else 0
theorem fle_zero (x : Nat) (hx : F64 x) : fle 0 x = fdelay x := by
  unfold fle fdelay fkey
  rw [show fnan 0 = false by decide]
  cases fnan x <;> simp
  unfold F64 at hx
  split <;> omega

theorem bits_run (x : Nat) (w : World) : (callFunc 119 #[flV x]).run Tryd.prog w = .ok (.value (.int .u64 x)) w := by
  rw [run_callFunc_extern (e := Extern.MathFloatBits.float64bits) Tryd.func119 (by kernel_rfl) (by kernel_rfl) (by kernel_rfl) (by kernel_rfl)]
  rfl
theorem frombits_run (x : Int) (w : World) : (callFunc 95 #[.int .u64 x]).run Tryd.prog w = .ok (.value (flV x.toNat)) w := by
  rw [run_callFunc_extern (e := Extern.MathFloatBits.float64frombits) Tryd.func95 (by kernel_rfl) (by kernel_rfl) (by kernel_rfl) (by kernel_rfl)]
  rfl
theorem raw_of (x : Nat) (w : World) : Calls Tryd.prog 85 #[flV x] w (Gives (.int .u64 x) w) := by
  have hb := bits_run x
  go_enter Tryd.func85, Tryd.ntmps85
  go_wp2
  go_ret
  exact ⟨rfl, rfl⟩
theorem and_low (x : Nat) (hx : F64 x) : bits .and .u64 (x : Int) 9223372036854775807 = ((x % 9223372036854775808 : Nat) : Int) := by
  unfold F64 at hx
  have h1 : (BitVec.ofInt 64 (x : Int)).toNat = x := by simp; omega
  have h2 : (BitVec.ofInt 64 9223372036854775807).toNat = 2 ^ 63 - 1 := by decide
  have h3 : (BitVec.ofInt 64 (x : Int) &&& BitVec.ofInt 64 9223372036854775807).toNat = x % 9223372036854775808 := by
    rw [BitVec.toNat_and, h1, h2, Nat.and_two_pow_sub_one_eq_mod]
  show IntKind.u64.wrap ((BitVec.ofInt 64 (x : Int) &&& BitVec.ofInt 64 9223372036854775807).toNat : Int) = _
  rw [h3]
  exact IntWalk.u64_in _ (by omega)
theorem and_sign (x : Nat) (hx : F64 x) : bits .and .u64 (x : Int) 9223372036854775808 = if x < 9223372036854775808 then 0 else 9223372036854775808 := by
  unfold F64 at hx
  have h1 : (BitVec.ofInt 64 (x : Int)).toNat = x := by simp; omega
  have h2 : (BitVec.ofInt 64 9223372036854775808).toNat = 2 ^ 63 := by decide
  have h3 : (BitVec.ofInt 64 (x : Int) &&& BitVec.ofInt 64 9223372036854775808).toNat = if x < 9223372036854775808 then 0 else 9223372036854775808 := by
    rw [BitVec.toNat_and, h1, h2]
    have low : ∀ z : Nat, z < 2 ^ 63 → z &&& 2 ^ 63 = 0 := fun z hz => by
      have e : z = z &&& (2 ^ 63 - 1) := by rw [Nat.and_two_pow_sub_one_eq_mod, Nat.mod_eq_of_lt hz]
      rw [e, Nat.and_assoc, show (2 ^ 63 - 1) &&& 2 ^ 63 = 0 by decide, Nat.and_zero]
    split
    · exact low x (by omega)
    · have e : x = 2 ^ 63 ||| (x - 2 ^ 63) := by
        have := Nat.two_pow_add_eq_or_of_lt (i := 63) (b := x - 2 ^ 63) (by omega) 1
        rw [Nat.mul_one] at this
        omega
      rw [e, Nat.and_or_distrib_right, low (x - 2 ^ 63) (by omega)]
      decide
  show IntKind.u64.wrap ((BitVec.ofInt 64 (x : Int) &&& BitVec.ofInt 64 9223372036854775808).toNat : Int) = _
  rw [h3]
  split <;> decide
theorem rnan_of (x : Nat) (hx : F64 x) (w : World) : Calls Tryd.prog 89 #[flV x] w (Gives (.bool (fnan x)) w) := by
  have hb := bits_run x
  have hm := and_low x hx
  go_enter Tryd.func89, Tryd.ntmps89
  go_wp2
  go_ret
  exact ⟨ret_bool (by unfold fnan; rw [Bool.eq_iff_iff]; simp only [decide_eq_true_eq]; omega), rfl⟩
theorem rbits_of (x : Nat) (hx : F64 x) (w : World) : Calls Tryd.prog 96 #[flV x] w (Gives (.int .u64 (fplain x : Nat)) w) := by
  unfold fplain
  obtain ⟨n, hn⟩ : ∃ n, n = fnan x := ⟨_, rfl⟩
  have hN := fun W => rnan_of x hx W
  rw [← hn] at hN ⊢
  have HN := Lib.hid hN; clear hN hn
  have HR := Lib.hid (fun W => raw_of x W)
  cases n
  · by_cases h0 : x = 9223372036854775808
    · subst h0
      go_enter Tryd.func96, Tryd.ntmps96
      go_wp2_with (first | (go_at_call 89; refine (HN.out _).mono ?_; rintro e w1 ⟨rfl, rfl⟩) | (go_at_call 85; refine (HR.out _).mono ?_; rintro e w1 ⟨rfl, rfl⟩))
      go_ret
      exact ⟨rfl, rfl⟩
    · have h1 : ¬ ((x : Int) = 9223372036854775808) := by omega
      simp only [h0, if_false]
      go_enter Tryd.func96, Tryd.ntmps96
      go_wp2_with (first | (go_at_call 89; refine (HN.out _).mono ?_; rintro e w1 ⟨rfl, rfl⟩) | (go_at_call 85; refine (HR.out _).mono ?_; rintro e w1 ⟨rfl, rfl⟩))
      go_ret
      exact ⟨rfl, rfl⟩
  · go_enter Tryd.func96, Tryd.ntmps96
    go_wp2_with (first | (go_at_call 89; refine (HN.out _).mono ?_; rintro e w1 ⟨rfl, rfl⟩))
    go_ret
    exact ⟨rfl, rfl⟩
theorem rplain_of (x : Nat) (hx : F64 x) (w : World) : Calls Tryd.prog 55 #[flV x] w (Gives (flV (fplain x)) w) := by
  have HB := Lib.hid (fun W => rbits_of x hx W)
  have hf := frombits_run
  obtain ⟨n, hn⟩ : ∃ n, n = fplain x := ⟨_, rfl⟩
  rw [← hn] at HB ⊢
  clear hn
  go_enter Tryd.func55, Tryd.ntmps55
  go_wp2_with (first | (go_at_call 96; refine (HB.out _).mono ?_; rintro e w1 ⟨rfl, rfl⟩))
  go_ret
  exact ⟨rfl, rfl⟩
theorem fdelay_cases (x : Nat) : (fnan x = false → (x : Int) ≤ 9223372036854775808 → fdelay x = true) ∧ (fnan x = true → fdelay x = false) ∧ (9223372036854775808 < (x : Int) → fdelay x = false) := by
  unfold fdelay
  refine ⟨fun h1 h2 => ?_, fun h1 => ?_, fun h1 => ?_⟩
  · rw [h1, Bool.not_false, Bool.true_and, decide_eq_true_eq]; omega
  · rw [h1, Bool.not_true, Bool.false_and]
  · rw [decide_eq_false (by omega), Bool.and_false]
theorem rdelay_a (x : Nat) (w : World) (hN : ∀ W, Calls Tryd.prog 89 #[flV x] W (Gives (.bool false) W)) (hR : ∀ W, Calls Tryd.prog 85 #[flV x] W (Gives (.int .u64 x) W)) (h1 : (x : Int) < 9223372036854775808) : Calls Tryd.prog 50 #[flV x] w (Gives (.bool true) w) := by
  go_enter Tryd.func50, Tryd.ntmps50
  go_wp2_with (first | (go_at_call 89; refine (hN _).mono ?_; rintro e w1 ⟨rfl, rfl⟩) | (go_at_call 85; refine (hR _).mono ?_; rintro e w1 ⟨rfl, rfl⟩))
  go_ret
  exact ⟨ret_bool (by simp [h1]), rfl⟩
theorem rdelay_b (w : World) (hN : ∀ W, Calls Tryd.prog 89 #[flV 9223372036854775808] W (Gives (.bool false) W)) (hR : ∀ W, Calls Tryd.prog 85 #[flV 9223372036854775808] W (Gives (.int .u64 9223372036854775808) W)) : Calls Tryd.prog 50 #[flV 9223372036854775808] w (Gives (.bool true) w) := by
  go_enter Tryd.func50, Tryd.ntmps50
  go_wp2_with (first | (go_at_call 89; refine (hN _).mono ?_; rintro e w1 ⟨rfl, rfl⟩) | (go_at_call 85; refine (hR _).mono ?_; rintro e w1 ⟨rfl, rfl⟩))
  go_ret
  exact ⟨ret_bool (by simp), rfl⟩
theorem rdelay_c (x : Nat) (y : Int) (w : World) (hN : ∀ W, Calls Tryd.prog 89 #[flV x] W (Gives (.bool false) W)) (hR : ∀ W, Calls Tryd.prog 85 #[flV x] W (Gives (.int .u64 y) W)) (h1 : ¬ y < 9223372036854775808) (h2 : ¬ y = 9223372036854775808) : Calls Tryd.prog 50 #[flV x] w (Gives (.bool false) w) := by
  go_enter Tryd.func50, Tryd.ntmps50
  go_wp2_with (first | (go_at_call 89; refine (hN _).mono ?_; rintro e w1 ⟨rfl, rfl⟩) | (go_at_call 85; refine (hR _).mono ?_; rintro e w1 ⟨rfl, rfl⟩))
  go_ret
  exact ⟨ret_bool (by simp [h2]; exact h1), rfl⟩
theorem rdelay_d (x : Nat) (w : World) (hN : ∀ W, Calls Tryd.prog 89 #[flV x] W (Gives (.bool true) W)) (hR : ∀ W, Calls Tryd.prog 85 #[flV x] W (Gives (.int .u64 x) W)) : Calls Tryd.prog 50 #[flV x] w (Gives (.bool false) w) := by
  go_enter Tryd.func50, Tryd.ntmps50
  go_wp2_with (first | (go_at_call 89; refine (hN _).mono ?_; rintro e w1 ⟨rfl, rfl⟩) | (go_at_call 85; refine (hR _).mono ?_; rintro e w1 ⟨rfl, rfl⟩))
  go_ret
  exact ⟨ret_bool (by simp), rfl⟩
theorem rdelay_of (x : Nat) (hx : F64 x) (w : World) : Calls Tryd.prog 50 #[flV x] w (Gives (.bool (fdelay x)) w) := by
  have hN := fun W => rnan_of x hx W
  have hr := fdelay_cases x
  have hR := fun W => raw_of x W
  cases hn : fnan x with
  | true =>
    rw [hn] at hN
    rw [hr.2.1 hn]
    exact rdelay_d x w hN hR
  | false =>
    rw [hn] at hN
    by_cases h1 : (x : Int) < 9223372036854775808
    · rw [hr.1 hn (by omega)]; exact rdelay_a x w hN hR h1
    · by_cases h2 : (x : Int) = 9223372036854775808
      · rw [hr.1 hn (by omega)]; obtain rfl : x = 9223372036854775808 := by omega
        exact rdelay_b w hN hR
      · rw [hr.2.2 (by omega)]; exact rdelay_c x (x : Int) w hN hR h1 h2
end Go.Proofs.YtkidljiffeonjaaDoor
