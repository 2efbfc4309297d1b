/- Floats of 64 bits as bits: how two that are no NaN stand to each other goes by their bits. No program. -/
import Derived.Test.YtkidljiffeonjaaDoorRows
import Derived.WalkKit
import Derived.WalkSpells
import Derived.WalkLawsBesides
import Derived.BigQuiet
import Derived.Deep.QuietTactic
import Derived.StillTailTactics
import Derived.Handy
import Derived.Lib.Hide
import Ieee.Arith
set_option linter.unusedSimpArgs false
set_option linter.unusedVariables false
namespace Go.Proofs.YtkidljiffeonjaaDoor
open Ieee

/-- is it a NaN, by its bits? -/
def fnan (x : Nat) : Bool := decide (9218868437227405312 < x % 9223372036854775808)
/-- a float's place, by its bits -/
def fkey (x : Nat) : Int := if x < 9223372036854775808 then (x : Int) else -((x : Int) - 9223372036854775808)

/-- the number of least units that a rung stands for -/
def fval (r : Nat) : Nat := if r < 4503599627370496 then r else (4503599627370496 + r % 4503599627370496) * 2 ^ (r / 4503599627370496 - 1)
theorem fval_lt {r s : Nat} (h : r < s) : fval r < fval s := by
  unfold fval
  by_cases h1 : s < 4503599627370496
  · rw [if_pos h1, if_pos (by omega)]; exact h
  rw [if_neg h1]
  have hp : 0 < 2 ^ (s / 4503599627370496 - 1) := Nat.two_pow_pos _
  by_cases h2 : r < 4503599627370496
  · rw [if_pos h2]
    calc r < 4503599627370496 + s % 4503599627370496 := by omega
      _ ≤ _ := Nat.le_mul_of_pos_right _ hp
  rw [if_neg h2]
  by_cases h3 : r / 4503599627370496 = s / 4503599627370496
  · rw [h3]
    exact Nat.mul_lt_mul_of_pos_right (by omega) hp
  · have h4 : r / 4503599627370496 < s / 4503599627370496 := by omega
    obtain ⟨a, ha⟩ : ∃ a, r / 4503599627370496 = a + 1 := ⟨r / 4503599627370496 - 1, by omega⟩
    obtain ⟨c, hc⟩ : ∃ c, s / 4503599627370496 = a + 1 + 1 + c := ⟨s / 4503599627370496 - (a + 1) - 1, by omega⟩
    rw [ha, hc, show a + 1 - 1 = a by omega, show a + 1 + 1 + c - 1 = a + 1 + c by omega, Nat.pow_add, Nat.pow_succ]
    have h5 : 0 < 2 ^ a := Nat.two_pow_pos _
    have h6 : 0 < 2 ^ c := Nat.two_pow_pos _
    calc (4503599627370496 + r % 4503599627370496) * 2 ^ a < (4503599627370496 * 2) * 2 ^ a := Nat.mul_lt_mul_of_pos_right (by omega) h5
      _ = 4503599627370496 * (2 ^ a * 2) := by rw [Nat.mul_assoc, Nat.mul_comm 2]
      _ ≤ 4503599627370496 * (2 ^ a * 2 * 2 ^ c) := Nat.mul_le_mul_left _ (Nat.le_mul_of_pos_right _ h6)
      _ ≤ _ := Nat.mul_le_mul_right _ (by omega)
theorem fval_le {r s : Nat} (h : r ≤ s) : fval r ≤ fval s := by
  rcases Nat.lt_or_eq_of_le h with h | rfl
  · exact Nat.le_of_lt (fval_lt h)
  · exact Nat.le_refl _
theorem fval_zero : fval 0 = 0 := by decide

/-- what a word of 64 bits that is finite stands for -/
theorem read_num (x : Nat) (h : x % 9223372036854775808 < 9218868437227405312) :
    ∃ (m i : Nat), double.read x = .number (x / 9223372036854775808 % 2 == 1) m (double.leastPlace + (i : Int)) ∧ m * 2 ^ i = fval (x % 9223372036854775808) := by
  have e1 : double.signWeight = 9223372036854775808 := by decide
  have e2 : double.binade = 4503599627370496 := by decide
  have e3 : double.infRung = 9218868437227405312 := by decide
  unfold Format.read
  simp only [e1, e2, e3]
  by_cases h1 : x % 9223372036854775808 < 4503599627370496
  · rw [if_pos h1]
    exact ⟨x % 9223372036854775808, 0, by simp, by unfold fval; rw [if_pos h1]; simp⟩
  · rw [if_neg h1, if_pos h]
    exact ⟨_, _, rfl, by unfold fval; rw [if_neg h1]⟩
theorem read_inf (x : Nat) (h : x % 9223372036854775808 = 9218868437227405312) : double.read x = .infinity (x / 9223372036854775808 % 2 == 1) := by
  have e1 : double.signWeight = 9223372036854775808 := by decide
  have e2 : double.binade = 4503599627370496 := by decide
  have e3 : double.infRung = 9218868437227405312 := by decide
  unfold Format.read
  simp only [e1, e2, e3]
  rw [if_neg (by omega), if_neg (by omega), if_pos h]
theorem read_nan (x : Nat) (h : 9218868437227405312 < x % 9223372036854775808) : ∃ a b, double.read x = .nan a b := by
  have e1 : double.signWeight = 9223372036854775808 := by decide
  have e2 : double.binade = 4503599627370496 := by decide
  have e3 : double.infRung = 9218868437227405312 := by decide
  unfold Format.read
  simp only [e1, e2, e3]
  rw [if_neg (by omega), if_neg (by omega), if_neg (by omega)]
  exact ⟨_, _, rfl⟩

def fcmp (a b : Int) : Ordering := if a < b then .lt else if a = b then .eq else .gt
theorem compare_int (a b : Int) : compare a b = fcmp a b := rfl
theorem fcmp_iff {a b c d : Int} (h1 : a < b ↔ c < d) (h2 : a = b ↔ c = d) : fcmp a b = fcmp c d := by
  unfold fcmp
  by_cases h : a < b
  · rw [if_pos h, if_pos (h1.1 h)]
  · rw [if_neg h, if_neg (fun e => h (h1.2 e))]
    by_cases h' : a = b
    · rw [if_pos h', if_pos (h2.1 h')]
    · rw [if_neg h', if_neg (fun e => h' (h2.2 e))]
def sgn (s : Bool) (m : Nat) : Int := if s then -(m : Int) else (m : Int)
theorem sgn_mul (s : Bool) (m k : Nat) : sgn s (m * k) = sgn s m * (k : Int) := by
  unfold sgn
  split
  · rw [Int.natCast_mul, Int.neg_mul]
  · rw [Int.natCast_mul]
theorem signed_sgn (s : Bool) (m k : Nat) : signed s m k = sgn s (m * 2 ^ k) := by
  unfold signed sgn
  simp [Nat.shiftLeft_eq]
theorem order_num (s t : Bool) (m n i j : Nat) (L : Int) : (Datum.number s m (L + (i : Int))).order (.number t n (L + (j : Int))) = some (fcmp (sgn s (m * 2 ^ i)) (sgn t (n * 2 ^ j))) := by
  unfold Datum.order
  simp only [compare_int, signed_sgn, Option.some.injEq]
  obtain ⟨a, ha⟩ : ∃ a, (L + (i : Int) - min (L + (i : Int)) (L + (j : Int))).toNat = a := ⟨_, rfl⟩
  obtain ⟨c, hc⟩ : ∃ c, (L + (j : Int) - min (L + (i : Int)) (L + (j : Int))).toNat = c := ⟨_, rfl⟩
  obtain ⟨l, hl⟩ : ∃ l, l = min i j := ⟨_, rfl⟩
  have h1 : i = a + l := by omega
  have h2 : j = c + l := by omega
  rw [ha, hc, h1, h2, Nat.pow_add, Nat.pow_add, ← Nat.mul_assoc, ← Nat.mul_assoc, sgn_mul s (m * 2 ^ a), sgn_mul t (n * 2 ^ c)]
  have hp : (0 : Int) < ((2 ^ l : Nat) : Int) := by exact_mod_cast Nat.two_pow_pos l
  generalize ((2 ^ l : Nat) : Int) = K at hp
  refine fcmp_iff ⟨fun h => Int.mul_lt_mul_of_pos_right h hp, fun h => Int.lt_of_mul_lt_mul_right h (Int.le_of_lt hp)⟩ ⟨fun h => by rw [h], fun h => Int.eq_of_mul_eq_mul_right (by omega) h⟩

/-- TWO FLOATS THAT ARE NO NaN STAND AS THEIR BITS STAND -/
theorem order_keys (x y : Nat) (hx : x < 18446744073709551616) (hy : y < 18446744073709551616) (nx : fnan x = false) (ny : fnan y = false) : double.order x y = some (fcmp (fkey x) (fkey y)) := by
  unfold fnan at nx ny
  simp only [decide_eq_false_iff_not] at nx ny
  have kx : fkey x = sgn (x / 9223372036854775808 % 2 == 1) (x % 9223372036854775808) := by
    unfold fkey sgn
    by_cases h : x < 9223372036854775808
    · have h1 : x / 9223372036854775808 = 0 := by omega
      rw [if_pos h, h1]; simp; omega
    · have h1 : x / 9223372036854775808 = 1 := by omega
      rw [if_neg h, h1]; simp; omega
  have ky : fkey y = sgn (y / 9223372036854775808 % 2 == 1) (y % 9223372036854775808) := by
    unfold fkey sgn
    by_cases h : y < 9223372036854775808
    · have h1 : y / 9223372036854775808 = 0 := by omega
      rw [if_pos h, h1]; simp; omega
    · have h1 : y / 9223372036854775808 = 1 := by omega
      rw [if_neg h, h1]; simp; omega
  rw [kx, ky]
  unfold Format.order
  have hr : x % 9223372036854775808 < 9218868437227405312 ∨ x % 9223372036854775808 = 9218868437227405312 := by omega
  have hq : y % 9223372036854775808 < 9218868437227405312 ∨ y % 9223372036854775808 = 9218868437227405312 := by omega
  rcases hr with hr | hr
  · obtain ⟨m, i, e1, v1⟩ := read_num x hr
    rcases hq with hq | hq
    · obtain ⟨n, j, e2, v2⟩ := read_num y hq
      rw [e1, e2, order_num, v1, v2]
      clear e1 e2 v1 v2 kx ky nx ny hx hy
      generalize (x / 9223372036854775808 % 2 == 1) = s
      generalize (y / 9223372036854775808 % 2 == 1) = t
      generalize x % 9223372036854775808 = r at *
      generalize y % 9223372036854775808 = q at *
      have a1 : r < q → fval r < fval q := fval_lt
      have a2 : q < r → fval q < fval r := fval_lt
      have a3 : r = q → fval r = fval q := fun e => by rw [e]
      have a4 : 0 < r → 0 < fval r := fun h => by have := fval_lt h; rwa [fval_zero] at this
      have a5 : 0 < q → 0 < fval q := fun h => by have := fval_lt h; rwa [fval_zero] at this
      have a6 : r = 0 → fval r = 0 := fun e => by rw [e, fval_zero]
      have a7 : q = 0 → fval q = 0 := fun e => by rw [e, fval_zero]
      generalize fval r = R at *
      generalize fval q = Q at *
      refine congrArg some (fcmp_iff ?_ ?_) <;> (unfold sgn; cases s <;> cases t <;> simp only [Bool.false_eq_true, if_false, if_true] <;> constructor <;> intro h <;> omega)
    · rw [e1, read_inf y hq, hq]
      generalize (x / 9223372036854775808 % 2 == 1) = s
      generalize (y / 9223372036854775808 % 2 == 1) = t
      unfold Datum.order
      cases t
      · simp only [Bool.false_eq_true, if_false]
        unfold fcmp sgn
        rw [if_pos (by cases s <;> simp only [Bool.false_eq_true, if_false, if_true] <;> omega)]
      · simp only [if_true]
        unfold fcmp sgn
        rw [if_neg (by cases s <;> simp only [Bool.false_eq_true, if_false, if_true] <;> omega), if_neg (by cases s <;> simp only [Bool.false_eq_true, if_false, if_true] <;> omega)]
  · rcases hq with hq | hq
    · obtain ⟨n, j, e2, v2⟩ := read_num y hq
      rw [e2, read_inf x hr, hr]
      generalize (x / 9223372036854775808 % 2 == 1) = s
      generalize (y / 9223372036854775808 % 2 == 1) = t
      unfold Datum.order
      cases s
      · simp only [Bool.false_eq_true, if_false]
        unfold fcmp sgn
        rw [if_neg (by cases t <;> simp only [Bool.false_eq_true, if_false, if_true] <;> omega), if_neg (by cases t <;> simp only [Bool.false_eq_true, if_false, if_true] <;> omega)]
      · simp only [if_true]
        unfold fcmp sgn
        rw [if_pos (by cases t <;> simp only [Bool.false_eq_true, if_false, if_true] <;> omega)]
    · rw [read_inf x hr, read_inf y hq, hr, hq]
      generalize (x / 9223372036854775808 % 2 == 1) = s
      generalize (y / 9223372036854775808 % 2 == 1) = t
      cases s <;> cases t <;> decide
theorem order_nan (x y : Nat) (h : fnan x = true ∨ fnan y = true) : double.order x y = none := by
  unfold fnan at h
  simp only [decide_eq_true_eq] at h
  unfold Format.order
  rcases h with h | h
  · obtain ⟨a, b, e⟩ := read_nan x h
    rw [e]; rfl
  · obtain ⟨a, b, e⟩ := read_nan y h
    rw [e]
    generalize double.read x = d
    cases d <;> rfl
end Go.Proofs.YtkidljiffeonjaaDoor
