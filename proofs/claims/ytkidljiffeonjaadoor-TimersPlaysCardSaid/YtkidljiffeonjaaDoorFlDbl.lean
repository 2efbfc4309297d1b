/- Doubling a delay: by a sum with itself and by a product with 2, the same bits. No program. -/
import Derived.Test.YtkidljiffeonjaaDoorFlSum
namespace Go.Proofs.YtkidljiffeonjaaDoor
open Ieee

theorem log2_of {m k : Nat} (h1 : 2 ^ k ≤ m) (h2 : m < 2 ^ (k + 1)) : m.log2 = k := by
  have hm : m ≠ 0 := by have := Nat.two_pow_pos k; omega
  have a := (Nat.le_log2 hm (k := k)).2 h1
  have b := (Nat.log2_lt hm (k := k + 1)).2 h2
  omega
theorem log2_mul {m j : Nat} (hm : m ≠ 0) : (m * 2 ^ j).log2 = m.log2 + j := by
  have h1 := (Nat.le_log2 hm (k := m.log2)).1 (Nat.le_refl _)
  have h2 := (Nat.log2_lt hm (k := m.log2 + 1)).1 (Nat.lt_succ_self _)
  refine log2_of ?_ ?_
  · rw [Nat.pow_add]; exact Nat.mul_le_mul_right _ h1
  · rw [show m.log2 + j + 1 = m.log2 + 1 + j by omega, Nat.pow_add]
    exact Nat.mul_lt_mul_of_pos_right h2 (Nat.two_pow_pos _)
theorem cut_exact (m j : Nat) (hm : m ≠ 0) : Toward.even.cut false (m * 2 ^ j) j = m := by
  have hl := log2_mul (j := j) hm
  unfold Toward.cut
  rw [hl, Nat.min_eq_left (by omega), Nat.one_shiftLeft]
  have hp := Nat.two_pow_pos j
  dsimp only
  rw [Nat.mul_div_cancel _ hp, Nat.mul_mod_left]
  have h1 : ¬ (2 ^ j < 2 * 0) := by omega
  have h2 : ((2 ^ j == 2 * 0) = false) := by rw [beq_eq_false_iff_ne]; omega
  simp [h2]
/-- what comes out where nothing has to be rounded -/
theorem nearest_exact (m j e : Nat) (p : Int) (hm : m ≠ 0) (hp : p + (j : Int) = double.leastPlace + (e : Int)) (h : m < 9007199254740992) (hb : 4503599627370496 ≤ m ∨ e = 0) : double.nearest false (m * 2 ^ j) p = min (e * 4503599627370496 + m) 9218868437227405312 := by
  have e2 : double.binade = 4503599627370496 := by decide
  have e3 : double.infRung = 9218868437227405312 := by decide
  have e4 : double.fractionBits = 52 := rfl
  have hne : m * 2 ^ j ≠ 0 := Nat.mul_ne_zero hm (by have := Nat.two_pow_pos j; omega)
  unfold Format.nearest
  rw [if_neg hne, log2_mul hm]
  dsimp only
  rw [e2, e3, e4]
  have hlog : m.log2 ≤ 52 := by
    have := (Nat.log2_lt hm (k := 53)).2 (by omega)
    omega
  have hlast : max (p + ((m.log2 + j : Nat) : Int) - ((52 : Nat) : Int)) double.leastPlace = double.leastPlace + (e : Int) := by
    rcases hb with hb | hb
    · have : m.log2 = 52 := log2_of (by omega) (by omega)
      omega
    · omega
  rw [hlast]
  have z1 : (p - (double.leastPlace + (e : Int))).toNat = 0 := by omega
  have z2 : (double.leastPlace + (e : Int) - p).toNat = j := by omega
  have z3 : (double.leastPlace + (e : Int) - double.leastPlace).toNat = e := by omega
  rw [z1, z2, z3, Nat.shiftLeft_zero, cut_exact m j hm]
  unfold Format.word
  simp
def dblR (r : Nat) : Nat := min (if r < 4503599627370496 then 2 * r else r + 4503599627370496) 9218868437227405312
theorem read_sub (r : Nat) (h : r < 4503599627370496) : double.read r = .number false r double.leastPlace := by
  have e1 : double.signWeight = 9223372036854775808 := by decide
  have e2 : double.binade = 4503599627370496 := by decide
  unfold Format.read
  simp only [e1, e2]
  rw [Nat.mod_eq_of_lt (by omega), if_pos h, show r / 9223372036854775808 = 0 by omega]
  rfl
theorem read_norm (r : Nat) (h1 : 4503599627370496 ≤ r) (h2 : r < 9218868437227405312) : double.read r = .number false (4503599627370496 + r % 4503599627370496) (double.leastPlace + ((r / 4503599627370496 - 1 : Nat) : Int)) := by
  have e1 : double.signWeight = 9223372036854775808 := by decide
  have e2 : double.binade = 4503599627370496 := by decide
  have e3 : double.infRung = 9218868437227405312 := by decide
  unfold Format.read
  simp only [e1, e2, e3]
  rw [Nat.mod_eq_of_lt (by omega : r < 9223372036854775808), if_neg (by omega), if_pos h2, show r / 9223372036854775808 = 0 by omega]
  rfl
theorem read_top : double.read 9218868437227405312 = .infinity false := by
  have := read_inf 9218868437227405312 (by decide)
  rw [this]; rfl
theorem dbl_add (r : Nat) (h : r ≤ 9218868437227405312) : double.add r r = some (dblR r) := by
  unfold Format.add dblR
  by_cases h0 : r < 4503599627370496
  · rw [read_sub r h0, if_pos h0]
    unfold Datum.sum
    simp only [Int.min_self, Int.sub_self, Int.toNat_zero, Option.map_some, Option.some.injEq, signed_sgn, Nat.pow_zero, Nat.mul_one]
    have hs : sgn false r + sgn false r = ((2 * r : Nat) : Int) := by unfold sgn; simp; omega
    rw [hs]
    have hsg : (if ((2 * r : Nat) : Int) = 0 then (false && false) else decide (((2 * r : Nat) : Int) < 0)) = false := by
      split
      · rfl
      · exact decide_eq_false (by omega)
    rw [hsg, Int.natAbs_natCast]
    show double.nearest false (2 * r) double.leastPlace = _
    by_cases hz : r = 0
    · subst hz; decide
    · have := nearest_exact (2 * r) 0 0 double.leastPlace (by omega) (by simp) (by omega) (.inr rfl)
      rw [Nat.pow_zero, Nat.mul_one] at this
      rw [this]; omega
  · rw [if_neg h0]
    by_cases h1 : r < 9218868437227405312
    · rw [read_norm r (by omega) h1]
      obtain ⟨m, hm⟩ : ∃ m, m = 4503599627370496 + r % 4503599627370496 := ⟨_, rfl⟩
      obtain ⟨i, hi⟩ : ∃ i, i = r / 4503599627370496 - 1 := ⟨_, rfl⟩
      rw [← hm, ← hi]
      unfold Datum.sum
      simp only [Int.min_self, Int.sub_self, Int.toNat_zero, Option.map_some, Option.some.injEq, signed_sgn, Nat.pow_zero, Nat.mul_one]
      have hs : sgn false m + sgn false m = ((m * 2 ^ 1 : Nat) : Int) := by unfold sgn; simp; omega
      rw [hs]
      have hsg : (if ((m * 2 ^ 1 : Nat) : Int) = 0 then (false && false) else decide (((m * 2 ^ 1 : Nat) : Int) < 0)) = false := by
        split
        · rfl
        · exact decide_eq_false (by omega)
      rw [hsg, Int.natAbs_natCast]
      show double.nearest false (m * 2 ^ 1) (double.leastPlace + (i : Int)) = _
      rw [nearest_exact m 1 (i + 1) _ (by omega) (by omega) (by omega) (.inl (by omega))]
      congr 1
      omega
    · obtain rfl : r = 9218868437227405312 := by omega
      rw [read_top]
      decide
theorem dbl_mul (r : Nat) (h : r ≤ 9218868437227405312) : double.mul r 4611686018427387904 = some (dblR r) := by
  have h2 : double.read 4611686018427387904 = .number false 4503599627370496 (double.leastPlace + 1023) := by rw [read_norm _ (by omega) (by omega)]; rfl
  have hL : double.leastPlace = -1074 := by decide
  unfold Format.mul dblR
  rw [h2]
  by_cases h0 : r < 4503599627370496
  · rw [read_sub r h0, if_pos h0]
    unfold Datum.product
    simp only [Option.map_some, Option.some.injEq, Bool.xor_self]
    show double.nearest false (r * 4503599627370496) (double.leastPlace + (double.leastPlace + 1023)) = _
    by_cases hz : r = 0
    · subst hz
      unfold Format.nearest
      rw [Nat.zero_mul, if_pos rfl]
      rfl
    · have := nearest_exact (2 * r) 51 0 (double.leastPlace + (double.leastPlace + 1023)) (by omega) (by omega) (by omega) (.inr rfl)
      rw [show 2 * r * 2 ^ 51 = r * 4503599627370496 by omega] at this
      rw [this]; omega
  · rw [if_neg h0]
    by_cases h1 : r < 9218868437227405312
    · rw [read_norm r (by omega) h1]
      obtain ⟨m, hm⟩ : ∃ m, m = 4503599627370496 + r % 4503599627370496 := ⟨_, rfl⟩
      obtain ⟨i, hi⟩ : ∃ i, i = r / 4503599627370496 - 1 := ⟨_, rfl⟩
      rw [← hm, ← hi]
      unfold Datum.product
      simp only [Option.map_some, Option.some.injEq, Bool.xor_self]
      show double.nearest false (m * 2 ^ 52) (double.leastPlace + (i : Int) + (double.leastPlace + 1023)) = _
      rw [nearest_exact m 52 (i + 1) _ (by omega) (by omega) (by omega) (.inl (by omega))]
      congr 1
      omega
    · obtain rfl : r = 9218868437227405312 := by omega
      rw [read_top]
      decide
end Go.Proofs.YtkidljiffeonjaaDoor
