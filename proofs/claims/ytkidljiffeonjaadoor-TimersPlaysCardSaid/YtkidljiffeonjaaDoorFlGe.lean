/- The sum of two delays is not less than either. No program. -/
import Derived.Test.YtkidljiffeonjaaDoorFlD
namespace Go.Proofs.YtkidljiffeonjaaDoor
open Ieee

theorem cut_low (n drop : Nat) (h : drop ≤ n.log2 + 2) : n / 2 ^ drop ≤ Toward.even.cut false n drop := by
  unfold Toward.cut
  rw [Nat.min_eq_left h, Nat.one_shiftLeft]
  dsimp only
  exact Nat.le_add_right _ _
/-- what is rounded from above does not fall below -/
theorem nearest_ge (a mag q : Nat) (ha : a ≤ 9218868437227405312) (h : fval a ≤ mag * 2 ^ q) : a ≤ double.nearest false mag (double.leastPlace + (q : Int)) := by
  have e2 : double.binade = 4503599627370496 := by decide
  have e3 : double.infRung = 9218868437227405312 := by decide
  have e4 : double.fractionBits = 52 := rfl
  by_cases hm : mag = 0
  · subst hm
    have : a = 0 := by
      rcases Nat.eq_zero_or_pos a with h0 | h0
      · exact h0
      · have := fval_lt h0; rw [fval_zero] at this; omega
    omega
  unfold Format.nearest
  rw [if_neg hm]
  dsimp only
  rw [e2, e3, e4]
  unfold Format.word
  simp only [Bool.false_eq_true, if_false]
  refine Nat.le_min.2 ⟨?_, ha⟩
  obtain ⟨l, hl⟩ : ∃ l, mag.log2 = l := ⟨_, rfl⟩
  obtain ⟨e, he⟩ : ∃ e, e = q + l - 52 := ⟨_, rfl⟩
  have hlast : max (double.leastPlace + (q : Int) + ((mag.log2 : Nat) : Int) - ((52 : Nat) : Int)) double.leastPlace = double.leastPlace + (e : Int) := by omega
  rw [hlast]
  have z3 : (double.leastPlace + (e : Int) - double.leastPlace).toNat = e := by omega
  rw [z3]
  obtain ⟨up, hup⟩ : ∃ up, (double.leastPlace + (q : Int) - (double.leastPlace + (e : Int))).toNat = up := ⟨_, rfl⟩
  obtain ⟨dn, hdn⟩ : ∃ dn, (double.leastPlace + (e : Int) - (double.leastPlace + (q : Int))).toNat = dn := ⟨_, rfl⟩
  rw [hup, hdn, Nat.shiftLeft_eq]
  have hN1 : 2 ^ (q + l) ≤ mag * 2 ^ q := by
    have := (Nat.le_log2 hm (k := l)).1 (by omega)
    rw [Nat.add_comm, Nat.pow_add]; exact Nat.mul_le_mul_right _ this
  have hN2 : mag * 2 ^ q < 2 ^ (q + l + 1) := by
    have := (Nat.log2_lt hm (k := l + 1)).1 (by omega)
    rw [show q + l + 1 = l + 1 + q by omega, Nat.pow_add]
    exact Nat.mul_lt_mul_of_pos_right this (Nat.two_pow_pos _)
  have hkept : mag * 2 ^ q / 2 ^ e ≤ Toward.even.cut false (mag * 2 ^ up) dn := by
    by_cases hqe : e ≤ q
    · have hdn0 : dn = 0 := by omega
      subst hdn0
      refine Nat.le_trans ?_ (cut_low _ 0 (by omega))
      rw [Nat.pow_zero, Nat.div_one, show q = up + e by omega, Nat.pow_add, ← Nat.mul_assoc, Nat.mul_div_cancel _ (Nat.two_pow_pos _)]
      exact Nat.le_refl _
    · have hup0 : up = 0 := by omega
      subst hup0
      rw [Nat.pow_zero, Nat.mul_one]
      refine Nat.le_trans ?_ (cut_low _ dn (by omega))
      rw [show e = dn + q by omega, Nat.pow_add, Nat.mul_div_mul_right _ _ (Nat.two_pow_pos _)]
      exact Nat.le_refl _
  refine Nat.le_trans ?_ (Nat.add_le_add_left hkept _)
  obtain ⟨N, hN⟩ : ∃ N, mag * 2 ^ q = N := ⟨_, rfl⟩
  rw [hN] at hN1 hN2 h ⊢
  -- a's own rung
  obtain ⟨ea, sg, h1, h2, h3, h4⟩ : ∃ ea sg, a = ea * 4503599627370496 + sg ∧ fval a = sg * 2 ^ ea ∧ sg < 9007199254740992 ∧ (ea = 0 ∨ 4503599627370496 ≤ sg) := by
    by_cases hb : a < 4503599627370496
    · exact ⟨0, a, by omega, by unfold fval; rw [if_pos hb]; simp, by omega, .inl rfl⟩
    · exact ⟨a / 4503599627370496 - 1, 4503599627370496 + a % 4503599627370496, by omega, by unfold fval; rw [if_neg hb], by omega, .inr (by omega)⟩
  rw [h2] at h
  rcases Nat.lt_trichotomy ea e with hlt | heq | hgt
  · have hb : 4503599627370496 ≤ N / 2 ^ e := by
      rw [Nat.le_div_iff_mul_le (Nat.two_pow_pos _)]
      refine Nat.le_trans ?_ hN1
      rw [show (4503599627370496 : Nat) = 2 ^ 52 by decide, ← Nat.pow_add]
      exact Nat.pow_le_pow_right (by decide) (by omega)
    have : (ea + 1) * 4503599627370496 ≤ e * 4503599627370496 := Nat.mul_le_mul_right _ hlt
    omega
  · subst heq
    have : sg ≤ N / 2 ^ ea := (Nat.le_div_iff_mul_le (Nat.two_pow_pos _)).2 h
    omega
  · exfalso
    have hs : 4503599627370496 ≤ sg := by omega
    have h5 : 2 ^ (52 + ea) ≤ N := by
      refine Nat.le_trans ?_ h
      rw [Nat.pow_add]
      exact Nat.mul_le_mul_right _ (by rw [show (2 ^ 52 : Nat) = 4503599627370496 by decide]; exact hs)
    have h6 : 2 ^ (q + l + 1) ≤ 2 ^ (52 + ea) := Nat.pow_le_pow_right (by decide) (by omega)
    omega
theorem add_ge (a b : Nat) (ha : a ≤ 9218868437227405312) (hb : b ≤ 9218868437227405312) : ∃ r, double.add a b = some r ∧ a ≤ r := by
  have e3 : double.infRung = 9218868437227405312 := by decide
  have rd : ∀ x, x ≤ 9218868437227405312 → (∃ (m i : Nat), double.read x = .number false m (double.leastPlace + (i : Int)) ∧ m * 2 ^ i = fval x) ∨ double.read x = .infinity false := fun a ha => by
    have hd : a / 9223372036854775808 = 0 := by omega
    have hm : a % 9223372036854775808 = a := by omega
    by_cases h : a < 9218868437227405312
    · obtain ⟨m, i, e, e'⟩ := read_num a (by rw [hm]; exact h)
      rw [hd] at e; rw [hm] at e'
      exact .inl ⟨m, i, e, e'⟩
    · have e := read_inf a (by rw [hm]; omega)
      rw [hd] at e
      exact .inr e
  have winf : double.write (.infinity false) = 9218868437227405312 := by
    unfold Format.write Format.word
    rw [e3]; simp
  unfold Format.add
  rcases rd a ha with ⟨m, i, ea, va⟩ | ea <;> rcases rd b hb with ⟨n, j, eb, vb⟩ | eb <;> rw [ea, eb]
  · refine ⟨_, rfl, ?_⟩
    show a ≤ double.write _
    unfold Format.write
    obtain ⟨l, hl⟩ : ∃ l, l = min i j := ⟨_, rfl⟩
    have hbase : min (double.leastPlace + (i : Int)) (double.leastPlace + (j : Int)) = double.leastPlace + (l : Int) := by omega
    dsimp only
    rw [hbase]
    have u1 : (double.leastPlace + (i : Int) - (double.leastPlace + (l : Int))).toNat = i - l := by omega
    have u2 : (double.leastPlace + (j : Int) - (double.leastPlace + (l : Int))).toNat = j - l := by omega
    rw [u1, u2, signed_sgn, signed_sgn]
    have s1 : ∀ x, sgn false x = (x : Int) := fun x => by unfold sgn; simp
    rw [s1, s1]
    obtain ⟨t, ht⟩ : ∃ t : Nat, t = m * 2 ^ (i - l) + n * 2 ^ (j - l) := ⟨_, rfl⟩
    have ht' : ((m * 2 ^ (i - l) : Nat) : Int) + ((n * 2 ^ (j - l) : Nat) : Int) = (t : Int) := by rw [ht, Int.natCast_add]
    rw [ht', Int.natAbs_natCast]
    have hs : (if (t : Int) = 0 then (false && false) else decide ((t : Int) < 0)) = false := by
      split
      · rfl
      · exact decide_eq_false (by omega)
    rw [hs]
    refine nearest_ge a t l ha ?_
    rw [← va, ht, Nat.add_mul, Nat.mul_assoc, ← Nat.pow_add, show i - l + l = i by omega]
    exact Nat.le_add_right _ _
  · exact ⟨_, rfl, by rw [winf]; exact ha⟩
  · exact ⟨_, rfl, by rw [winf]; exact ha⟩
  · exact ⟨_, rfl, by rw [winf]; exact ha⟩
theorem fsum_ge (a b : Nat) (ha : a ≤ 9218868437227405312) (hb : b ≤ 9218868437227405312) : a ≤ fsum a b := by
  obtain ⟨r, e, h⟩ := add_ge a b ha hb
  unfold fsum
  rw [e]
  exact h
end Go.Proofs.YtkidljiffeonjaaDoor
