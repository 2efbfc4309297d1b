/- A delay that is doubled up to a limit: doubling while it is below the limit, and doubling to the end, come to the same. No program. -/
import Derived.Test.YtkidljiffeonjaaDoorFlDbl
namespace Go.Proofs.YtkidljiffeonjaaDoor

/-- n doublings -/
def itD : Nat → Nat → Nat
  | 0, x => x
  | n + 1, x => dblR (itD n x)
theorem dblR_le (x : Nat) : dblR x ≤ 9218868437227405312 := Nat.min_le_right _ _
theorem dblR_ge (x : Nat) (h : x ≤ 9218868437227405312) : x ≤ dblR x := by unfold dblR; split <;> omega
theorem dblR_zero : dblR 0 = 0 := by decide
theorem itD_le (n x : Nat) (h : x ≤ 9218868437227405312) : itD n x ≤ 9218868437227405312 := by
  cases n with
  | zero => exact h
  | succ n => exact dblR_le _
theorem itD_zero (n : Nat) : itD n 0 = 0 := by
  induction n with
  | zero => rfl
  | succ n ih => unfold itD; rw [ih, dblR_zero]
theorem itD_mono (x : Nat) (h : x ≤ 9218868437227405312) {j n : Nat} (hjn : j ≤ n) : itD j x ≤ itD n x := by
  induction n with
  | zero => rw [show j = 0 by omega]; exact Nat.le_refl _
  | succ n ih =>
    by_cases hj : j = n + 1
    · rw [hj]; exact Nat.le_refl _
    · exact Nat.le_trans (ih (by omega)) (dblR_ge _ (itD_le n x h))
theorem itD_low (x : Nat) (h1 : 1 ≤ x) (n : Nat) : min (2 ^ n) 4503599627370496 ≤ itD n x := by
  induction n with
  | zero => unfold itD; omega
  | succ n ih =>
    unfold itD dblR
    rw [Nat.pow_succ]
    generalize 2 ^ n = p at *
    generalize itD n x = y at *
    split <;> omega
theorem itD_high (x : Nat) (h1 : 4503599627370496 ≤ x) (h : x ≤ 9218868437227405312) (n : Nat) : min (x + n * 4503599627370496) 9218868437227405312 ≤ itD n x ∧ 4503599627370496 ≤ itD n x := by
  induction n with
  | zero => unfold itD; omega
  | succ n ih =>
    rw [show itD (n + 1) x = dblR (itD n x) from rfl, Nat.succ_mul]
    unfold dblR
    generalize itD n x = y at *
    generalize n * 4503599627370496 = q at *
    obtain ⟨i1, i2⟩ := ih
    rw [if_neg (by omega)]
    constructor <;> omega
theorem itD_succ (n x : Nat) : itD (n + 1) x = dblR (itD n x) := rfl
theorem itD_add (m n x : Nat) : itD (m + n) x = itD m (itD n x) := by
  induction m with
  | zero => rw [Nat.zero_add]; rfl
  | succ m ih => rw [Nat.succ_add, itD_succ, itD_succ, ih]
theorem itD_top (x : Nat) (h1 : 1 ≤ x) (h : x ≤ 9218868437227405312) : itD 2200 x = 9218868437227405312 := by
  have a := itD_low x h1 53
  rw [show (2 : Nat) ^ 53 = 9007199254740992 by decide] at a
  have b := itD_high (itD 53 x) (by omega) (itD_le 53 x h) 2147
  have c := itD_le 2200 x h
  rw [show 2200 = 2147 + 53 from rfl, itD_add] at c ⊢
  omega
/-- BOTH COME TO THE SAME: j doublings, where the code stops; t doublings asked -/
theorem backoff_eq (x limit j t : Nat) (h : x ≤ 9218868437227405312) (hl : limit ≤ 9218868437227405312) (hj : j ≤ t) (hb : ∀ i, i < j → 0 < itD i x ∧ itD i x < limit) (hs : j = t ∨ itD j x = 0 ∨ limit ≤ itD j x) :
    min (itD j x) limit = if limit < itD (min t 2200) x then limit else itD (min t 2200) x := by
  by_cases hz : x = 0
  · subst hz
    rw [itD_zero, itD_zero]
    split <;> omega
  have hj2 : j ≤ 2200 := by
    refine Decidable.byContradiction fun hn => ?_
    have := (hb 2200 (by omega)).2
    rw [itD_top x (by omega) h] at this
    omega
  have hm : itD j x ≤ itD (min t 2200) x := itD_mono x h (by omega)
  rcases hs with hs | hs | hs
  · have : min t 2200 = j := by omega
    rw [this]
    split <;> omega
  · have h1 : x ≤ itD j x := itD_mono x h (Nat.zero_le j)
    omega
  · split <;> omega
end Go.Proofs.YtkidljiffeonjaaDoor
