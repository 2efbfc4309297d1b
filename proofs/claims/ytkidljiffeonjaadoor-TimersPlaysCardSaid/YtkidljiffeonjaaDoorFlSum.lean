/- The sum of two delays is one: floats of 64 bits by their bits. No program. -/
import Derived.Test.YtkidljiffeonjaaDoorFloat
namespace Go.Proofs.YtkidljiffeonjaaDoor
open Ieee

theorem nearest_pos (mag : Nat) (place : Int) : double.nearest false mag place ≤ 9218868437227405312 := by
  have e3 : double.infRung = 9218868437227405312 := by decide
  unfold Format.nearest
  dsimp only
  split
  · unfold Format.word; simp
  · unfold Format.word
    rw [e3]
    simp only [Bool.false_eq_true, if_false]
    exact Nat.min_le_right _ _
theorem add_delay (a b : Nat) (ha : a ≤ 9218868437227405312) (hb : b ≤ 9218868437227405312) : ∃ r, double.add a b = some r ∧ r ≤ 9218868437227405312 := by
  have e3 : double.infRung = 9218868437227405312 := by decide
  have ra : (∃ m i, double.read a = .number false m i) ∨ double.read a = .infinity false := by
    have hd : a / 9223372036854775808 = 0 := by omega
    have hm : a % 9223372036854775808 = a := by omega
    by_cases h : a < 9218868437227405312
    · obtain ⟨m, i, e, _⟩ := read_num a (by rw [hm]; exact h)
      rw [hd] at e
      exact .inl ⟨m, _, e⟩
    · have e := read_inf a (by rw [hm]; omega)
      rw [hd] at e
      exact .inr e
  have rb : (∃ m i, double.read b = .number false m i) ∨ double.read b = .infinity false := by
    have hd : b / 9223372036854775808 = 0 := by omega
    have hm : b % 9223372036854775808 = b := by omega
    by_cases h : b < 9218868437227405312
    · obtain ⟨m, i, e, _⟩ := read_num b (by rw [hm]; exact h)
      rw [hd] at e
      exact .inl ⟨m, _, e⟩
    · have e := read_inf b (by rw [hm]; omega)
      rw [hd] at e
      exact .inr e
  have winf : double.write (.infinity false) ≤ 9218868437227405312 := by
    unfold Format.write Format.word
    rw [e3]; simp
  unfold Format.add
  rcases ra with ⟨m, i, ea⟩ | ea <;> rcases rb with ⟨n, j, eb⟩ | eb <;> rw [ea, eb]
  · refine ⟨_, rfl, ?_⟩
    have hs : ∀ t : Int, 0 ≤ t → (if t = 0 then (false && false) else decide (t < 0)) = false := fun t ht => by
      split
      · rfl
      · exact decide_eq_false (by omega)
    show double.write _ ≤ _
    unfold Format.write
    have hn : ∀ (m up : Nat), 0 ≤ signed false m up := fun m up => by rw [signed_sgn]; unfold sgn; rw [if_neg (by decide)]; exact Int.natCast_nonneg _
    rw [hs _ (Int.add_nonneg (hn _ _) (hn _ _))]
    exact nearest_pos _ _
  · exact ⟨_, rfl, winf⟩
  · exact ⟨_, rfl, winf⟩
  · exact ⟨_, rfl, winf⟩
end Go.Proofs.YtkidljiffeonjaaDoor
