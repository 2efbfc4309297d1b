/- The reference's Tell and Do answer as the code's. Plain. -/
import Derived.Test.YtkidljiffeonjaaDoorMovR
set_option linter.unusedVariables false
set_option linter.unusedSimpArgs false
namespace Go.Proofs.YtkidljiffeonjaaDoor

def hows : List Int := [1, 4, 5, 6, 7, 8]
def eqAt (x : MSeat) (k : Int) : Bool := decide (mTell x k = gTell x k) && decide (mDo x k = gDo x k)
def eqSeat (p d s : Nat) : Bool := (if s = 14 then hows else [0]).all fun h => !rHas p d s || (List.range 15).all fun k : Nat => eqAt ⟨p, d, s, h⟩ k
set_option maxRecDepth 100000 in
theorem eq_all : ((List.range 3).all fun p => (List.range 3).all fun d => (List.range 15).all fun s => p == 0 || d == 0 || eqSeat p d s) = true := by decide +kernel
theorem eq_wrong {x : MSeat} {k : Int} (h : mRight x = false) : mTell x k = gTell x k ∧ mDo x k = gDo x k := by
  unfold mTell gTell mDo gDo
  rw [if_pos h, if_pos h, if_pos h, if_pos h]; exact ⟨rfl, rfl⟩
theorem rTakes_out2 {p d k : Int} (h : ¬ (0 ≤ k ∧ k ≤ 14)) : rTakes p d k = false := by
  unfold rTakes; simp only [decide_eq_false_iff_not]; omega
theorem eq_out {x : MSeat} {k : Int} (hr : ¬ mRight x = false) (h : ¬ (0 ≤ k ∧ k ≤ 14)) : mTell x k = gTell x k ∧ mDo x k = gDo x k := by
  have h1 : (rLook x.p x.d k x.s).2 ≠ 0 := by
    unfold rLook; rw [rTakes_out2 h]
    by_cases hs : rSide x.p x.d = false
    · rw [if_pos hs]; simp
    · rw [if_neg hs, if_pos rfl]; simp
  have h2 : (rStep x.p x.d k x.s).2 ≠ 0 := by
    unfold rStep; rw [rSends_out (fun h' => h ⟨by omega, by omega⟩)]
    by_cases hs : rSide x.p x.d = false
    · rw [if_pos hs]; simp
    · rw [if_neg hs, if_pos rfl]; simp
  unfold mTell gTell mDo gDo
  rw [if_neg hr, if_neg hr, if_pos h1, if_pos h1, if_neg hr, if_neg hr, if_pos h2, if_pos h2]
  exact ⟨rfl, rfl⟩
theorem eq_any (x : MSeat) (k : Int) : mTell x k = gTell x k ∧ mDo x k = gDo x k := by
  by_cases hr : mRight x = false
  · exact eq_wrong hr
  by_cases hk : 0 ≤ k ∧ k ≤ 14
  case neg => exact eq_out hr hk
  have h1 := right_eq x
  rw [show mRight x = true by simpa using hr] at h1
  have h2 := h1.symm
  simp only [Bool.and_eq_true, decide_eq_true_eq] at h2
  obtain ⟨⟨⟨p1, p2, d1, d2⟩, hh⟩, hw⟩ := h2
  obtain ⟨p, d, s, h⟩ := x
  simp only at p1 p2 d1 d2 hh hw
  have hs : 1 ≤ s ∧ s ≤ 14 := by
    refine Decidable.byContradiction fun hs => ?_
    rw [rHas_out hs] at hh; cases hh
  obtain ⟨pn, rfl⟩ : ∃ n : Nat, p = n := ⟨p.toNat, by omega⟩
  obtain ⟨dn, rfl⟩ : ∃ n : Nat, d = n := ⟨d.toNat, by omega⟩
  obtain ⟨sn, rfl⟩ : ∃ n : Nat, s = n := ⟨s.toNat, by omega⟩
  obtain ⟨kn, rfl⟩ : ∃ n : Nat, k = n := ⟨k.toNat, by omega⟩
  have ha := List.all_eq_true.1 (List.all_eq_true.1 (List.all_eq_true.1 eq_all pn (List.mem_range.2 (by omega))) dn (List.mem_range.2 (by omega))) sn (List.mem_range.2 (by omega))
  simp only [Bool.or_eq_true, beq_iff_eq] at ha
  have hb : eqSeat pn dn sn = true := by
    rcases ha with (ha | ha) | ha
    · omega
    · omega
    · exact ha
  unfold eqSeat at hb
  have hm : h ∈ (if sn = 14 then hows else [0]) := by
    by_cases h14 : sn = 14
    · subst h14
      rw [if_pos (show ((14 : Nat) : Int) = 14 from rfl)] at hw
      rw [if_pos rfl]
      simp only [decide_eq_true_eq] at hw
      simp [hows]; omega
    · rw [if_neg h14]
      rw [if_neg (by omega)] at hw
      simpa using hw
  have hc := List.all_eq_true.1 hb h hm
  simp only [Bool.or_eq_true, Bool.not_eq_true', hh, Bool.true_eq_false, false_or] at hc
  have he := List.all_eq_true.1 hc kn (List.mem_range.2 (by omega))
  unfold eqAt at he
  simp only [Bool.and_eq_true, decide_eq_true_eq] at he
  exact he
end Go.Proofs.YtkidljiffeonjaaDoor
