/- Plain laws: the program's tables are the reference's. -/
import Derived.Test.YtkidljiffeonjaaDoorTabF
set_option linter.unusedVariables false
namespace Go.Proofs.YtkidljiffeonjaaDoor

theorem tabOf_cases {p d : Int} {t : Tab} (ht : tabOf p d = some t) : p = 1 ∧ d = 1 ∧ t = tCP ∨ p = 2 ∧ d = 1 ∧ t = tCC ∨ p = 1 ∧ d = 2 ∧ t = tPP ∨ p = 2 ∧ d = 2 ∧ t = tPC := by
  unfold tabOf at ht
  repeat' split at ht
  all_goals simp_all
theorem tabOf_none {p d : Int} (h : tabOf p d = none) : rSide p d = false := by
  unfold tabOf at h
  (repeat' split at h) <;> simp_all [rSide]
  omega
theorem tabOf_some {p d : Int} {t : Tab} (ht : tabOf p d = some t) : rSide p d = true := by
  rcases tabOf_cases ht with ⟨rfl, rfl, rfl⟩ | ⟨rfl, rfl, rfl⟩ | ⟨rfl, rfl, rfl⟩ | ⟨rfl, rfl, rfl⟩ <;> rfl
theorem nat14 {k : Int} (h : 1 ≤ k ∧ k ≤ 14) : ∃ n : Fin 15, k = ((n.val : Nat) : Int) := ⟨⟨k.toNat, by omega⟩, by simp; omega⟩
/-- all that is asked of a side's table, at numbers of states and kinds -/
def okAt (p d : Int) (t : Tab) : Bool :=
  decide (∀ n : Fin 15, (idxOf (t.rows.map (·.1)) (n.val : Nat) < 0 ↔ rTakes p d (n.val : Nat) = false) ∧ (idxOf (t.acts.map (·.1)) (n.val : Nat) < 0 ↔ rSends p d (n.val : Nat) = false) ∧ tHas t (n.val : Nat) = rHas p d (n.val : Nat) ∧
    (tHas t (n.val : Nat) = true → tWaited t (n.val : Nat) = rWaits d (n.val : Nat)) ∧
    ∀ m : Fin 15, tLook p d (n.val : Nat) (m.val : Nat) = rLook p d (n.val : Nat) (m.val : Nat) ∧ tStep p d (n.val : Nat) (m.val : Nat) = rStep p d (n.val : Nat) (m.val : Nat))
theorem ok1 : okAt 1 1 tCP = true := by decide +kernel
theorem ok2 : okAt 2 1 tCC = true := by decide +kernel
theorem ok3 : okAt 1 2 tPP = true := by decide +kernel
theorem ok4 : okAt 2 2 tPC = true := by decide +kernel
theorem ok_tab {p d : Int} {t : Tab} (ht : tabOf p d = some t) : okAt p d t = true := by
  rcases tabOf_cases ht with ⟨rfl, rfl, rfl⟩ | ⟨rfl, rfl, rfl⟩ | ⟨rfl, rfl, rfl⟩ | ⟨rfl, rfl, rfl⟩
  · exact ok1
  · exact ok2
  · exact ok3
  · exact ok4
theorem keys14 {p d : Int} {t : Tab} (ht : tabOf p d = some t) : (∀ k ∈ t.rows.map (·.1), 1 ≤ k ∧ k ≤ 14) ∧ (∀ k ∈ t.acts.map (·.1), 1 ≤ k ∧ k ≤ 14) := by
  rcases tabOf_cases ht with ⟨rfl, rfl, rfl⟩ | ⟨rfl, rfl, rfl⟩ | ⟨rfl, rfl, rfl⟩ | ⟨rfl, rfl, rfl⟩ <;> decide
theorem idx_out {ks : List Int} (h : ∀ k ∈ ks, 1 ≤ k ∧ k ≤ 14) {k : Int} (hk : ¬ (1 ≤ k ∧ k ≤ 14)) : idxOf ks k = -1 :=
  idxOf_none fun i hi he => hk (he ▸ h _ (List.getElem_mem hi))
theorem rTakes_out {p d k : Int} (hk : ¬ (1 ≤ k ∧ k ≤ 14)) : rTakes p d k = false := by simp [rTakes]; omega
theorem rSends_out {p d k : Int} (hk : ¬ (1 ≤ k ∧ k ≤ 14)) : rSends p d k = false := by simp [rSends]; omega
theorem rHas_out {p d s : Int} (hs : ¬ (1 ≤ s ∧ s ≤ 14)) : rHas p d s = false := by simp [rHas]; omega
theorem tHas_out {t : Tab} {s : Int} (hs : ¬ (1 ≤ s ∧ s ≤ 14)) : tHas t s = false := by simp only [tHas]; simp; intro h1 h2; omega
theorem tHas_eq {p d s : Int} {t : Tab} (ht : tabOf p d = some t) : tHas t s = rHas p d s := by
  by_cases hs : 1 ≤ s ∧ s ≤ 14
  · obtain ⟨n, rfl⟩ := nat14 hs
    exact ((of_decide_eq_true (ok_tab ht)) n).2.2.1
  · rw [tHas_out hs, rHas_out hs]

theorem tLook_eq (p d k s : Int) : tLook p d k s = rLook p d k s := by
  cases ht : tabOf p d with
  | none => simp only [tLook, ht, rLook, tabOf_none ht, if_true]
  | some t =>
    have hok := of_decide_eq_true (ok_tab ht)
    by_cases hk : 1 ≤ k ∧ k ≤ 14
    · obtain ⟨n, rfl⟩ := nat14 hk
      by_cases hs : 1 ≤ s ∧ s ≤ 14
      · obtain ⟨m, rfl⟩ := nat14 hs
        exact ((hok n).2.2.2.2 m).1
      · have h1 := (hok n).1
        simp only [tLook, ht, rLook, tabOf_some ht, tHas_out hs, rHas_out hs, if_true, Bool.true_eq_false, if_false]
        by_cases hx : idxOf (t.rows.map (·.1)) (n.val : Nat) < 0
        · rw [if_pos hx, if_pos (h1.1 hx)]
        · rw [if_neg hx, if_neg (fun h => hx (h1.2 h))]
    · simp only [tLook, ht, rLook, tabOf_some ht, idx_out (keys14 ht).1 hk, rTakes_out hk, Bool.true_eq_false, if_false, if_true, show (-1 : Int) < 0 from by decide]

theorem tStep_eq (p d k s : Int) : tStep p d k s = rStep p d k s := by
  cases ht : tabOf p d with
  | none => simp only [tStep, ht, rStep, tabOf_none ht, if_true]
  | some t =>
    have hok := of_decide_eq_true (ok_tab ht)
    by_cases hk : 1 ≤ k ∧ k ≤ 14
    · obtain ⟨n, rfl⟩ := nat14 hk
      by_cases hs : 1 ≤ s ∧ s ≤ 14
      · obtain ⟨m, rfl⟩ := nat14 hs
        exact ((hok n).2.2.2.2 m).2
      · have h1 := (hok n).2.1
        simp only [tStep, ht, rStep, tabOf_some ht, tHas_out hs, rHas_out hs, if_true, Bool.true_eq_false, if_false]
        by_cases hx : idxOf (t.acts.map (·.1)) (n.val : Nat) < 0
        · rw [if_pos hx, if_pos (h1.1 hx)]
        · rw [if_neg hx, if_neg (fun h => hx (h1.2 h))]
    · simp only [tStep, ht, rStep, tabOf_some ht, idx_out (keys14 ht).2 hk, rSends_out hk, Bool.true_eq_false, if_false, if_true, show (-1 : Int) < 0 from by decide]

/-- what tables.Waits answers -/
def rWait (p d s : Int) : Int × Int := if rSide p d = false then (0, 14) else if rHas p d s = false then (0, 1) else (rWaits d s, 0)
theorem tWaits_eq (p d s : Int) : tWaits p d s = rWait p d s := by
  cases ht : tabOf p d with
  | none => simp only [tWaits, ht, rWait, tabOf_none ht, if_true]
  | some t =>
    simp only [tWaits, ht, rWait, tabOf_some ht, tHas_eq ht, Bool.true_eq_false, if_false]
    by_cases hs : 1 ≤ s ∧ s ≤ 14
    · obtain ⟨m, rfl⟩ := nat14 hs
      have h := (of_decide_eq_true (ok_tab ht) m).2.2
      split
      · rfl
      · rename_i hn
        rw [h.2.1 (by rw [tHas_eq ht]; simpa using hn)]
    · rw [rHas_out hs, if_pos rfl, if_pos rfl]
end Go.Proofs.YtkidljiffeonjaaDoor
