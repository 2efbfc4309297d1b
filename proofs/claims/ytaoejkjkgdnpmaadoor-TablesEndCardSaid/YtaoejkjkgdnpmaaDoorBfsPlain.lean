/- Whither a side goes from every state, in the order in which the law comes to states. No program in sight. -/
import Derived.Test.YtaoejkjkgdnpmaaDoorTabN
set_option linter.unusedVariables false
namespace Go.Proofs.YtaoejkjkgdnpmaaDoor

/-- a state's nexts by what it takes, by what it sends -/
def nextT (p d x : Int) (k : Int) : Option Int := if (rLook p d k x).2 = 0 ∧ (rLook p d k x).1.1 = 1 then some (rLook p d k x).1.2.1 else none
def nextS (p d x : Int) (k : Int) : Option Int := if (rStep p d k x).2 = 0 then some (rStep p d k x).1 else none
def nextL (p d x : Int) : List Int := (upto (rTakes p d)).filterMap (nextT p d x) ++ (upto (rSends p d)).filterMap (nextS p d x)
def addN (acc : List Int) (n : Int) : List Int := if acc.contains n = true then acc else acc ++ [n]
structure BRow where
  p : Int
  d : Int
  s : Int
  full : List Int
  m : List Nat
def bRows : List BRow := [
  (⟨1, 1, 1, [1, 13, 5, 8, 12, 2, 14, 6, 7, 9, 11], [1, 6, 7, 9, 9, 9, 10, 10, 10, 11, 11, 11]⟩ : BRow),
  (⟨1, 1, 2, [2, 13, 5, 9, 12, 14, 6, 7, 11], [1, 6, 6, 8, 8, 8, 8, 8, 9, 9]⟩ : BRow),
  (⟨1, 1, 5, [5, 6, 7, 14, 11], [1, 3, 4, 5, 5, 5]⟩ : BRow),
  (⟨1, 1, 6, [6, 14], [1, 2, 2]⟩ : BRow),
  (⟨1, 1, 7, [7, 11, 14], [1, 3, 3, 3]⟩ : BRow),
  (⟨1, 1, 8, [8, 14], [1, 2, 2]⟩ : BRow),
  (⟨1, 1, 9, [9, 14], [1, 2, 2]⟩ : BRow),
  (⟨1, 1, 11, [11, 14], [1, 2, 2]⟩ : BRow),
  (⟨1, 1, 12, [12, 14], [1, 2, 2]⟩ : BRow),
  (⟨1, 1, 13, [13, 14], [1, 2, 2]⟩ : BRow),
  (⟨1, 1, 14, [14], [1, 1]⟩ : BRow),
  (⟨1, 2, 1, [1, 2, 13, 5, 8, 12, 9, 14, 6, 7, 11], [1, 6, 8, 8, 10, 10, 10, 10, 10, 10, 11, 11]⟩ : BRow),
  (⟨1, 2, 2, [2, 9, 14], [1, 3, 3, 3]⟩ : BRow),
  (⟨1, 2, 5, [5, 6, 7, 14, 11], [1, 3, 4, 5, 5, 5]⟩ : BRow),
  (⟨1, 2, 6, [6, 14], [1, 2, 2]⟩ : BRow),
  (⟨1, 2, 7, [7, 11, 14], [1, 3, 3, 3]⟩ : BRow),
  (⟨1, 2, 8, [8, 14], [1, 2, 2]⟩ : BRow),
  (⟨1, 2, 9, [9, 14], [1, 2, 2]⟩ : BRow),
  (⟨1, 2, 11, [11, 14], [1, 2, 2]⟩ : BRow),
  (⟨1, 2, 12, [12, 14], [1, 2, 2]⟩ : BRow),
  (⟨1, 2, 13, [13, 14], [1, 2, 2]⟩ : BRow),
  (⟨1, 2, 14, [14], [1, 1]⟩ : BRow),
  (⟨2, 1, 1, [1, 13, 8, 12, 4, 2, 14, 5, 10, 3, 9, 6, 7, 11], [1, 6, 7, 7, 7, 10, 11, 11, 13, 13, 13, 13, 13, 14, 14]⟩ : BRow),
  (⟨2, 1, 2, [2, 13, 9, 12, 14], [1, 5, 5, 5, 5, 5]⟩ : BRow),
  (⟨2, 1, 3, [3, 13, 5, 9, 12, 14, 6, 7, 11], [1, 6, 6, 8, 8, 8, 8, 8, 9, 9]⟩ : BRow),
  (⟨2, 1, 4, [4, 13, 5, 10, 12, 3, 14, 6, 7, 9, 11], [1, 6, 7, 9, 9, 9, 10, 10, 10, 11, 11, 11]⟩ : BRow),
  (⟨2, 1, 5, [5, 6, 7, 14, 11], [1, 3, 4, 5, 5, 5]⟩ : BRow),
  (⟨2, 1, 6, [6, 14], [1, 2, 2]⟩ : BRow),
  (⟨2, 1, 7, [7, 11, 14], [1, 3, 3, 3]⟩ : BRow),
  (⟨2, 1, 8, [8, 14], [1, 2, 2]⟩ : BRow),
  (⟨2, 1, 9, [9, 14], [1, 2, 2]⟩ : BRow),
  (⟨2, 1, 10, [10, 14], [1, 2, 2]⟩ : BRow),
  (⟨2, 1, 11, [11, 14], [1, 2, 2]⟩ : BRow),
  (⟨2, 1, 12, [12, 14], [1, 2, 2]⟩ : BRow),
  (⟨2, 1, 13, [13, 14], [1, 2, 2]⟩ : BRow),
  (⟨2, 1, 14, [14], [1, 1]⟩ : BRow),
  (⟨2, 2, 1, [1, 4, 2, 13, 8, 12, 5, 10, 9, 14, 6, 7, 11], [1, 6, 8, 10, 10, 10, 10, 12, 12, 12, 12, 12, 13, 13]⟩ : BRow),
  (⟨2, 2, 2, [2, 9, 14], [1, 3, 3, 3]⟩ : BRow),
  (⟨2, 2, 4, [4, 2, 13, 5, 10, 12, 9, 14, 6, 7, 11], [1, 6, 8, 8, 10, 10, 10, 10, 10, 10, 11, 11]⟩ : BRow),
  (⟨2, 2, 5, [5, 6, 7, 14, 11], [1, 3, 4, 5, 5, 5]⟩ : BRow),
  (⟨2, 2, 6, [6, 14], [1, 2, 2]⟩ : BRow),
  (⟨2, 2, 7, [7, 11, 14], [1, 3, 3, 3]⟩ : BRow),
  (⟨2, 2, 8, [8, 14], [1, 2, 2]⟩ : BRow),
  (⟨2, 2, 9, [9, 14], [1, 2, 2]⟩ : BRow),
  (⟨2, 2, 10, [10, 14], [1, 2, 2]⟩ : BRow),
  (⟨2, 2, 11, [11, 14], [1, 2, 2]⟩ : BRow),
  (⟨2, 2, 12, [12, 14], [1, 2, 2]⟩ : BRow),
  (⟨2, 2, 13, [13, 14], [1, 2, 2]⟩ : BRow),
  (⟨2, 2, 14, [14], [1, 1]⟩ : BRow)]
def BRow.ok (r : BRow) : Bool :=
  decide (r.m.length = r.full.length + 1) && decide (r.full.length ≤ 14) && decide (r.m.getD 0 0 = 1) && decide (r.full.take 1 = [r.s]) && decide (r.m.getD r.full.length 0 = r.full.length) && r.full.contains 14
  && (List.range r.full.length).all fun i => decide (i < r.m.getD i 0) && decide (r.m.getD i 0 ≤ r.full.length) && decide ((nextL r.p r.d (r.full.getD i 0)).foldl addN (r.full.take (r.m.getD i 0)) = r.full.take (r.m.getD (i + 1) 0)) && (nextL r.p r.d (r.full.getD i 0)).all fun n => (upto (rHas r.p r.d)).contains n
theorem bRows_ok : (bRows.all BRow.ok) = true := by decide +kernel
theorem bRows_has : ((List.range 2).all fun p => (List.range 2).all fun d => (List.range 14).all fun s => !(rHas (p + 1 : Nat) (d + 1 : Nat) (s + 1 : Nat)) || bRows.any fun r => decide (r.p = (p + 1 : Nat) ∧ r.d = (d + 1 : Nat) ∧ r.s = (s + 1 : Nat))) = true := by decide +kernel
theorem ended_none (p d : Int) (hp : 1 ≤ p ∧ p ≤ 2) (hd : 1 ≤ d ∧ d ≤ 2) : nextL p d 14 = [] ∧ (upto (rHas p d)).contains 14 = true := by
  have h1 : p = 1 ∨ p = 2 := by omega
  have h2 : d = 1 ∨ d = 2 := by omega
  rcases h1 with rfl | rfl <;> rcases h2 with rfl | rfl <;> exact ⟨by decide +kernel, by decide +kernel⟩
theorem next_len (p d x : Int) : (nextL p d x).length ≤ 38 := by
  unfold nextL
  have h1 := List.length_filterMap_le (nextT p d x) (upto (rTakes p d))
  have h2 := List.length_filterMap_le (nextS p d x) (upto (rSends p d))
  have h3 : ∀ f : Int → Bool, (upto f).length ≤ 19 := fun f => by
    unfold upto
    have := List.length_filter_le f ((List.range 19).map fun i : Nat => (i : Int) + 1)
    simpa using this
  have h4 := h3 (rTakes p d); have h5 := h3 (rSends p d)
  rw [List.length_append]; omega
theorem fold_len (ns acc : List Int) : (ns.foldl addN acc).length ≤ acc.length + ns.length := by
  induction ns generalizing acc with
  | nil => simp
  | cons n ns ih =>
    rw [List.foldl_cons]
    have := ih (addN acc n)
    have h2 : (addN acc n).length ≤ acc.length + 1 := by unfold addN; split <;> simp
    simp only [List.length_cons]; omega
theorem row_of (p d s : Int) (hp : 1 ≤ p ∧ p ≤ 2) (hd : 1 ≤ d ∧ d ≤ 2) (hs : (upto (rHas p d)).contains s = true) : ∃ r : BRow, r.ok = true ∧ r.p = p ∧ r.d = d ∧ r.s = s := by
  have hs2 := hs
  rw [List.contains_iff_mem] at hs2
  unfold upto at hs2
  rw [List.mem_filter] at hs2
  have hh := hs2.2
  have hb : 1 ≤ s ∧ s ≤ 14 := by
    unfold rHas at hh
    simp only [decide_eq_true_eq] at hh
    omega
  have H := bRows_has
  rw [List.all_eq_true] at H
  have H1 := H (p.toNat - 1) (by rw [List.mem_range]; omega)
  rw [List.all_eq_true] at H1
  have H2 := H1 (d.toNat - 1) (by rw [List.mem_range]; omega)
  rw [List.all_eq_true] at H2
  have H3 := H2 (s.toNat - 1) (by rw [List.mem_range]; omega)
  rw [show ((p.toNat - 1 + 1 : Nat) : Int) = p by omega, show ((d.toNat - 1 + 1 : Nat) : Int) = d by omega, show ((s.toNat - 1 + 1 : Nat) : Int) = s by omega, hh] at H3
  simp only [Bool.not_true, Bool.false_or, List.any_eq_true, decide_eq_true_eq] at H3
  obtain ⟨r, hr, e1, e2, e3⟩ := H3
  have ho := bRows_ok
  rw [List.all_eq_true] at ho
  exact ⟨r, ho r hr, e1, e2, e3⟩
end Go.Proofs.YtaoejkjkgdnpmaaDoor
