/- The clock's Due: the row of due timers, sorted; the keys. -/
import Derived.Test.YtkidljiffeonjaaDoorRows
import Derived.WalkKit
import Derived.WalkSpells
import Derived.WalkLawsBesides
import Derived.BigQuiet
import Derived.Deep.QuietTactic
import Derived.StillTailTactics
import Derived.Handy
import Derived.Lib.Hide
import Derived.Test.YtkidljiffeonjaaDoorTimL
import Derived.BigQuiet
set_option linter.unusedSimpArgs false
set_option linter.unusedVariables false
namespace Go.Proofs.YtkidljiffeonjaaDoor
open Go.RowKit Go.Maps
attribute [local go_sem] store_float

theorem due_le (now at_ : Nat) (h1 : now ≤ 9218868437227405312) (h2 : at_ ≤ 9218868437227405312) (w : World) : Calls Tryd.prog 74 #[flV now, flV at_] w (Gives (.bool (decide (at_ ≤ now))) w) := by
  have h := due_of now at_ (delay_of_le _ h1).1 (delay_of_le _ h2).1 w
  have e : (fdelay now && fdelay at_ && fle at_ now) = decide (at_ ≤ now) := by
    rw [(delay_of_le _ h1).2.1, (delay_of_le _ h2).2.1]
    obtain ⟨_, n1, k1⟩ := le_parts now h1
    obtain ⟨_, n2, k2⟩ := le_parts at_ h2
    unfold fle
    rw [n1, n2, k1, k2]
    simp
  rwa [e] at h
theorem infoTm : (Tryd.prog.info? 135).map (fun i => (i.zero, i.size, i.bytes)) = some (some (timerV timer0), 5, 48) := by kernel_rfl
theorem infoStr : (Tryd.prog.info? 9).map (fun i => (i.zero, i.size, i.bytes)) = some (some (.string ByteArray.empty), 1, 16) := by kernel_rfl
def rowC (ts : List MTimer) : List Value := ts.flatMap cells5
theorem rowC_length (ts : List MTimer) : (rowC ts).length = ts.length * 5 := by
  induction ts with
  | nil => rfl
  | cons s ss ih => simp only [rowC, List.flatMap_cons, List.length_append, List.length_cons] at *; rw [ih]; simp; omega
theorem rowC_at : ∀ (ts : List MTimer) (j t : Nat) (h : j < ts.length) (_ : t < 5), (rowC ts)[j * 5 + t]? = (cells5 ts[j])[t]?
  | s :: ss, 0, t, _, ht => by
    simp only [rowC, List.flatMap_cons, Nat.zero_mul, Nat.zero_add, List.getElem_cons_zero]
    rw [List.getElem?_append_left (by simpa using ht)]
  | s :: ss, j + 1, t, h, ht => by
    have := rowC_at ss j t (by simpa using h) ht
    simp only [rowC, List.flatMap_cons, List.getElem_cons_succ] at *
    rw [List.getElem?_append_right (by simp; omega), ← this]
    congr 1
    simp; omega
theorem rowC_append (ts : List MTimer) (t : MTimer) : rowC (ts ++ [t]) = rowC ts ++ cells5 t := by simp [rowC]
/-- timers in a slice -/
def ListAt (v : Value) (ts : List MTimer) (w : World) : Prop := ∃ a cap, v = .slice a ts.length cap ∧ (ts ≠ [] → ∃ g, a = some ⟨g, 0, none⟩ ∧ g < w.heap.size ∧ RowT w g ts)
theorem row_own {w : World} {B : Nat} {e : TypeId} {g cap : Nat} {ts : List MTimer} (h : w.ownsRow B e 5 (.slice (some ⟨g, 0, none⟩) ts.length cap) ts.length (rowC ts)) : RowT w g ts := fun j hj i hi => by
  rw [h.cellAt (j * 5 + i) (by omega), rowC_at ts j i hj hi]
theorem sort_any (B : Nat) (v : Value) (ts : List MTimer) (w : World) (h : w.ownsRow B 135 5 v ts.length (rowC ts)) (hg : ∀ t ∈ ts, t.at_ ≤ 9218868437227405312) (hl : ts.length ≤ 1000) (hB : B ≤ w.heap.size) :
    Calls Tryd.prog 75 #[v, .func (.func 76) #[] #[]] w fun e w' => e = .returned (.tuple #[]) ∧ ∃ ts' : List MTimer, ts'.Perm ts ∧ ts'.Pairwise (fun a b => tlt b a = false) ∧ ListAt v ts' w' ∧ Below B w w' := by
  rcases h.2 with ⟨rfl, hn⟩ | ⟨g, cap, cur, rfl, hb, _⟩
  · have := List.length_eq_zero_iff.1 hn
    subst this
    refine (sort_none 0 _ w).mono ?_
    rintro e w' ⟨rfl, rfl⟩
    exact ⟨rfl, [], .refl _, List.Pairwise.nil, ⟨none, 0, rfl, fun h => absurd rfl h⟩, Below.refl _ _⟩
  · have hlt := h.lt g rfl
    refine (sort_of g cap ts w (row_own h) h.frozenAt hg hlt.2 hl).mono ?_
    rintro e w' ⟨rfl, ts', hp, hs, hr, ht⟩
    exact ⟨rfl, ts', hp, hs, ⟨_, cap, by rw [hp.length_eq], fun _ => ⟨g, rfl, Nat.lt_of_lt_of_le hlt.2 ht.size, hr⟩⟩, ht.below hB hb hb⟩
theorem five_new (w : World) (ts : MTimer) (t : TypeId) : ∀ j u, (cells5 ts)[j]? = some u → (w.alloc (.cells (cells5 ts).toArray t)).cell? ((⟨w.heap.size, 0, none⟩ : Addr).add j) = some u := by
  intro j u hj
  match j, hj with
  | 0, hj => simp at hj; subst hj; simp [Addr.add]
  | 1, hj => simp at hj; subst hj; simp [Addr.add]
  | 2, hj => simp at hj; subst hj; simp [Addr.add]
  | 3, hj => simp at hj; subst hj; simp [Addr.add]
  | 4, hj => simp at hj; subst hj; simp [Addr.add]
theorem five_cells (t : MTimer) : ∀ u ∈ cells5 t, u.oneCell' = true := by
  intro u hu
  simp at hu
  rcases hu with rfl | rfl | rfl | rfl | rfl <;> rfl
/-- keys in a slice of the call's own -/
def MakesKeys (ks : List ByteArray) (w : World) (e : Ending) (w' : World) : Prop := ∃ v, e = .returned v ∧ w'.ownsRow w.heap.size 9 1 v ks.length (ks.map Value.string) ∧ Below w.heap.size w w'
end Go.Proofs.YtkidljiffeonjaaDoor
