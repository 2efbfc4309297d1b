/- slices.SortFunc on timers, plain: the order as the sort wants it, what it leaves. -/
import Derived.Test.YtkidljiffeonjaaDoorRows
import Derived.WalkKit
import Derived.WalkSpells
import Derived.WalkLawsBesides
import Derived.BigQuiet
import Derived.Deep.QuietTactic
import Derived.StillTailTactics
import Derived.Handy
import Derived.Lib.Hide
import Derived.Test.YtkidljiffeonjaaDoorTimH
import Derived.Shelf.SlSortCmp.NoneTotal
set_option linter.unusedSimpArgs false
set_option linter.unusedVariables false
namespace Go.Proofs.YtkidljiffeonjaaDoor
open Go.RowKit Go.Maps

instance : Inhabited MTimer := ⟨timer0⟩
abbrev cells5 (t : MTimer) : List Value := [.string t.key, .float .f64 t.at_, .int .i64 t.times, .float .f64 t.base, .float .f64 t.most]
def clampT (t : MTimer) : MTimer := { t with at_ := min t.at_ 9218868437227405312 }
theorem clampT_eq {t : MTimer} (h : t.at_ ≤ 9218868437227405312) : clampT t = t := by
  unfold clampT; rw [Nat.min_eq_left h]
theorem clampT_le (t : MTimer) : (clampT t).at_ ≤ 9218868437227405312 := Nat.min_le_right _ _
def encT (t : MTimer) : List Value := cells5 (clampT t)
def cfT (x y : MTimer) : Int := tcmp (clampT x) (clampT y)
theorem ltOf_T (x y : MTimer) : ltOf cfT x y = tlt (clampT x) (clampT y) := tlt_cmp _ _
theorem tlt_ntrans {a b c : MTimer} (h1 : tlt a b = false) (h2 : tlt b c = false) : tlt a c = false := by
  cases h : tlt a c
  · rfl
  · cases h3 : tlt c b
    · obtain ⟨e1, e2⟩ := tlt_total h2 h3
      have : tlt a b = tlt a c := by unfold tlt; rw [e1, e2]
      rw [this, h] at h1; cases h1
    · rw [tlt_trans h h3] at h1; cases h1
theorem swoT : Go.Sort.SWO (ltOf cfT) where
  irrefl x := by rw [ltOf_T]; exact tlt_irrefl _
  trans x y z h1 h2 := by rw [ltOf_T] at *; exact tlt_trans h1 h2
  ntrans x y z h1 h2 := by rw [ltOf_T] at *; exact tlt_ntrans h1 h2
/-- timers in the cells of block g -/
def RowT (w : World) (g : Nat) (ts : List MTimer) : Prop := ∀ j (h : j < ts.length) i, i < 5 → w.cell? ⟨g, j * 5 + i, none⟩ = (cells5 ts[j])[i]?
theorem getElem!_toArray (ts : List MTimer) (j : Nat) (h : j < ts.length) : ts.toArray[j]! = ts[j] := by simp [h]
theorem holds_row {w : World} {g : Nat} {ts : List MTimer} (hr : RowT w g ts) (hf : ∀ i, w.frozen? ⟨g, i, none⟩ = false) (hg : ∀ t ∈ ts, t.at_ ≤ 9218868437227405312) : Go.Sort.HoldsK encT 5 w g 0 ts.toArray := by
  intro t ht
  rw [Go.Sort.size_flatK] at ht
  have ht' : t < ts.length * 5 := by simpa using ht
  have hj : t / 5 < ts.length := by omega
  refine ⟨?_, hf _⟩
  rw [Go.Sort.get_flatK _ _ _ _ ht, getElem!_toArray ts _ hj]
  unfold encT
  rw [clampT_eq (hg _ (List.getElem_mem hj))]
  have h1 := hr (t / 5) hj (t % 5) (by omega)
  rw [show t / 5 * 5 + t % 5 = 0 + t by omega] at h1
  rw [h1]
  have h5 : t % 5 < (cells5 ts[t / 5]).length := by simp; omega
  simp only [id, List.getElem!_eq_getElem?_getD, List.getElem?_eq_getElem h5, Option.getD_some]
theorem row_holds {w : World} {g : Nat} {d : Array MTimer} (h : Go.Sort.HoldsK encT 5 w g 0 d) (hg : ∀ t ∈ d.toList, t.at_ ≤ 9218868437227405312) : RowT w g d.toList := by
  intro j hj i hi
  have hj' : j < d.size := by simpa using hj
  have h1 := (Go.Sort.HoldsK.cell h hj' hi).1
  rw [Nat.zero_add] at h1
  rw [h1]
  have e : d[j]! = d.toList[j] := by simp [hj']
  rw [e]
  unfold encT
  rw [clampT_eq (hg _ (List.getElem_mem hj))]
  have h5 : i < (cells5 d.toList[j]).length := by simp; omega
  rw [List.getElem?_eq_getElem h5]
  rw [List.getElem!_eq_getElem?_getD, List.getElem?_eq_getElem h5]
  rfl
theorem heap_mapBlock (w : World) (g k : Nat) (f : Array Value → Array Value) (h : k ≠ g) : (Go.Sort.mapBlock w g f).heap[k]? = w.heap[k]? := by
  simp [Go.Sort.mapBlock, Array.getElem?_modify, Ne.symm h]
theorem sortWorld_two (w : World) (g n : Nat) (d : Array MTimer) (os : Array Obj) : Two g g w (sortWorldK encT 5 w g 0 n d os) := by
  refine ⟨rfl, rfl, rfl, ?_, fun k hk h1 _ => ?_⟩
  · unfold sortWorldK Go.Sort.putRowK
    rw [Go.Sort.size_grow, Go.Sort.size_putRow]
    simp
  · unfold sortWorldK Go.Sort.putRowK
    rw [Go.Sort.heap_grow_old _ _ (by rw [Go.Sort.size_putRow]; simpa using hk)]
    unfold Go.Sort.putRow
    rw [heap_mapBlock _ _ _ _ h1]
    rfl
theorem perm_in {d d' : Array MTimer} (h : Go.Sort.PermIn 0 d.size d d') : d'.toList.Perm d.toList := by
  obtain ⟨h1, _, h3⟩ := h
  rw [← h1] at h3
  rw [Array.extract_size, h1, Array.extract_size] at h3
  exact h3
theorem sorted_in {d d' : Array MTimer} (hs : d'.size = d.size) (h : Go.Sort.SortedIn (ltOf cfT) 0 d.size d') (hg : ∀ t ∈ d'.toList, t.at_ ≤ 9218868437227405312) : d'.toList.Pairwise fun a b => tlt b a = false := by
  rw [List.pairwise_iff_getElem]
  intro i j hi hj hij
  have h1 := h i j (Nat.zero_le _) hij (by rw [← hs]; simpa using hj)
  have hi' : i < d'.size := by simpa using hi
  have hj' : j < d'.size := by simpa using hj
  rw [ltOf_T] at h1
  have e1 : d'[i]! = d'.toList[i] := by simp [hi']
  have e2 : d'[j]! = d'.toList[j] := by simp [hj']
  rw [e1, e2, clampT_eq (hg _ (List.getElem_mem hi)), clampT_eq (hg _ (List.getElem_mem hj))] at h1
  exact h1
theorem sorted_apart {l : List MTimer} (h : l.Pairwise fun a b => tlt b a = false) (ha : TApart l) : TSorted l := by
  refine (h.and ha).imp fun {a b} ⟨h1, h2⟩ => ?_
  cases h3 : tlt a b
  · exact absurd (tlt_total h3 h1).2 h2
  · rfl
/-- what the sort leaves of a row of due timers -/
theorem due_sorted (now : Nat) {L acc d : List MTimer} (hL : TApart L) (ha : acc.Perm L) (hp : d.Perm (acc.filter fun t => decide (t.at_ ≤ now))) (hs : d.Pairwise fun a b => tlt b a = false) : d = tdue now L := by
  obtain ⟨t1, t2⟩ := tdue_spec now hL
  have hp2 : d.Perm (L.filter fun t => decide (t.at_ ≤ now)) := hp.trans (ha.filter _)
  have h1 : TApart d := hp2.symm.pairwise (hL.filter _) (fun {a b} h e => h e.symm)
  exact sorted_unique (sorted_apart hs h1) t1 (hp2.trans t2.symm)
end Go.Proofs.YtkidljiffeonjaaDoor
