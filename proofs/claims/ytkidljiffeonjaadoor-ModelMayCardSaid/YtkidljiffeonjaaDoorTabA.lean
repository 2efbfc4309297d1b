/- The walks of package tables: the four tables, and which one a side has. -/
import Derived.Test.YtkidljiffeonjaaDoorRows
import Derived.WalkKit
import Derived.WalkSpells
import Derived.WalkLawsBesides
import Derived.BigQuiet
import Derived.Deep.QuietTactic
import Derived.StillTailTactics
import Derived.Handy
import Derived.Lib.Hide
import Derived.Test.YtkidljiffeonjaaDoorTabB
set_option linter.unusedSimpArgs false
set_option linter.unusedVariables false
namespace Go.Proofs.YtkidljiffeonjaaDoor
open Go.RowKit

structure Tab where
  rows : List Row
  acts : List Act'
  waits : ByteArray
def rowCells (rs : List Row) : Array Value := (rs.flatMap fun r => [.int .i64 r.1, .string r.2.1, .int .i64 r.2.2]).toArray
def actCells (rs : List Act') : Array Value := (rs.flatMap fun r => [.int .i64 r.1, .string r.2]).toArray
theorem flat3 (rs : List Row) : ∀ j (h : j < rs.length), (rowCells rs)[j * 3]? = some (.int .i64 rs[j].1) ∧ (rowCells rs)[j * 3 + 1]? = some (.string rs[j].2.1) ∧ (rowCells rs)[j * 3 + 2]? = some (.int .i64 rs[j].2.2) := by
  induction rs with
  | nil => intro j h; simp at h
  | cons r rs ih =>
    intro j h
    cases j with
    | zero => simp [rowCells]
    | succ j =>
      have := ih j (by simpa using h)
      have e1 : (j + 1) * 3 = j * 3 + 1 + 1 + 1 := by omega
      simp only [rowCells, List.flatMap_cons, List.getElem?_toArray, List.cons_append, List.nil_append, e1, List.getElem?_cons_succ, List.getElem_cons_succ] at this ⊢
      exact this
theorem flat2 (rs : List Act') : ∀ j (h : j < rs.length), (actCells rs)[j * 2]? = some (.int .i64 rs[j].1) ∧ (actCells rs)[j * 2 + 1]? = some (.string rs[j].2) := by
  induction rs with
  | nil => intro j h; simp at h
  | cons r rs ih =>
    intro j h
    cases j with
    | zero => simp [actCells]
    | succ j =>
      have := ih j (by simpa using h)
      have e1 : (j + 1) * 2 = j * 2 + 1 + 1 := by omega
      simp only [actCells, List.flatMap_cons, List.getElem?_toArray, List.cons_append, List.nil_append, e1, List.getElem?_cons_succ, List.getElem_cons_succ] at this ⊢
      exact this
theorem rowsAt_mk {w : World} {b : Nat} {rs : List Row} {C : Array Value} {T : TypeId} {f : Nat × Nat} (h : w.heap[b]? = some (.cells C T f)) (hC : rowCells rs = C) : RowsAt w b rs := by
  subst hC
  refine ⟨?_, fun j hj => ?_⟩
  · rcases Nat.lt_or_ge b w.heap.size with h' | h'
    · exact h'
    · simp [Array.getElem?_eq_none h'] at h
  · have := flat3 rs j hj
    simpa [World.cell?, h] using this
theorem actsAt_mk {w : World} {b : Nat} {rs : List Act'} {C : Array Value} {T : TypeId} {f : Nat × Nat} (h : w.heap[b]? = some (.cells C T f)) (hC : actCells rs = C) : ActsAt w b rs := by
  subst hC
  refine ⟨?_, fun j hj => ?_⟩
  · rcases Nat.lt_or_ge b w.heap.size with h' | h'
    · exact h'
    · simp [Array.getElem?_eq_none h'] at h
  · have := flat2 rs j hj
    simpa [World.cell?, h] using this
/-- a value that is a table, its rows and acts in memory -/
def IsTab (B : Nat) (t : Tab) (v : Value) (w : World) : Prop := ∃ br ba, B ≤ br ∧ B ≤ ba ∧ v = .agg #[.slice (some ⟨br, 0, none⟩) t.rows.length t.rows.length, .slice (some ⟨ba, 0, none⟩) t.acts.length t.acts.length, .string t.waits] ∧ RowsAt w br t.rows ∧ ActsAt w ba t.acts
theorem IsTab.below {B : Nat} {t : Tab} {v : Value} {w w' : World} (h : IsTab B t v w) (hb : Below w.heap.size w w') : IsTab B t v w' := by
  obtain ⟨br, ba, b1, b2, h1, h2, h3⟩ := h
  exact ⟨br, ba, b1, b2, h1, h2.below hb, h3.below hb⟩
theorem RowsAt.setCell {w : World} {b : Nat} {rs : List Row} (h : RowsAt w b rs) {p : Addr} (hp : p.block < b) (v : Value) : RowsAt (w.setCell p v) b rs := by
  have hk : ∀ o, (w.setCell p v).cell? ⟨b, o, none⟩ = w.cell? ⟨b, o, none⟩ := fun o => World.cell?_of_block (w := w) (Below.heap_setCell w p v b (by omega))
  refine ⟨by simpa using h.1, fun j hj => ?_⟩
  rw [hk, hk, hk]; exact h.2 j hj
theorem ActsAt.setCell {w : World} {b : Nat} {rs : List Act'} (h : ActsAt w b rs) {p : Addr} (hp : p.block < b) (v : Value) : ActsAt (w.setCell p v) b rs := by
  have hk : ∀ o, (w.setCell p v).cell? ⟨b, o, none⟩ = w.cell? ⟨b, o, none⟩ := fun o => World.cell?_of_block (w := w) (Below.heap_setCell w p v b (by omega))
  refine ⟨by simpa using h.1, fun j hj => ?_⟩
  rw [hk, hk]; exact h.2 j hj
theorem IsTab.setCell {B : Nat} {t : Tab} {v : Value} {w : World} (h : IsTab B t v w) {p : Addr} (hp : p.block < B) (u : Value) : IsTab B t v (w.setCell p u) := by
  obtain ⟨br, ba, b1, b2, h1, h2, h3⟩ := h
  exact ⟨br, ba, b1, b2, h1, h2.setCell (by omega) u, h3.setCell (by omega) u⟩
theorem IsTab.mono {B B' : Nat} {t : Tab} {v : Value} {w : World} (h : IsTab B t v w) (hB : B' ≤ B) : IsTab B' t v w := by
  obtain ⟨br, ba, b1, b2, h1⟩ := h
  exact ⟨br, ba, by omega, by omega, h1⟩
def MakesTab (t : Tab) (w : World) (e : Ending) (w' : World) : Prop := ∃ v, e = .returned v ∧ IsTab w.heap.size t v w' ∧ Below w.heap.size w w'
theorem isTab_mk (t : Tab) (w : World) (o : Obj) {R A : Array Value} {T1 T2 : TypeId} (hR : rowCells t.rows = R) (hA : actCells t.acts = A) :
    IsTab w.heap.size t (.agg #[.slice (some ⟨w.heap.size + 1, 0, none⟩) t.rows.length t.rows.length, .slice (some ⟨w.heap.size + 1 + 1, 0, none⟩) t.acts.length t.acts.length, .string t.waits]) (((w.alloc o).alloc (.cells R T1)).alloc (.cells A T2)) := by
  refine ⟨_, _, by omega, by omega, rfl, rowsAt_mk (C := R) (T := T1) (f := (0, 0)) ?_ hR, actsAt_mk (C := A) (T := T2) (f := (0, 0)) ?_ hA⟩
  · rw [heap_alloc_old (h := by simp)]
    have := heap_alloc_new (w.alloc o) (.cells R T1)
    simpa using this
  · have := heap_alloc_new ((w.alloc o).alloc (.cells R T1)) (.cells A T2)
    simpa using this

def tCP : Tab where
  rows := [(1, ⟨#[109, 109, 46, 46, 120, 120, 120, 120, 120, 46, 120, 120, 45, 33]⟩, 13),
    (3, ⟨#[101, 101, 46, 46, 45, 61, 61, 120, 120, 46, 45, 120, 120, 45]⟩, 0),
    (4, ⟨#[104, 105, 46, 46, 120, 120, 107, 45, 45, 46, 45, 120, 120, 33]⟩, 12),
    (5, ⟨#[108, 108, 46, 46, 120, 120, 120, 120, 120, 46, 120, 45, 120, 33]⟩, 14),
    (6, ⟨#[120, 110, 46, 46, 120, 120, 120, 120, 120, 46, 120, 120, 120, 45]⟩, 0),
    (7, ⟨#[120, 120, 46, 46, 120, 110, 120, 120, 120, 46, 120, 120, 120, 45]⟩, 0),
    (8, ⟨#[120, 120, 46, 46, 120, 120, 110, 120, 120, 46, 120, 120, 120, 45]⟩, 0)]
  acts := [(9, ⟨#[120, 120, 46, 46, 102, 120, 120, 120, 120, 46, 120, 120, 120, 120]⟩),
    (10, ⟨#[98, 120, 46, 46, 120, 120, 120, 120, 120, 46, 120, 120, 120, 120]⟩),
    (11, ⟨#[120, 120, 46, 46, 103, 120, 120, 120, 120, 46, 120, 120, 120, 120]⟩),
    (12, ⟨#[120, 120, 46, 46, 120, 120, 120, 110, 110, 46, 110, 120, 120, 120]⟩),
    (13, ⟨#[120, 120, 46, 46, 120, 120, 120, 120, 120, 46, 120, 120, 110, 120]⟩),
    (14, ⟨#[120, 120, 46, 46, 120, 120, 120, 120, 120, 46, 120, 110, 120, 120]⟩)]
  waits := ⟨#[46, 106, 46, 46, 46, 105, 107, 46, 46, 46, 46, 46, 46, 46]⟩
def tCC : Tab where
  rows := [(1, ⟨#[109, 109, 109, 109, 120, 120, 120, 120, 120, 120, 120, 120, 45, 33]⟩, 13),
    (3, ⟨#[120, 120, 101, 101, 45, 61, 61, 120, 120, 120, 45, 120, 120, 45]⟩, 0),
    (4, ⟨#[104, 105, 105, 106, 120, 120, 107, 45, 45, 45, 45, 120, 120, 33]⟩, 12),
    (5, ⟨#[108, 108, 108, 108, 120, 120, 120, 120, 120, 120, 120, 45, 120, 33]⟩, 14),
    (6, ⟨#[120, 110, 110, 120, 120, 120, 120, 120, 120, 120, 120, 120, 120, 45]⟩, 0),
    (7, ⟨#[120, 120, 120, 120, 120, 110, 120, 120, 120, 120, 120, 120, 120, 45]⟩, 0),
    (8, ⟨#[120, 120, 120, 120, 120, 120, 110, 120, 120, 120, 120, 120, 120, 45]⟩, 0)]
  acts := [(2, ⟨#[100, 120, 120, 120, 120, 120, 120, 120, 120, 120, 120, 120, 120, 120]⟩),
    (9, ⟨#[120, 120, 120, 120, 102, 120, 120, 120, 120, 120, 120, 120, 120, 120]⟩),
    (10, ⟨#[98, 120, 120, 99, 120, 120, 120, 120, 120, 120, 120, 120, 120, 120]⟩),
    (11, ⟨#[120, 120, 120, 120, 103, 120, 120, 120, 120, 120, 120, 120, 120, 120]⟩),
    (12, ⟨#[120, 120, 120, 120, 120, 120, 120, 110, 110, 110, 110, 120, 120, 120]⟩),
    (13, ⟨#[120, 120, 120, 120, 120, 120, 120, 120, 120, 120, 120, 120, 110, 120]⟩),
    (14, ⟨#[120, 120, 120, 120, 120, 120, 120, 120, 120, 120, 120, 110, 120, 120]⟩)]
  waits := ⟨#[46, 106, 106, 98, 46, 105, 107, 46, 46, 46, 46, 46, 46, 46]⟩
def tPP : Tab where
  rows := [(9, ⟨#[120, 120, 46, 46, 102, 45, 120, 120, 120, 46, 120, 120, 120, 33]⟩, 7),
    (10, ⟨#[98, 45, 46, 46, 61, 45, 45, 61, 61, 46, 61, 61, 61, 33]⟩, 6),
    (11, ⟨#[120, 120, 46, 46, 103, 120, 45, 120, 120, 46, 61, 120, 120, 33]⟩, 8),
    (12, ⟨#[120, 120, 46, 46, 120, 120, 120, 110, 110, 46, 110, 120, 120, 45]⟩, 0),
    (13, ⟨#[120, 120, 46, 46, 120, 120, 120, 120, 120, 46, 120, 120, 110, 45]⟩, 0),
    (14, ⟨#[120, 120, 46, 46, 120, 120, 120, 120, 120, 46, 120, 110, 120, 45]⟩, 0)]
  acts := [(1, ⟨#[109, 120, 46, 46, 120, 120, 120, 120, 120, 46, 120, 120, 120, 120]⟩),
    (3, ⟨#[101, 120, 46, 46, 120, 120, 120, 120, 120, 46, 120, 120, 120, 120]⟩),
    (4, ⟨#[104, 105, 46, 46, 120, 120, 107, 120, 120, 46, 120, 120, 120, 120]⟩),
    (5, ⟨#[108, 120, 46, 46, 120, 120, 120, 120, 120, 46, 120, 120, 120, 120]⟩),
    (6, ⟨#[120, 110, 46, 46, 120, 120, 120, 120, 120, 46, 120, 120, 120, 120]⟩),
    (7, ⟨#[120, 120, 46, 46, 120, 110, 120, 120, 120, 46, 120, 120, 120, 120]⟩),
    (8, ⟨#[120, 120, 46, 46, 120, 120, 110, 120, 120, 46, 120, 120, 120, 120]⟩)]
  waits := ⟨#[46, 46, 46, 46, 99, 46, 46, 100, 100, 100, 100, 101, 97, 46]⟩
def tPC : Tab where
  rows := [(2, ⟨#[100, 45, 46, 45, 61, 45, 45, 61, 61, 61, 61, 61, 61, 45]⟩, 0),
    (9, ⟨#[120, 120, 46, 120, 102, 45, 120, 120, 120, 120, 120, 120, 120, 33]⟩, 7),
    (10, ⟨#[98, 45, 46, 98, 61, 45, 45, 61, 61, 61, 61, 61, 61, 33]⟩, 6),
    (11, ⟨#[120, 120, 46, 120, 103, 120, 45, 120, 120, 120, 61, 120, 120, 33]⟩, 8),
    (12, ⟨#[120, 120, 46, 120, 120, 120, 120, 110, 110, 110, 110, 120, 120, 45]⟩, 0),
    (13, ⟨#[120, 120, 46, 120, 120, 120, 120, 120, 120, 120, 120, 120, 110, 45]⟩, 0),
    (14, ⟨#[120, 120, 46, 120, 120, 120, 120, 120, 120, 120, 120, 110, 120, 45]⟩, 0)]
  acts := [(1, ⟨#[109, 120, 46, 109, 120, 120, 120, 120, 120, 120, 120, 120, 120, 120]⟩),
    (3, ⟨#[120, 120, 46, 101, 120, 120, 120, 120, 120, 120, 120, 120, 120, 120]⟩),
    (4, ⟨#[104, 105, 46, 106, 120, 120, 107, 120, 120, 120, 120, 120, 120, 120]⟩),
    (5, ⟨#[108, 120, 46, 108, 120, 120, 120, 120, 120, 120, 120, 120, 120, 120]⟩),
    (6, ⟨#[120, 110, 46, 120, 120, 120, 120, 120, 120, 120, 120, 120, 120, 120]⟩),
    (7, ⟨#[120, 120, 46, 120, 120, 110, 120, 120, 120, 120, 120, 120, 120, 120]⟩),
    (8, ⟨#[120, 120, 46, 120, 120, 120, 110, 120, 120, 120, 120, 120, 120, 120]⟩)]
  waits := ⟨#[46, 46, 46, 46, 99, 46, 46, 100, 100, 100, 100, 101, 97, 46]⟩


set_option maxHeartbeats 400000 in
theorem tCP_any (w : World) : Calls Tryd.prog 124 #[] w (MakesTab tCP w) := by
  go_enter Tryd.func124, Tryd.ntmps124
  go_wp2
  go_returns
  exact ⟨_, rfl, isTab_mk tCP w _ (by kernel_rfl) (by kernel_rfl), by go_grown⟩

set_option maxHeartbeats 400000 in
theorem tCC_any (w : World) : Calls Tryd.prog 125 #[] w (MakesTab tCC w) := by
  go_enter Tryd.func125, Tryd.ntmps125
  go_wp2
  go_returns
  exact ⟨_, rfl, isTab_mk tCC w _ (by kernel_rfl) (by kernel_rfl), by go_grown⟩

set_option maxHeartbeats 400000 in
theorem tPP_any (w : World) : Calls Tryd.prog 126 #[] w (MakesTab tPP w) := by
  go_enter Tryd.func126, Tryd.ntmps126
  go_wp2
  go_returns
  exact ⟨_, rfl, isTab_mk tPP w _ (by kernel_rfl) (by kernel_rfl), by go_grown⟩

set_option maxHeartbeats 400000 in
theorem tPC_any (w : World) : Calls Tryd.prog 127 #[] w (MakesTab tPC w) := by
  go_enter Tryd.func127, Tryd.ntmps127
  go_wp2
  go_returns
  exact ⟨_, rfl, isTab_mk tPC w _ (by kernel_rfl) (by kernel_rfl), by go_grown⟩

end Go.Proofs.YtkidljiffeonjaaDoor
