/- The walks of package tables: the row of a kind. -/
import Derived.Test.YtkidljiffeonjaaDoorRows
import Derived.WalkKit
import Derived.WalkSpells
import Derived.WalkLawsBesides
import Derived.BigQuiet
import Derived.Deep.QuietTactic
import Derived.StillTailTactics
import Derived.Handy
import Derived.Lib.Hide
import Derived.Test.YtkidljiffeonjaaDoorRefA
set_option linter.unusedSimpArgs false
set_option linter.unusedVariables false
namespace Go.Proofs.YtkidljiffeonjaaDoor
open Go.RowKit

/-- the place of a key in a list of keys, as slices.IndexFunc says it -/
def idxOf (ks : List Int) (k : Int) : Int := match ks.findIdx? (fun a => a == k) with | some i => i | none => -1
theorem idxOf_at {ks : List Int} {k : Int} {j : Nat} (hj : j < ks.length) (hne : ∀ i, (h : i < ks.length) → i < j → ks[i] ≠ k) (he : ks[j] = k) : idxOf ks k = j := by
  have : ks.findIdx? (fun a => a == k) = some j := by
    rw [List.findIdx?_eq_some_iff_getElem]
    exact ⟨hj, by simp [he], fun i hi => by simpa using hne i (by omega) hi⟩
  simp [idxOf, this]
theorem idxOf_none {ks : List Int} {k : Int} (hne : ∀ i, (h : i < ks.length) → ks[i] ≠ k) : idxOf ks k = -1 := by
  have : ks.findIdx? (fun a => a == k) = none := by
    rw [List.findIdx?_eq_none_iff]
    intro x hx
    obtain ⟨i, hi, rfl⟩ := List.mem_iff_getElem.1 hx
    simpa using hne i hi
  simp [idxOf, this]

abbrev Row := Int × ByteArray × Int
abbrev Act' := Int × ByteArray
/-- the rows of a table, as cells of one block -/
def RowsAt (w : World) (b : Nat) (rs : List Row) : Prop := b < w.heap.size ∧ ∀ j (h : j < rs.length),
  w.cell? ⟨b, j * 3, none⟩ = some (.int .i64 rs[j].1) ∧ w.cell? ⟨b, j * 3 + 1, none⟩ = some (.string rs[j].2.1) ∧ w.cell? ⟨b, j * 3 + 2, none⟩ = some (.int .i64 rs[j].2.2)
def ActsAt (w : World) (b : Nat) (rs : List Act') : Prop := b < w.heap.size ∧ ∀ j (h : j < rs.length),
  w.cell? ⟨b, j * 2, none⟩ = some (.int .i64 rs[j].1) ∧ w.cell? ⟨b, j * 2 + 1, none⟩ = some (.string rs[j].2)
theorem RowsAt.below {w w' : World} {b : Nat} {rs : List Row} (h : RowsAt w b rs) (hb : Below w.heap.size w w') : RowsAt w' b rs := by
  refine ⟨Nat.lt_of_lt_of_le h.1 hb.size, fun j hj => ?_⟩
  have := h.2 j hj
  rw [hb.cell (p := ⟨b, j * 3, none⟩) h.1, hb.cell (p := ⟨b, j * 3 + 1, none⟩) h.1, hb.cell (p := ⟨b, j * 3 + 2, none⟩) h.1]
  exact this
theorem ActsAt.below {w w' : World} {b : Nat} {rs : List Act'} (h : ActsAt w b rs) (hb : Below w.heap.size w w') : ActsAt w' b rs := by
  refine ⟨Nat.lt_of_lt_of_le h.1 hb.size, fun j hj => ?_⟩
  have := h.2 j hj
  rw [hb.cell (p := ⟨b, j * 2, none⟩) h.1, hb.cell (p := ⟨b, j * 2 + 1, none⟩) h.1]
  exact this
theorem lt_of_cell {w : World} {a : Addr} {v : Value} (h : w.cell? a = some v) : a.block < w.heap.size := by
  rcases Nat.lt_or_ge a.block w.heap.size with h' | h'
  · exact h'
  · simp [World.cell?, Array.getElem?_eq_none h'] at h

set_option maxHeartbeats 400000 in
theorem look1_any (a c k : Int) (s : ByteArray) (ka : Addr) (w : World) (hk : w.cell? ka = some (.int .i64 k)) :
    Calls Tryd.prog 156 #[.agg #[.int .i64 a, .string s, .int .i64 c], .pointer (some ka)] w (Makes (.bool (a == k)) w) := by
  have hlt := lt_of_cell hk
  go_enter Tryd.func156, Tryd.ntmps156
  go_wp2
  go_ret
  exact ⟨rfl, by go_grown⟩

set_option maxHeartbeats 400000 in
theorem step1_any (a k : Int) (s : ByteArray) (ka : Addr) (w : World) (hk : w.cell? ka = some (.int .i64 k)) :
    Calls Tryd.prog 160 #[.agg #[.int .i64 a, .string s], .pointer (some ka)] w (Makes (.bool (a == k)) w) := by
  have hlt := lt_of_cell hk
  go_enter Tryd.func160, Tryd.ntmps160
  go_wp2
  go_ret
  exact ⟨rfl, by go_grown⟩

set_option maxHeartbeats 400000 in
theorem indexf_any (rs : List Row) (b : Nat) (k : Int) (ka : Addr) (w : World) (hk : w.cell? ka = some (.int .i64 k)) (hn : rs.length ≤ 100) (hr : RowsAt w b rs) :
    Calls Tryd.prog 155 #[.slice (some ⟨b, 0, none⟩) rs.length rs.length, .func (.func 156) #[] #[.pointer (some ka)]] w (Makes (.int .i64 (idxOf (rs.map (·.1)) k)) w) := by
  have hlt := lt_of_cell hk
  have HR := Lib.hid hr; clear hr
  go_enter Tryd.func155, Tryd.ntmps155
  go_wp2
  go_loopw [8] (fun i wr => ∃ j : Nat, j ≤ rs.length ∧ i = .int .i64 j ∧ Below w.heap.size w wr ∧ Hid (∀ i, (h : i < rs.length) → i < j → rs[i].1 ≠ k)) (fun i _ => rs.length - (intOf i).toNat)
  case atStart => exact ⟨0, Nat.zero_le _, rfl, Below.refl _ _, Lib.hid (fun i _ hi => absurd hi (Nat.not_lt_zero _))⟩
  case round =>
    obtain ⟨j, hj, rfl, hb, HN⟩ := hrel
    have hkr : wr.cell? ka = some (.int .i64 k) := (hb.cell (p := ka) hlt).trans hk
    by_cases hjn : j < rs.length
    · obtain ⟨h1, h2, h3⟩ := (HR.out.below hb).2 j hjn
      obtain ⟨r, hrj⟩ : ∃ r, r = rs[j] := ⟨_, rfl⟩
      rw [← hrj] at h1 h2 h3
      have HJ := Lib.hid hrj; clear hrj
      obtain ⟨a, s, c⟩ := r
      go_wp2_with (go_at_call 156; refine (look1_any _ _ _ _ _ _ hkr).mono ?_; rintro e w' ⟨rfl, hb'⟩)
      · go_ret
        have he : (a == k) = true := by assumption
        refine ⟨ret_int ?_, hb.trans (hb'.mono hb.size)⟩
        rw [idxOf_at (j := j) (by simpa using hjn) (fun i h hi => by simpa using HN.out i (by simpa using h) hi) (by simpa [← HJ.out] using he)]
      · have he : (a == k) = false := by assumption
        go_roundw
        case rel =>
          refine ⟨j + 1, by omega, by go_num, hb.trans (hb'.mono hb.size), Lib.hid (fun i h hi => ?_)⟩
          rcases Nat.lt_succ_iff_lt_or_eq.1 hi with h' | rfl
          · exact HN.out i h h'
          · simpa [← HJ.out] using he
        case measure => simp [intOf]; omega
    · go_wp2_with fail
      go_ret
      refine ⟨ret_int ?_, hb⟩
      rw [idxOf_none (fun i h => by simpa using HN.out i (by simpa using h) (by simp at h; omega))]
end Go.Proofs.YtkidljiffeonjaaDoor
