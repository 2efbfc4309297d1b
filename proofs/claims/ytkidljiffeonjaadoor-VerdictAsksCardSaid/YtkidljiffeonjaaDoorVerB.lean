/- Package verdict: every, Ready, Over, Uniform; the reference's (liaisonref18). -/
import Derived.Test.YtkidljiffeonjaaDoorRows
import Derived.WalkKit
import Derived.WalkSpells
import Derived.WalkLawsBesides
import Derived.BigQuiet
import Derived.Deep.QuietTactic
import Derived.StillTailTactics
import Derived.Handy
import Derived.Lib.Hide
import Derived.Test.YtkidljiffeonjaaDoorVerA
set_option linter.unusedSimpArgs false
set_option linter.unusedVariables false
namespace Go.Proofs.YtkidljiffeonjaaDoor
open Go.RowKit

def qReady (s : MSeat) : Bool := decide (s.s = 5) || decide (s.h = 1)
def qOver (s : MSeat) : Bool := decide (s.s = 14)
def qCloses (s : MSeat) : Bool := decide (s.h = 7) || decide (s.s = 6)
def qUndoes (s : MSeat) : Bool := decide (s.s = 7) || decide (s.s = 2) || decide (s.s = 3) || decide (s.h = 8) || decide (s.h = 6)
theorem qReady_of (s : MSeat) (w : World) : Calls Tryd.prog 61 #[vseatV s] w (Makes (.bool (qReady s)) w) := by
  obtain ⟨p, d, st, h⟩ := s
  unfold qReady
  dsimp only [vseatV]
  go_enter Tryd.func61, Tryd.ntmps61
  go_wp2
  all_goals go_ret
  all_goals (refine ⟨ret_bool ?_, by go_grown⟩; first | rfl | (simp_all; done) | (rw [Bool.eq_iff_iff]; simp_all; done) | (rw [Bool.eq_iff_iff]; simp_all; omega))
theorem qOver_of (s : MSeat) (w : World) : Calls Tryd.prog 62 #[vseatV s] w (Makes (.bool (qOver s)) w) := by
  obtain ⟨p, d, st, h⟩ := s
  unfold qOver
  dsimp only [vseatV]
  go_enter Tryd.func62, Tryd.ntmps62
  go_wp2
  all_goals go_ret
  all_goals (refine ⟨ret_bool ?_, by go_grown⟩; first | rfl | (simp_all; done) | (rw [Bool.eq_iff_iff]; simp_all; done) | (rw [Bool.eq_iff_iff]; simp_all; omega))
theorem qCloses_of (s : MSeat) (w : World) : Calls Tryd.prog 65 #[vseatV s] w (Makes (.bool (qCloses s)) w) := by
  obtain ⟨p, d, st, h⟩ := s
  unfold qCloses
  dsimp only [vseatV]
  go_enter Tryd.func65, Tryd.ntmps65
  go_wp2
  all_goals go_ret
  all_goals (refine ⟨ret_bool ?_, by go_grown⟩; first | rfl | (simp_all; done) | (rw [Bool.eq_iff_iff]; simp_all; done) | (rw [Bool.eq_iff_iff]; simp_all; omega))
theorem qUndoes_of (s : MSeat) (w : World) : Calls Tryd.prog 66 #[vseatV s] w (Makes (.bool (qUndoes s)) w) := by
  obtain ⟨p, d, st, h⟩ := s
  unfold qUndoes
  dsimp only [vseatV]
  go_enter Tryd.func66, Tryd.ntmps66
  go_wp2
  all_goals go_ret
  all_goals (refine ⟨ret_bool ?_, by go_grown⟩; first | rfl | (simp_all; done) | (rw [Bool.eq_iff_iff]; simp_all; done) | (rw [Bool.eq_iff_iff]; simp_all; omega))
theorem every1_ready (P : Nat) (s : MSeat) (q : Bool) (w : World) (hP : Blk w P #[.func (.func 61) #[] #[]]) (hq : ∀ W, Calls Tryd.prog 61 #[vseatV s] W (Makes (.bool q) W)) :
    Calls Tryd.prog 102 #[regV s, .pointer (some ⟨P, 0, none⟩)] w (Makes (.bool (!q)) w) := by
  have h1 : w.cell? ⟨P, 0, none⟩ = some (.func (.func 61) #[] #[]) := hP.cell 0
  have hl := hP.lt
  have h2 : ∀ o, (w.alloc o).cell? ⟨P, 0, none⟩ = some (.func (.func 61) #[] #[]) := fun o => (hP.alloc o).cell 0
  have HQ := Lib.hid hq
  clear hP hq
  dsimp only [regV, vseatV] at *
  go_enter Tryd.func102, Tryd.ntmps102
  go_wp2_with fail
  refine (HQ.out _).mono ?_
  rintro e w1 ⟨rfl, hb1⟩
  cases q <;> go_wp2_with fail
  all_goals go_ret
  all_goals exact ⟨ret_bool (by simp), below_then (by go_grown) hb1⟩
theorem every1_over (P : Nat) (s : MSeat) (q : Bool) (w : World) (hP : Blk w P #[.func (.func 62) #[] #[]]) (hq : ∀ W, Calls Tryd.prog 62 #[vseatV s] W (Makes (.bool q) W)) :
    Calls Tryd.prog 102 #[regV s, .pointer (some ⟨P, 0, none⟩)] w (Makes (.bool (!q)) w) := by
  have h1 : w.cell? ⟨P, 0, none⟩ = some (.func (.func 62) #[] #[]) := hP.cell 0
  have hl := hP.lt
  have h2 : ∀ o, (w.alloc o).cell? ⟨P, 0, none⟩ = some (.func (.func 62) #[] #[]) := fun o => (hP.alloc o).cell 0
  have HQ := Lib.hid hq
  clear hP hq
  dsimp only [regV, vseatV] at *
  go_enter Tryd.func102, Tryd.ntmps102
  go_wp2_with fail
  refine (HQ.out _).mono ?_
  rintro e w1 ⟨rfl, hb1⟩
  cases q <;> go_wp2_with fail
  all_goals go_ret
  all_goals exact ⟨ret_bool (by simp), below_then (by go_grown) hb1⟩
theorem every1_uni (P : Nat) (s : MSeat) (q : Bool) (w : World) (Z : Nat) (hP : Blk w P #[.func (.func 64) #[] #[.pointer (some ⟨Z, 0, none⟩)]]) (hq : ∀ W, Below w.heap.size w W → Calls Tryd.prog 64 #[vseatV s, .pointer (some ⟨Z, 0, none⟩)] W (Makes (.bool q) W)) :
    Calls Tryd.prog 102 #[regV s, .pointer (some ⟨P, 0, none⟩)] w (Makes (.bool (!q)) w) := by
  have h1 : w.cell? ⟨P, 0, none⟩ = some (.func (.func 64) #[] #[.pointer (some ⟨Z, 0, none⟩)]) := hP.cell 0
  have hl := hP.lt
  have h2 : ∀ o, (w.alloc o).cell? ⟨P, 0, none⟩ = some (.func (.func 64) #[] #[.pointer (some ⟨Z, 0, none⟩)]) := fun o => (hP.alloc o).cell 0
  have HQ := Lib.hid hq
  clear hP hq
  dsimp only [regV, vseatV] at *
  go_enter Tryd.func102, Tryd.ntmps102
  go_wp2_with fail
  refine (HQ.out _ (by go_grown)).mono ?_
  rintro e w1 ⟨rfl, hb1⟩
  cases q <;> go_wp2_with fail
  all_goals go_ret
  all_goals exact ⟨ret_bool (by simp), below_then (by go_grown) hb1⟩
theorem uni11_closes (Z : Nat) (s : MSeat) (w : World) (hZ : Blk w Z #[.func (.func 65) #[] #[]]) : Calls Tryd.prog 64 #[vseatV s, .pointer (some ⟨Z, 0, none⟩)] w (Makes (.bool (!qCloses s)) w) := by
  have HQ := Lib.hid (fun W => qCloses_of s W)
  have h1 : w.cell? ⟨Z, 0, none⟩ = some (.func (.func 65) #[] #[]) := hZ.cell 0
  have h2 : ∀ o, (w.alloc o).cell? ⟨Z, 0, none⟩ = some (.func (.func 65) #[] #[]) := fun o => (hZ.alloc o).cell 0
  have hl := hZ.lt
  obtain ⟨q, hq⟩ : ∃ q, q = qCloses s := ⟨_, rfl⟩
  rw [← hq] at HQ ⊢
  clear hZ hq
  dsimp only [vseatV] at *
  go_enter Tryd.func64, Tryd.ntmps64
  go_wp2_with fail
  refine (HQ.out _).mono ?_
  rintro e w1 ⟨rfl, hb1⟩
  cases q <;> go_wp2_with fail
  all_goals go_ret
  all_goals exact ⟨ret_bool (by simp), below_then (by go_grown) hb1⟩
theorem uni11_undoes (Z : Nat) (s : MSeat) (w : World) (hZ : Blk w Z #[.func (.func 66) #[] #[]]) : Calls Tryd.prog 64 #[vseatV s, .pointer (some ⟨Z, 0, none⟩)] w (Makes (.bool (!qUndoes s)) w) := by
  have HQ := Lib.hid (fun W => qUndoes_of s W)
  have h1 : w.cell? ⟨Z, 0, none⟩ = some (.func (.func 66) #[] #[]) := hZ.cell 0
  have h2 : ∀ o, (w.alloc o).cell? ⟨Z, 0, none⟩ = some (.func (.func 66) #[] #[]) := fun o => (hZ.alloc o).cell 0
  have hl := hZ.lt
  obtain ⟨q, hq⟩ : ∃ q, q = qUndoes s := ⟨_, rfl⟩
  rw [← hq] at HQ ⊢
  clear hZ hq
  dsimp only [vseatV] at *
  go_enter Tryd.func64, Tryd.ntmps64
  go_wp2_with fail
  refine (HQ.out _).mono ?_
  rintro e w1 ⟨rfl, hb1⟩
  cases q <;> go_wp2_with fail
  all_goals go_ret
  all_goals exact ⟨ret_bool (by simp), below_then (by go_grown) hb1⟩
end Go.Proofs.YtkidljiffeonjaaDoor
