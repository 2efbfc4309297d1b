/- liaisonnum.Num: the number of an error. -/
import Derived.Test.YthjdaehiebcoaaaGreatDoorRows
import Derived.WalkKit
import Derived.WalkSpells
import Derived.WalkLawsBesides
import Derived.BigQuiet
import Derived.Deep.QuietTactic
import Derived.StillTailTactics
import Derived.Handy
import Derived.Lib.Hide
import Derived.Test.YthjdaehiebcoaaaGreatDoorIs
set_option linter.unusedSimpArgs false
set_option linter.unusedVariables false
namespace Go.Proofs.YthjdaehiebcoaaaGreatDoor
open Go.RowKit

/-- the variables of package api hold fourteen errors of errors.New's make, each another one -/
structure Errs (ea : Int → Addr) (w : World) : Prop where
  e1 : ErrIs w 1 (ea 1)
  e2 : ErrIs w 2 (ea 2)
  e3 : ErrIs w 3 (ea 3)
  e4 : ErrIs w 0 (ea 4)
  e5 : ErrIs w 4 (ea 5)
  e6 : ErrIs w 5 (ea 6)
  e7 : ErrIs w 6 (ea 7)
  e8 : ErrIs w 7 (ea 8)
  e9 : ErrIs w 8 (ea 9)
  e10 : ErrIs w 9 (ea 10)
  e11 : ErrIs w 10 (ea 11)
  e12 : ErrIs w 11 (ea 12)
  e13 : ErrIs w 12 (ea 13)
  e14 : ErrIs w 13 (ea 14)
  ne : ∀ i j : Int, 1 ≤ i → i ≤ 14 → 1 ≤ j → j ≤ 14 → ea i = ea j → i = j
  row : ∀ i : Int, 1 ≤ i → i ≤ 14 → ∃ c t, w.heap[(ea i).block]? = some (.cells c t (0, 0))
theorem lt_of_row {w : World} {b : Nat} {o : Obj} (h : w.heap[b]? = some o) : b < w.heap.size := by
  rcases Nat.lt_or_ge b w.heap.size with h' | h'
  · exact h'
  · simp [Array.getElem?_eq_none h'] at h
theorem Errs.below {ea : Int → Addr} {w w' : World} (h : Errs ea w) (hb : Below w.heap.size w w') : Errs ea w' :=
  ⟨h.e1.below hb, h.e2.below hb, h.e3.below hb, h.e4.below hb, h.e5.below hb, h.e6.below hb, h.e7.below hb, h.e8.below hb, h.e9.below hb, h.e10.below hb, h.e11.below hb, h.e12.below hb, h.e13.below hb, h.e14.below hb, h.ne,
   fun i h1 h2 => by obtain ⟨c, t, hr⟩ := h.row i h1 h2; exact ⟨c, t, by rw [hb.block _ (lt_of_row hr)]; exact hr⟩⟩

set_option maxRecDepth 100000 in
set_option maxHeartbeats 2000000 in
theorem num_nil (w : World) : Calls Tryz.prog 8 #[.nilIface] w (Makes (.int .i64 0) w) := by
  go_enter Tryz.func8, Tryz.ntmps8
  go_wp2_with fail
  go_ret
  exact ⟨rfl, by go_grown⟩

set_option maxRecDepth 100000 in
set_option maxHeartbeats 2000000 in
theorem num_some (n : Int) (hn : 1 ≤ n ∧ n ≤ 14) (ea : Int → Addr) (w : World) (h : Errs ea w) : Calls Tryz.prog 8 #[errV (ea n)] w (Makes (.int .i64 n) w) := by
  have h1 : w.cell? ⟨1, 0, none⟩ = some (errV (ea 1)) := h.e1
  have h2 : w.cell? ⟨2, 0, none⟩ = some (errV (ea 2)) := h.e2
  have h3 : w.cell? ⟨3, 0, none⟩ = some (errV (ea 3)) := h.e3
  have h4 : w.cell? ⟨0, 0, none⟩ = some (errV (ea 4)) := h.e4
  have h5 : w.cell? ⟨4, 0, none⟩ = some (errV (ea 5)) := h.e5
  have h6 : w.cell? ⟨5, 0, none⟩ = some (errV (ea 6)) := h.e6
  have h7 : w.cell? ⟨6, 0, none⟩ = some (errV (ea 7)) := h.e7
  have h8 : w.cell? ⟨7, 0, none⟩ = some (errV (ea 8)) := h.e8
  have h9 : w.cell? ⟨8, 0, none⟩ = some (errV (ea 9)) := h.e9
  have h10 : w.cell? ⟨9, 0, none⟩ = some (errV (ea 10)) := h.e10
  have h11 : w.cell? ⟨10, 0, none⟩ = some (errV (ea 11)) := h.e11
  have h12 : w.cell? ⟨11, 0, none⟩ = some (errV (ea 12)) := h.e12
  have h13 : w.cell? ⟨12, 0, none⟩ = some (errV (ea 13)) := h.e13
  have h14 : w.cell? ⟨13, 0, none⟩ = some (errV (ea 14)) := h.e14
  have hB : Below w.heap.size w (w.alloc (.cells #[errV (ea 1), errV (ea 2), errV (ea 3), errV (ea 4), errV (ea 5), errV (ea 6), errV (ea 7), errV (ea 8), errV (ea 9), errV (ea 10), errV (ea 11), errV (ea 12), errV (ea 13), errV (ea 14)] 26)) := (Below.refl _ _).alloc (Nat.le_refl _) _
  have HE := Lib.hid (h.below hB); clear h
  have HC : Hid (∀ j : Nat, j < 14 → (w.alloc (.cells #[errV (ea 1), errV (ea 2), errV (ea 3), errV (ea 4), errV (ea 5), errV (ea 6), errV (ea 7), errV (ea 8), errV (ea 9), errV (ea 10), errV (ea 11), errV (ea 12), errV (ea 13), errV (ea 14)] 26)).cell? ⟨w.heap.size, j, none⟩ = some (errV (ea ((j : Int) + 1)))) := Lib.hid (fun j hj => by
    rw [World.cell?_alloc_new]
    match j, hj with
    | 0, _ | 1, _ | 2, _ | 3, _ | 4, _ | 5, _ | 6, _ | 7, _ | 8, _ | 9, _ | 10, _ | 11, _ | 12, _ | 13, _ => rfl)
  go_enter Tryz.func8, Tryz.ntmps8
  go_wp2_with fail
  clear h1 h2 h3 h4 h5 h6 h7 h8 h9 h10 h11 h12 h13 h14
  go_loop [25] (fun i => ∃ j : Nat, (j : Int) + 1 ≤ n ∧ i = .int .i64 j) (fun i => 14 - (intOf i).toNat)
  case atStart => exact ⟨0, by omega, rfl⟩
  case round =>
    obtain ⟨j, hj, rfl⟩ := hrel
    have hcj := HC.out j (by omega)
    by_cases hjn : (j : Int) + 1 = n
    · rw [hjn] at hcj
      have HJ := Lib.hid hjn; clear hjn
      go_wp2_with (go_at_call 25; refine (is_same _ _).mono ?_; rintro e w' ⟨rfl, rfl⟩)
      go_ret
      exact ⟨ret_int HJ.out, hB⟩
    · have hne : ea n ≠ ea ((j : Int) + 1) := fun he => hjn (HE.out.ne _ _ (by omega) (by omega) (by omega) (by omega) he).symm
      obtain ⟨c1, t1, r1⟩ := HE.out.row n (by omega) (by omega)
      obtain ⟨c2, t2, r2⟩ := HE.out.row ((j : Int) + 1) (by omega) (by omega)
      have HN := Lib.hid hne; clear hne
      have R1 := Lib.hid r1; clear r1
      have R2 := Lib.hid r2; clear r2
      go_wp2_with (go_at_call 25; refine (is_other _ _ _ _ _ _ _ HN.out R1.out R2.out).mono ?_; rintro e w' ⟨rfl, rfl⟩)
      go_round
      case rel => exact ⟨j + 1, by omega, by go_num⟩
      case measure => simp [intOf]; omega
end Go.Proofs.YthjdaehiebcoaaaGreatDoor
