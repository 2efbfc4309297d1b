/- What a panic's error is: catch.told over the fourteen errors of package api. -/
import Derived.Test.YthjdaehiebcoaaaGreatDoorRows
import Derived.WalkKit
import Derived.WalkSpells
import Derived.WalkLawsBesides
import Derived.BigQuiet
import Derived.Deep.QuietTactic
import Derived.StillTailTactics
import Derived.Handy
import Derived.Lib.Hide
import Derived.Test.YthjdaehiebcoaaaGreatDoorNum
import Derived.Test.YthjdaehiebcoaaaGreatDoorBlk
set_option linter.unusedSimpArgs false
set_option linter.unusedVariables false
namespace Go.Proofs.YthjdaehiebcoaaaGreatDoor
open Go.RowKit

/-- it panics with an error -/
def Fails (v : Value) (w : World) (e : Ending) (w' : World) : Prop := e = .panicked [{ v := v, recovered := false }] ∧ Below w.heap.size w w'
/-- a result, or a panic with the error of a number -/
def Tries (ea : Int → Addr) (n : Int) (v : Value) (w : World) (e : Ending) (w' : World) : Prop := if n = 0 then Makes v w e w' else Fails (errV (ea n)) w e w'
theorem tries_makes {ea : Int → Addr} {n : Int} {v : Value} {f : Nat} {args : Array Value} {w : World} (hn : n = 0) (h : Calls Tryz.prog f args w (Makes v w)) : Calls Tryz.prog f args w (Tries ea n v w) := h.mono fun e w' h' => by rw [Tries, if_pos hn]; exact h'
theorem tries_fails {ea : Int → Addr} {n : Int} {v : Value} {f : Nat} {args : Array Value} {w : World} (hn : n ≠ 0) (h : Calls Tryz.prog f args w (Fails (errV (ea n)) w)) : Calls Tryz.prog f args w (Tries ea n v w) := h.mono fun e w' h' => by rw [Tries, if_neg hn]; exact h'
theorem tries_makes' {ea : Int → Addr} {n : Int} {v : Value} {f : Nat} {args : Array Value} {w : World} (hn : n = 0) (h : Calls Tryz.prog f args w (Tries ea n v w)) : Calls Tryz.prog f args w (Makes v w) := h.mono fun e w' h' => by rw [Tries, if_pos hn] at h'; exact h'
theorem tries_fails' {ea : Int → Addr} {n : Int} {v : Value} {f : Nat} {args : Array Value} {w : World} (hn : n ≠ 0) (h : Calls Tryz.prog f args w (Tries ea n v w)) : Calls Tryz.prog f args w (Fails (errV (ea n)) w) := h.mono fun e w' h' => by rw [Tries, if_neg hn] at h'; exact h'

set_option maxHeartbeats 400000 in
theorem told1_of (n m : Int) (hn : 1 ≤ n ∧ n ≤ 14) (hm : 1 ≤ m ∧ m ≤ 14) (ea : Int → Addr) (ka : Addr) (w : World) (h : Errs ea w) (hk : w.cell? ka = some (errV (ea n))) :
    Calls Tryz.prog 74 #[errV (ea m), .pointer (some ka)] w (Makes (.bool (n == m)) w) := by
  have hlt := lt_of_cell hk
  by_cases hnm : n = m
  · subst hnm
    rw [show (n == n) = true by simp]
    clear h
    go_enter Tryz.func74, Tryz.ntmps74
    go_wp2_with fail
    refine (is_same _ _).mono ?_
    rintro e w' ⟨rfl, rfl⟩
    go_wp2_with fail
    go_ret
    exact ⟨rfl, by go_grown⟩
  · rw [show (n == m) = false by simpa using hnm]
    have hne : ea n ≠ ea m := fun he => hnm (h.ne _ _ hn.1 hn.2 hm.1 hm.2 he)
    have HE := Lib.hid h
    have HN := Lib.hid hne
    clear h hne hnm
    go_enter Tryz.func74, Tryz.ntmps74
    go_wp2_with fail
    obtain ⟨c1, t1, r1⟩ := HE.out.row n hn.1 hn.2
    obtain ⟨c2, t2, r2⟩ := HE.out.row m hm.1 hm.2
    refine (is_other _ _ _ _ _ _ _ HN.out r1 r2).mono ?_
    rintro e w' ⟨rfl, rfl⟩
    go_wp2_with fail
    go_ret
    exact ⟨rfl, by go_grown⟩

/-- the fourteen errors in a block -/
def Own14 (ea : Int → Addr) (w : World) (b : Nat) : Prop := b < w.heap.size ∧ ∀ j : Nat, j < 14 → w.cell? ⟨b, j, none⟩ = some (errV (ea ((j : Int) + 1)))
theorem Own14.below {ea : Int → Addr} {w w' : World} {b : Nat} (h : Own14 ea w b) (hb : Below w.heap.size w w') : Own14 ea w' b :=
  ⟨Nat.lt_of_lt_of_le h.1 hb.size, fun j hj => (hb.cell (p := ⟨b, j, none⟩) h.1).trans (h.2 j hj)⟩

set_option maxHeartbeats 400000 in
theorem indexe_of (n : Int) (hn : 1 ≤ n ∧ n ≤ 14) (ea : Int → Addr) (ka : Addr) (b : Nat) (w : World) (h : Errs ea w) (hk : w.cell? ka = some (errV (ea n))) (ho : Own14 ea w b) :
    Calls Tryz.prog 72 #[.slice (some ⟨b, 0, none⟩) 14 14, .func (.func 74) #[] #[.pointer (some ka)]] w (Makes (.int .i64 (n - 1)) w) := by
  have hlt := lt_of_cell hk
  have HR := Lib.hid ho; clear ho
  have HE := Lib.hid h; clear h
  go_enter Tryz.func72, Tryz.ntmps72
  go_wp2
  go_loopw [8] (fun i wr => ∃ j : Nat, (j : Int) + 1 ≤ n ∧ i = .int .i64 j ∧ Below w.heap.size w wr) (fun i _ => 14 - (intOf i).toNat)
  case atStart => exact ⟨0, by omega, rfl, Below.refl _ _⟩
  case round =>
    obtain ⟨j, hj, rfl, hb⟩ := hrel
    have hkr : wr.cell? ka = some (errV (ea n)) := (hb.cell (p := ka) hlt).trans hk
    have h1 := (HR.out.below hb).2 j (by omega)
    have hj14 : j < 14 := by omega
    go_wp2_with (go_at_call 74; refine (told1_of n _ hn ⟨by omega, by omega⟩ ea _ _ (HE.out.below hb) hkr).mono ?_; rintro e w' ⟨rfl, hb'⟩)
    · have he : (n == (j : Int) + 1) = true := by assumption
      go_ret
      exact ⟨ret_int (by simp at he; omega), hb.trans (hb'.mono hb.size)⟩
    · have he : (n == (j : Int) + 1) = false := by assumption
      go_roundw
      case rel => exact ⟨j + 1, by simp at he; omega, by go_num, hb.trans (hb'.mono hb.size)⟩
      case measure => simp [intOf]; omega
end Go.Proofs.YthjdaehiebcoaaaGreatDoor
