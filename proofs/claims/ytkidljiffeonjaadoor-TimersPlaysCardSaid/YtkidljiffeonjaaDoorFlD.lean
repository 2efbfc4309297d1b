/- floats.Later. -/
import Derived.Test.YtkidljiffeonjaaDoorRows
import Derived.WalkKit
import Derived.WalkSpells
import Derived.WalkLawsBesides
import Derived.BigQuiet
import Derived.Deep.QuietTactic
import Derived.StillTailTactics
import Derived.Handy
import Derived.Lib.Hide
import Derived.Test.YtkidljiffeonjaaDoorFlC
import Derived.Test.YtkidljiffeonjaaDoorFlSum
import Derived.Laws.FloatArith
set_option linter.unusedSimpArgs false
set_option linter.unusedVariables false
namespace Go.Proofs.YtkidljiffeonjaaDoor
open Go.RowKit

/-- a delay's plain form lies at or below infinity -/
theorem plain_le (x : Nat) (hd : fdelay x = true) : fplain x ≤ 9218868437227405312 := by
  unfold fdelay at hd
  simp only [Bool.and_eq_true, Bool.not_eq_true', decide_eq_true_eq] at hd
  unfold fplain
  rw [hd.1]
  simp only [Bool.false_eq_true, if_false]
  have h1 := hd.1
  unfold fnan at h1
  simp only [decide_eq_false_iff_not] at h1
  split <;> omega
/-- the sum of two delays -/
def fsum (a b : Nat) : Nat := ((Ieee.double.add a b).getD 0)
theorem fsum_some (a b : Nat) (ha : a ≤ 9218868437227405312) (hb : b ≤ 9218868437227405312) : floatBits .add .f64 a b = some (fsum a b) ∧ fsum a b ≤ 9218868437227405312 := by
  obtain ⟨r, h1, h2⟩ := add_delay a b ha hb
  have e : fsum a b = r := by unfold fsum; rw [h1]; rfl
  rw [e]
  exact ⟨h1, h2⟩
theorem delay_of_le (x : Nat) (h : x ≤ 9218868437227405312) : F64 x ∧ fdelay x = true ∧ fplain x = x := by
  have hn : fnan x = false := by unfold fnan; rw [decide_eq_false]; omega
  refine ⟨by unfold F64; omega, ?_, ?_⟩
  · unfold fdelay; rw [hn, Bool.not_false, Bool.true_and, decide_eq_true_eq]; omega
  · unfold fplain; rw [hn]; simp only [Bool.false_eq_true, if_false]; rw [if_neg (by omega)]
theorem later_yes (x y : Nat) (hx : F64 x) (hy : F64 y) (dx : fdelay x = true) (dy : fdelay y = true) (w : World) : Calls Tryd.prog 73 #[flV x, flV y] w (Gives (.tuple #[flV (fsum (fplain x) (fplain y)), .nilIface]) w) := by
  have HX := Lib.hid (fun W => delay_yes x hx dx W)
  have HY := Lib.hid (fun W => delay_yes y hy dy W)
  have hs := fun (w : World) => run_float_arith (P := Tryd.prog) w .add 22 .f64 _ _ _ (fsum_some _ _ (plain_le x dx) (plain_le y dy)).1
  generalize fsum (fplain x) (fplain y) = r at *
  generalize fplain x = a at *
  generalize fplain y = b at *
  clear hx hy dx dy
  go_enter Tryd.func73, Tryd.ntmps73
  go_wp2_with fail
  refine (HX.out _).mono ?_; rintro e w1 ⟨rfl, rfl⟩
  go_wp2_with fail
  refine (HY.out _).mono ?_; rintro e w1 ⟨rfl, rfl⟩
  go_wp2
  go_ret2
  exact ⟨rfl, rfl⟩
theorem later_no (x y : Nat) (hx : F64 x) (hy : F64 y) (dx : fdelay x = true) (dy : fdelay y = false) (b : Addr) (w : World) (he : ErrIs w 0 b) : Calls Tryd.prog 73 #[flV x, flV y] w (Makes (.tuple #[flV 0, errV b]) w) := by
  have HX := Lib.hid (fun W => delay_yes x hx dx W)
  have HY := Lib.hid (fun W hW => delay_no y hy dy b W hW)
  have HE := Lib.hid he
  generalize fplain x = a at *
  clear hx hy dx dy he
  go_enter Tryd.func73, Tryd.ntmps73
  go_wp2_with fail
  refine (HX.out _).mono ?_; rintro e w1 ⟨rfl, rfl⟩
  go_wp2_with fail
  refine (HY.out _ HE.out).mono ?_; rintro e w1 ⟨rfl, hb1⟩
  have h1 : w1.cell? ⟨0, 0, none⟩ = some (errV b) := HE.out.below hb1
  go_wp2_with fail
  go_region
  all_goals go_wp2
  all_goals go_ret2
  all_goals exact ⟨rfl, hb1.drew⟩
end Go.Proofs.YtkidljiffeonjaaDoor
