/- The reference's Backoff (liaisonref01), at delays. -/
import Derived.Test.YtkidljiffeonjaaDoorRows
import Derived.WalkKit
import Derived.WalkSpells
import Derived.WalkLawsBesides
import Derived.BigQuiet
import Derived.Deep.QuietTactic
import Derived.StillTailTactics
import Derived.Handy
import Derived.Lib.Hide
import Derived.Test.YtkidljiffeonjaaDoorFlE
set_option linter.unusedSimpArgs false
set_option linter.unusedVariables false
namespace Go.Proofs.YtkidljiffeonjaaDoor
open Go.RowKit

theorem forder_le (a b : Nat) (ha : a ≤ 9218868437227405312) (hb : b ≤ 9218868437227405312) : forder a b = fcp a b := by
  obtain ⟨_, n1, _⟩ := le_parts a ha
  obtain ⟨_, n2, _⟩ := le_parts b hb
  unfold forder fplace fcp
  rw [n1, n2]
  simp only [Bool.false_eq_true, if_false]
  rw [if_pos (by omega : a < 9223372036854775808), if_pos (by omega : b < 9223372036854775808)]

set_option maxRecDepth 100000 in
set_option maxHeartbeats 2000000 in
theorem rbackoff_of (b m : Nat) (t : Nat) (hb : F64 b) (hm : F64 m) (db : fdelay b = true) (dm : fdelay m = true) (ht : t ≤ 1000000) (w : World) : Calls Tryd.prog 118 #[flV b, .int .i64 (t : Int), flV m] w (Gives (.tuple #[flV (bko (fplain b) (fplain m) t), .int .i64 0]) w) := by
  have hD1 := fun W => rdelay_of b hb W
  have hD2 := fun W => rdelay_of m hm W
  rw [db] at hD1; rw [dm] at hD2
  have HD1 := Lib.hid hD1; have HD2 := Lib.hid hD2
  have HP1 := Lib.hid (fun W => rplain_of b hb W)
  have HP2 := Lib.hid (fun W => rplain_of m hm W)
  have lx := plain_le b db
  have ly := plain_le m dm
  generalize fplain b = x at *
  generalize fplain m = l at *
  have HO := Lib.hid (fun y (hy : y ≤ 9218868437227405312) W => rorder_of l y (le_parts l ly).1 (le_parts y hy).1 W)
  obtain ⟨v, hv⟩ : ∃ v, v = bko x l t := ⟨_, rfl⟩
  rw [← hv]
  have HV := Lib.hid hv
  clear hb hm db dm hv hD1 hD2
  go_enter Tryd.func118, Tryd.ntmps118
  go_wp2_with fail
  refine (HD1.out _).mono ?_; rintro e w1 ⟨rfl, rfl⟩
  go_wp2_with fail
  refine (HD2.out _).mono ?_; rintro e w1 ⟨rfl, rfl⟩
  go_wp2_with fail
  refine (HP1.out _).mono ?_; rintro e w1 ⟨rfl, rfl⟩
  go_wp2_with fail
  go_loopw [8, 9] (fun y n wr => ∃ j : Nat, j ≤ t ∧ j ≤ 2200 ∧ n = .int .i64 (j : Int) ∧ y = .float .f64 (itD j x) ∧ wr = w) (fun _ n _ => 2200 - (intOf n).toNat)
  case atStart => exact ⟨0, by omega, by omega, rfl, rfl, rfl⟩
  case round =>
    obtain ⟨j, hj, hj2, rfl, rfl, rfl⟩ := hrel
    have lj := itD_le j x lx
    have hsucc : fsum (itD j x) (itD j x) = itD (j + 1) x := by
      unfold fsum
      rw [dbl_add (itD j x) lj]
      rfl
    have hadd := fun (w : World) => run_float_arith (P := Tryd.prog) w .add 22 .f64 _ _ _ (fsum_some (itD j x) (itD j x) lj lj).1
    rw [hsucc] at hadd
    obtain ⟨X, hX⟩ : ∃ X, X = itD j x := ⟨_, rfl⟩
    obtain ⟨Y, hY⟩ : ∃ Y, Y = itD (j + 1) x := ⟨_, rfl⟩
    rw [← hY] at hadd
    rw [← hX] at hadd lj ⊢
    have HX2 := Lib.hid hX; have HY2 := Lib.hid hY
    clear hX hY hsucc
    by_cases c : j < t ∧ j < 2200
    · have c1 : (j : Int) < (t : Int) := by omega
      have c2 : (j : Int) < 2200 := by omega
      go_wp2_with fail
      all_goals (go_roundw <;> first | exact ⟨j + 1, by omega, by omega, by go_num, by rw [HY2.out], trivial⟩ | exact ⟨j + 1, by omega, by omega, by go_num, by rw [HY2.out], rfl⟩ | (simp [intOf]; omega))
    · have hmn : min t 2200 = j := by omega
      have hvj : v = if l < X then l else X := by rw [HV.out, HX2.out]; unfold bko; rw [hmn]
      have hO := fun W => HO.out X lj W
      rw [forder_le l X ly lj] at hO
      have HOX := Lib.hid hO
      clear hO hadd
      by_cases c1 : (j : Int) < (t : Int)
      · have c2 : ¬ (j : Int) < 2200 := by omega
        by_cases hl : l < X
        · have ho : fcp l X = -1 := by unfold fcp; rw [if_pos (by omega)]
          rw [if_pos hl] at hvj
          rw [ho] at HOX
          subst hvj
          clear ho
          go_wp2_with fail
          refine (HP2.out _).mono ?_; rintro e w1 ⟨rfl, rfl⟩
          go_wp2_with fail
          refine (HOX.out _).mono ?_; rintro e w1 ⟨rfl, rfl⟩
          go_wp2_with fail
          refine (HP2.out _).mono ?_; rintro e w1 ⟨rfl, rfl⟩
          go_wp2_with fail
          go_ret2
          exact ⟨rfl, rfl⟩
        · obtain ⟨o, ho⟩ : ∃ o, o = fcp l X := ⟨_, rfl⟩
          have hon : ¬ o < 0 := by rw [ho]; unfold fcp; rw [if_neg (by omega)]; split <;> omega
          rw [if_neg hl] at hvj
          rw [← ho] at HOX
          subst hvj
          clear ho
          go_wp2_with fail
          refine (HP2.out _).mono ?_; rintro e w1 ⟨rfl, rfl⟩
          go_wp2_with fail
          refine (HOX.out _).mono ?_; rintro e w1 ⟨rfl, rfl⟩
          go_wp2_with fail
          go_ret2
          exact ⟨rfl, rfl⟩
      · by_cases hl : l < X
        · have ho : fcp l X = -1 := by unfold fcp; rw [if_pos (by omega)]
          rw [if_pos hl] at hvj
          rw [ho] at HOX
          subst hvj
          clear ho
          go_wp2_with fail
          refine (HP2.out _).mono ?_; rintro e w1 ⟨rfl, rfl⟩
          go_wp2_with fail
          refine (HOX.out _).mono ?_; rintro e w1 ⟨rfl, rfl⟩
          go_wp2_with fail
          refine (HP2.out _).mono ?_; rintro e w1 ⟨rfl, rfl⟩
          go_wp2_with fail
          go_ret2
          exact ⟨rfl, rfl⟩
        · obtain ⟨o, ho⟩ : ∃ o, o = fcp l X := ⟨_, rfl⟩
          have hon : ¬ o < 0 := by rw [ho]; unfold fcp; rw [if_neg (by omega)]; split <;> omega
          rw [if_neg hl] at hvj
          rw [← ho] at HOX
          subst hvj
          clear ho
          go_wp2_with fail
          refine (HP2.out _).mono ?_; rintro e w1 ⟨rfl, rfl⟩
          go_wp2_with fail
          refine (HOX.out _).mono ?_; rintro e w1 ⟨rfl, rfl⟩
          go_wp2_with fail
          go_ret2
          exact ⟨rfl, rfl⟩
end Go.Proofs.YtkidljiffeonjaaDoor
