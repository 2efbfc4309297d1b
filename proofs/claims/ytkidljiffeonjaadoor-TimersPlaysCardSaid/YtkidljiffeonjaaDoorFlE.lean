/- floats.Backoff, at delays. -/
import Derived.Test.YtkidljiffeonjaaDoorRows
import Derived.WalkKit
import Derived.WalkSpells
import Derived.WalkLawsBesides
import Derived.BigQuiet
import Derived.Deep.QuietTactic
import Derived.StillTailTactics
import Derived.Handy
import Derived.Lib.Hide
import Derived.Test.YtkidljiffeonjaaDoorFlD
import Derived.Test.YtkidljiffeonjaaDoorFlBack
set_option linter.unusedSimpArgs false
set_option linter.unusedVariables false
namespace Go.Proofs.YtkidljiffeonjaaDoor
open Go.RowKit

theorem le_parts (a : Nat) (h : a ≤ 9218868437227405312) : F64 a ∧ fnan a = false ∧ fkey a = (a : Int) := by
  have hn : fnan a = false := by unfold fnan; rw [decide_eq_false]; omega
  exact ⟨by unfold F64; omega, hn, by unfold fkey; rw [if_pos (by omega)]⟩
theorem flt_le (a b : Nat) (ha : a ≤ 9218868437227405312) (hb : b ≤ 9218868437227405312) : flt a b = decide (a < b) := by
  obtain ⟨_, n1, k1⟩ := le_parts a ha
  obtain ⟨_, n2, k2⟩ := le_parts b hb
  unfold flt
  rw [n1, n2, k1, k2]
  simp
theorem order_le (a b : Nat) (ha : a ≤ 9218868437227405312) (hb : b ≤ 9218868437227405312) : FloatKind.f64.format.order a b = some (if a < b then .lt else if a = b then .eq else .gt) := by
  obtain ⟨f1, n1, k1⟩ := le_parts a ha
  obtain ⟨f2, n2, k2⟩ := le_parts b hb
  rw [ford_some a b f1 f2, n1, n2, k1, k2]
  simp only [Bool.false_eq_true, or_self, if_false, Option.some.injEq]
  unfold fcmp
  repeat' split
  all_goals first | rfl | omega
theorem run_min_le (ts : Array TypeId) (t : TypeId) (a b : Nat) (ha : a ≤ 9218868437227405312) (hb : b ≤ 9218868437227405312) (w : World) : (Builtin.min_ ts t #[flV a, flV b]).run Tryd.prog w = .ok (flV (min a b)) w := by
  have h := order_le a b ha hb
  have e : Builtin.min_ ts t #[flV a, flV b] = Builtin.min2 (flV a) (flV b) := by simp [Builtin.min_]
  rw [e]
  unfold Builtin.min2
  simp only [h]
  by_cases h1 : a < b
  · rw [if_pos h1, Nat.min_eq_left (by omega)]; rfl
  rw [if_neg h1]
  by_cases h2 : a = b
  · subst h2
    rw [if_pos rfl, Nat.min_self]
    simp
  · rw [if_neg h2, Nat.min_eq_right (by omega)]; rfl
/-- a delay b, doubled t times, at most m -/
def bko (x limit t : Nat) : Nat := if limit < itD (min t 2200) x then limit else itD (min t 2200) x

set_option maxRecDepth 100000 in
set_option maxHeartbeats 2000000 in
theorem backoff_of (b m : Nat) (t : Nat) (hb : F64 b) (hm : F64 m) (db : fdelay b = true) (dm : fdelay m = true) (ht : t ≤ 1000000) (w : World) : Calls Tryd.prog 111 #[flV b, .int .i64 (t : Int), flV m] w (Gives (.tuple #[flV (bko (fplain b) (fplain m) t), .nilIface]) w) := by
  have HX := Lib.hid (fun W => delay_yes b hb db W)
  have HY := Lib.hid (fun W => delay_yes m hm dm W)
  have lx := plain_le b db
  have ly := plain_le m dm
  have HB := Lib.hid (fun j => backoff_eq (fplain b) (fplain m) j t lx ly)
  generalize fplain b = x at *
  generalize fplain m = l at *
  have HBK : Hid (∀ j, j ≤ t → (∀ i, i < j → 0 < itD i x ∧ itD i x < l) → (j = t ∨ itD j x = 0 ∨ l ≤ itD j x) → min (itD j x) l = bko x l t) := Lib.hid (fun j h1 h2 h3 => HB.out j h1 h2 h3)
  obtain ⟨v, hv⟩ : ∃ v, v = bko x l t := ⟨_, rfl⟩
  rw [← hv] at HBK ⊢
  clear hb hm db dm HB hv
  go_enter Tryd.func111, Tryd.ntmps111
  go_wp2_with fail
  refine (HX.out _).mono ?_; rintro e w1 ⟨rfl, rfl⟩
  go_wp2_with fail
  refine (HY.out _).mono ?_; rintro e w1 ⟨rfl, rfl⟩
  go_wp2_with fail
  go_loopw [1, 8] (fun n y wr => ∃ j : Nat, j ≤ t ∧ n = .int .i64 ((t : Int) - (j : Int)) ∧ y = .float .f64 (itD j x) ∧ Hid (∀ i, i < j → 0 < itD i x ∧ itD i x < l) ∧ wr = w) (fun n _ _ => (intOf n).toNat)
  case atStart => exact ⟨0, by omega, by simp, rfl, Lib.hid (fun i h => absurd h (by omega)), rfl⟩
  case round =>
    obtain ⟨j, hj, rfl, rfl, hlt, rfl⟩ := hrel
    have lj := itD_le j x lx
    have hs := run_flt (itD j x) l (le_parts _ lj).1 (le_parts _ ly).1
    have hg := run_fgt (itD j x) 0 (le_parts _ lj).1 f64_zero
    rw [flt_le _ _ lj ly] at hs
    rw [flt_le _ _ (by omega) lj] at hg
    have hmul := fun (w : World) => run_float_arith (P := Tryd.prog) w .mul 22 .f64 _ _ _ (dbl_mul (itD j x) lj)
    have hmin := fun ts ty (w : World) => run_min_le ts ty (itD j x) l lj ly w
    have hsucc : dblR (itD j x) = itD (j + 1) x := rfl
    have HSU := Lib.hid hsucc
    have HJ := Lib.hid (HBK.out j hj hlt.out)
    obtain ⟨X, hX⟩ : ∃ X, X = itD j x := ⟨_, rfl⟩
    rw [← hX] at hs hg hmul hmin HSU HJ ⊢
    have HX2 := Lib.hid hX
    by_cases c1 : j = t
    · subst c1
      have hv := HJ.out (.inl rfl)
      rw [hv] at hmin
      clear hX hmul hs hg hsucc lj
      go_wp2_with fail
      go_ret2
      exact ⟨rfl, rfl⟩
    have hpos : (0 : Int) < (t : Int) - (j : Int) := by omega
    by_cases c2 : 0 < X
    · rw [decide_eq_true c2] at hg
      by_cases c3 : X < l
      · rw [decide_eq_true c3] at hs
        have hw : IntKind.i64.wrap ((t : Int) - (j : Int) - 1) = (t : Int) - ((j + 1 : Nat) : Int) := by rw [IntWalk.i64_in _ (by omega)]; omega
        have HL2 : Hid (∀ i, i < j + 1 → 0 < itD i x ∧ itD i x < l) := Lib.hid (fun i hi => by
          by_cases hij : i = j
          · subst hij; rw [← HX2.out]; exact ⟨c2, c3⟩
          · exact hlt.out i (by omega))
        clear hX hmin hsucc lj HJ
        go_wp2_with fail
        go_roundw
        · refine ⟨j + 1, by omega, ?_, ?_, HL2, trivial⟩
          · first | rfl | (congr 1; omega) | simp
          · rw [← HSU.out]
        · (simp [intOf]; omega)
      · rw [decide_eq_false c3] at hs
        have hv := HJ.out (.inr (.inr (by omega)))
        rw [hv] at hmin
        clear hX hmul hsucc lj
        go_wp2_with fail
        go_ret2
        exact ⟨rfl, rfl⟩
    · rw [decide_eq_false c2] at hg
      have hv := HJ.out (.inr (.inl (by omega)))
      rw [hv] at hmin
      clear hX hmul hsucc lj hs
      go_wp2_with fail
      go_ret2
      exact ⟨rfl, rfl⟩
end Go.Proofs.YtkidljiffeonjaaDoor
