/- floats.Least at delays; a range over the clock's map. -/
import Derived.Test.YtkidljiffeonjaaDoorRows
import Derived.WalkKit
import Derived.WalkSpells
import Derived.WalkLawsBesides
import Derived.BigQuiet
import Derived.Deep.QuietTactic
import Derived.StillTailTactics
import Derived.Handy
import Derived.Lib.Hide
import Derived.Test.YtkidljiffeonjaaDoorTimC
import Derived.Maps.RangeWalk
set_option linter.unusedSimpArgs false
set_option linter.unusedVariables false
namespace Go.Proofs.YtkidljiffeonjaaDoor
open Go.RowKit Go.Maps
attribute [local go_sem] store_float

def fminP (xs : List Nat) : Nat := xs.foldl (fun m x => if x < m then x else m) 9218868437227405312
theorem fmin_fold : ∀ (xs : List Nat) (m : Nat), xs.foldl (fun m x => if x < m then x else m) m ≤ m
  | [], m => Nat.le_refl m
  | x :: r, m => by
    rw [List.foldl_cons]
    refine Nat.le_trans (fmin_fold r _) ?_
    split <;> omega
theorem fminP_le (xs : List Nat) : fminP xs ≤ 9218868437227405312 := fmin_fold xs _
theorem fminP_take (xs : List Nat) (k : Nat) (h : k < xs.length) : fminP (xs.take (k + 1)) = if xs[k] < fminP (xs.take k) then xs[k] else fminP (xs.take k) := by
  unfold fminP; rw [List.take_succ_eq_append_getElem h, List.foldl_append]; rfl
theorem fmin_min (xs : List Nat) (m : Nat) : xs.foldl (fun m x => if x < m then x else m) m = xs.foldl min m := by
  induction xs generalizing m with
  | nil => rfl
  | cons x r ih =>
    simp only [List.foldl_cons]
    rw [ih]
    congr 1
    show (if x < m then x else m) = min m x
    split <;> omega
theorem fminP_perm {xs ys : List Nat} (h : xs.Perm ys) : fminP xs = fminP ys := by
  unfold fminP
  rw [fmin_min, fmin_min]
  exact h.foldl_eq' (fun a _ b _ z => by omega) _
theorem inf_of (w : World) : Calls Tryd.prog 117 #[.int .i64 1] w (Gives (flV 9218868437227405312) w) := by
  have hf := frombits_run 9218868437227405312
  go_enter Tryd.func117, Tryd.ntmps117
  go_wp2
  go_ret
  exact ⟨rfl, rfl⟩
/-- a row of floats in a slice -/
def FloatRow (w : World) (v : Value) (xs : List Nat) : Prop := ∃ a cap, v = .slice a xs.length cap ∧ ∀ j (h : j < xs.length), ∃ g o, a = some ⟨g, o, none⟩ ∧ w.cell? ⟨g, o + j, none⟩ = some (.float .f64 xs[j])
set_option maxRecDepth 100000 in
set_option maxHeartbeats 1000000 in
theorem least_of (v : Value) (xs : List Nat) (w : World) (hv : FloatRow w v xs) (hx : ∀ x ∈ xs, x ≤ 9218868437227405312) (hl : xs.length ≤ 1000) : Calls Tryd.prog 80 #[v] w (Gives (flV (fminP xs)) w) := by
  obtain ⟨a, cap, rfl, hcells⟩ := hv
  have HO := Lib.hid (fun x y (h1 : x ≤ 9218868437227405312) (h2 : y ≤ 9218868437227405312) W => (forder_le x y h1 h2) ▸ forder_of x y (delay_of_le x h1).1 (delay_of_le y h2).1 W)
  have HP := Lib.hid (fun W => (delay_of_le _ (fminP_le xs)).2.2 ▸ plain_of _ (delay_of_le _ (fminP_le xs)).1 W)
  have HI := Lib.hid inf_of
  have HC := Lib.hid hcells
  have HX := Lib.hid hx
  clear hcells hx
  obtain ⟨n, hn⟩ : ∃ n, n = xs.length := ⟨_, rfl⟩
  rw [← hn]
  rw [← hn] at hl
  have HN := Lib.hid hn
  clear hn
  go_enter Tryd.func80, Tryd.ntmps80
  go_wp2_with fail
  refine (HI.out _).mono ?_; rintro e w1 ⟨rfl, rfl⟩
  go_wp2_with fail
  go_loopw [3, 9] (fun m i wr => ∃ k : Nat, k ≤ n ∧ i = .int .i64 k ∧ m = flV (fminP (xs.take k)) ∧ wr = w) (fun _ i _ => n - (intOf i).toNat)
  case atStart => exact ⟨0, by omega, rfl, rfl, rfl⟩
  case round =>
    obtain ⟨k, hk, rfl, rfl, rfl⟩ := hrel
    by_cases hlt : k < n
    · have hlt' : k < xs.length := by rw [← HN.out]; exact hlt
      obtain ⟨g, o, rfl, hc⟩ := HC.out k hlt'
      have hxk := HX.out _ (List.getElem_mem hlt')
      have HT := Lib.hid (fminP_take xs k hlt')
      have hF := HO.out xs[k] (fminP (xs.take k)) hxk (fminP_le _)
      generalize fminP (xs.take k) = m at *
      generalize xs[k] = x at *
      obtain ⟨z, hz, hz2⟩ : ∃ z, fcp (x : Int) (m : Int) = z ∧ (z = -1 ∧ x < m ∨ z = 0 ∧ ¬ x < m ∨ z = 1 ∧ ¬ x < m) := by
        refine ⟨_, rfl, ?_⟩
        unfold fcp
        rcases Nat.lt_trichotomy x m with h | h | h
        · rw [if_pos (by omega)]; exact .inl ⟨rfl, h⟩
        · rw [if_neg (by omega), if_neg (by omega)]; exact .inr (.inl ⟨rfl, by omega⟩)
        · rw [if_neg (by omega), if_pos (by omega)]; exact .inr (.inr ⟨rfl, by omega⟩)
      rw [hz] at hF
      have HF := Lib.hid hF
      clear hF hz
      rcases hz2 with ⟨rfl, hxm⟩ | ⟨rfl, hxm⟩ | ⟨rfl, hxm⟩
      all_goals
        have HM := Lib.hid hxm
        clear hxm
        go_wp2_with fail
        refine (HF.out _).mono ?_; rintro e w1 ⟨rfl, rfl⟩
        go_wp2_with fail
        go_roundw
        case rel => exact ⟨k + 1, by omega, by go_num, (by rw [HT.out]; first | rw [if_pos HM.out] | rw [if_neg HM.out]), by first | rfl | trivial⟩
        case measure => (have := HN.out; simp [intOf]; omega)
    · obtain rfl : k = n := by omega
      have e1 : xs.take k = xs := List.take_of_length_le (by rw [← HN.out]; exact Nat.le_refl _)
      rw [e1]
      generalize fminP xs = m at *
      go_wp2_with fail
      refine (HP.out _).mono ?_; rintro e w1 ⟨rfl, rfl⟩
      go_wp2_with fail
      go_ret
      exact ⟨rfl, rfl⟩
end Go.Proofs.YtkidljiffeonjaaDoor
