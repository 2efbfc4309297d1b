/- slices.Sort on a short list of numbers that is sorted already: nothing turns. -/
import Derived.Test.YtaoejkjkgdnpmaaDoorRows
import Derived.WalkKit
import Derived.WalkSpells
import Derived.WalkLawsBesides
import Derived.BigQuiet
import Derived.Deep.QuietTactic
import Derived.StillTailTactics
import Derived.Handy
import Derived.Lib.Hide
import Derived.Test.YtaoejkjkgdnpmaaDoorBlk
set_option linter.unusedSimpArgs false
set_option linter.unusedVariables false
namespace Go.Proofs.YtaoejkjkgdnpmaaDoor
open Go.RowKit

theorem isNaN_any (a : Int) (w : World) : Calls Tryd.prog 69 #[.int .i64 a] w (Gives (.bool false) w) := by
  go_enter Tryd.func69, Tryd.ntmps69
  go_wp2
  go_ret
  exact ⟨ret_bool (by simp), rfl⟩
theorem less_any (a b : Int) (w : World) : Calls Tryd.prog 59 #[.int .i64 a, .int .i64 b] w (Gives (.bool (decide (a < b))) w) := by
  go_enter Tryd.func59, Tryd.ntmps59
  go_wp2_with (first | (go_at_call 69; refine (isNaN_any _ _).mono ?_; rintro e w' ⟨rfl, rfl⟩))
  go_ret
  exact ⟨rfl, rfl⟩

/-- numbers in the cells of a block -/
def IntsAt (w : World) (g : Nat) (xs : List Int) : Prop := ∀ i (h : i < xs.length), w.cell? ⟨g, i, none⟩ = some (.int .i64 xs[i])
/-- a function that has changed nothing but the count of draws -/
def Draws (v : Value) (w : World) (e : Ending) (w' : World) : Prop := e = .returned v ∧ ∃ n, w' = w.drewN n

set_option maxRecDepth 100000 in
set_option maxHeartbeats 1000000 in
theorem insertion_any (xs : List Int) (g cap : Nat) (w : World) (hx : IntsAt w g xs) (hs : ∀ i (h : i + 1 < xs.length), xs[i] ≤ xs[i + 1]) (hl : xs.length ≤ 12) (h1 : 1 ≤ xs.length) :
    Calls Tryd.prog 53 #[.slice (some ⟨g, 0, none⟩) xs.length cap, .int .i64 0, .int .i64 xs.length] w (Draws (.tuple #[]) w) := by
  have HX := Lib.hid hx; clear hx
  have HS := Lib.hid hs; clear hs
  go_enter Tryd.func53, Tryd.ntmps53
  go_wp2
  go_loopw [6] (fun i wr => ∃ k : Nat, k + 1 ≤ xs.length ∧ i = .int .i64 ((k : Int) + 1) ∧ Hid (∃ n, wr = w.drewN n)) (fun i _ => xs.length - (intOf i).toNat)
  case atStart => exact ⟨0, by omega, by go_num, Lib.hid ⟨0, rfl⟩⟩
  case round =>
    obtain ⟨k, hk, rfl, HW⟩ := hrel
    by_cases hlt : k + 1 < xs.length
    · have a1 : wr.cell? ⟨g, k + 1, none⟩ = some (.int .i64 xs[k + 1]) := by
        obtain ⟨n, rfl⟩ := HW.out
        exact HX.out (k + 1) hlt
      have a0 : wr.cell? ⟨g, k, none⟩ = some (.int .i64 xs[k]) := by
        obtain ⟨n, rfl⟩ := HW.out
        exact HX.out k (by omega)
      have hle := HS.out k hlt
      have hd : decide (xs[k + 1] < xs[k]) = false := by simpa using hle
      have hg : decide ((0 : Int) < (k : Int) + 1) = true := decide_eq_true (by omega)
      have i1 : (0 : Int) ≤ (k : Int) + 1 := by omega
      have i2 : (k : Int) + 1 < xs.length := by omega
      go_wp2
      refine wp_loop_rounds 1 ?_
      rw [rounds_succ]
      go_wp2
      go_quiet ((go_at_call 59; exact Calls.quiet_of_same ((less_any _ _ _).mono fun e w' h => ⟨h.1, h.2.symm⟩)))
      go_wp2
      go_roundw
      case rel =>
        refine ⟨k + 1, by omega, by go_num, ?_⟩
        obtain ⟨n, rfl⟩ := HW.out
        exact Lib.hid ⟨_, by rw [World.drewN_drewN]⟩
      case measure => simp [intOf]; omega
    · have hk : k + 1 = xs.length := by omega
      have i2 : ¬ ((k : Int) + 1 < xs.length) := by omega
      go_wp2
      go_returns
      exact ⟨rfl, HW.out⟩

set_option maxRecDepth 100000 in
set_option maxHeartbeats 1000000 in
theorem pdq_any (xs : List Int) (g cap : Nat) (lim : Int) (w : World) (hx : IntsAt w g xs) (hs : ∀ i (h : i + 1 < xs.length), xs[i] ≤ xs[i + 1]) (hl : xs.length ≤ 12) (h1 : 1 ≤ xs.length) :
    Calls Tryd.prog 51 #[.slice (some ⟨g, 0, none⟩) xs.length cap, .int .i64 0, .int .i64 xs.length, .int .i64 lim] w (Draws (.tuple #[]) w) := by
  have hc := insertion_any xs g cap w hx hs hl h1
  have HC := Lib.hid hc; clear hc hx hs
  go_enter Tryd.func51, Tryd.ntmps51
  go_wp2
  refine wp_loop_rounds 1 ?_
  rw [rounds_succ]
  go_wp2_with (go_at_call 53; refine (HC.out).mono ?_; rintro e w' ⟨rfl, hw⟩)
  go_returns
  exact ⟨rfl, hw⟩

set_option maxRecDepth 100000 in
set_option maxHeartbeats 1000000 in
theorem sort_any (xs : List Int) (g cap : Nat) (w : World) (hx : IntsAt w g xs) (hs : ∀ i (h : i + 1 < xs.length), xs[i] ≤ xs[i + 1]) (hl : xs.length = 6 ∨ xs.length = 7) :
    Calls Tryd.prog 42 #[.slice (some ⟨g, 0, none⟩) xs.length cap] w (Draws (.tuple #[]) w) := by
  have hc := fun lim => pdq_any xs g cap lim w hx hs (by omega) (by omega)
  have HC := Lib.hid hc; clear hc hx hs
  obtain ⟨n, hn⟩ : ∃ n, n = xs.length := ⟨_, rfl⟩
  rw [← hn] at HC hl ⊢
  clear hn
  rcases hl with rfl | rfl
  all_goals
    go_enter Tryd.func42, Tryd.ntmps42
    go_wp2_with (first | (go_at_call 51; refine (HC.out _).mono ?_; rintro e w' ⟨rfl, hw⟩) | go_in)
    go_returns
    exact ⟨rfl, hw⟩
end Go.Proofs.YtaoejkjkgdnpmaaDoor
