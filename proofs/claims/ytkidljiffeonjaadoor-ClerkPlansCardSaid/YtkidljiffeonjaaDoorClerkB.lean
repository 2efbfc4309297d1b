/- A plan of package clerk: its handler; the reference's Right and Answer. -/
import Derived.Test.YtkidljiffeonjaaDoorRows
import Derived.WalkKit
import Derived.WalkSpells
import Derived.WalkLawsBesides
import Derived.BigQuiet
import Derived.Deep.QuietTactic
import Derived.StillTailTactics
import Derived.Handy
import Derived.Lib.Hide
import Derived.Test.YtkidljiffeonjaaDoorClerkA
set_option linter.unusedSimpArgs false
set_option linter.unusedVariables false
namespace Go.Proofs.YtkidljiffeonjaaDoor
open Go.RowKit

theorem rank_pl (x : Nat) (y : Int) (hN : ∀ W, Calls Tryd.prog 89 #[flV x] W (Gives (.bool false) W)) (hR : ∀ W, Calls Tryd.prog 85 #[flV x] W (Gives (.int .u64 y) W)) (h1 : ¬ 9223372036854775808 ≤ y) (w : World) : Calls Tryd.prog 94 #[flV x] w (Gives (.tuple #[.bool true, .int .u64 y]) w) := by
  go_enter Tryd.func94, Tryd.ntmps94
  go_wp2_with (first | (go_at_call 89; refine (hN _).mono ?_; rintro e w1 ⟨rfl, rfl⟩) | (go_at_call 85; refine (hR _).mono ?_; rintro e w1 ⟨rfl, rfl⟩))
  go_ret2
  exact ⟨rfl, rfl⟩
theorem rank_plain (x : Nat) (hx : x < 9223372036854775808) (hn : fnan x = false) (w : World) : Calls Tryd.prog 94 #[flV x] w (Gives (.tuple #[.bool true, .int .u64 (x : Int)]) w) := by
  have hN := fun W => rnan_of x (by unfold F64; omega) W
  rw [hn] at hN
  exact rank_pl x (x : Int) hN (raw_of x) (by omega) w
def ocmp (p q : Int) : Int := if p < q then -1 else if q < p then 1 else 0
theorem order_pl (x s : Nat) (p q : Int) (h1 : ∀ W, Calls Tryd.prog 94 #[flV x] W (Gives (.tuple #[.bool true, .int .u64 p]) W)) (h2 : ∀ W, Calls Tryd.prog 94 #[flV s] W (Gives (.tuple #[.bool true, .int .u64 q]) W)) (w : World) : Calls Tryd.prog 54 #[flV x, flV s] w (Gives (.int .i64 (ocmp p q)) w) := by
  unfold ocmp
  have H1 := Lib.hid h1; have H2 := Lib.hid h2; clear h1 h2
  by_cases ha : p < q
  · rw [if_pos ha]
    go_enter Tryd.func54, Tryd.ntmps54
    go_wp2_with fail
    refine (H1.out _).mono ?_; rintro e w1 ⟨rfl, rfl⟩
    go_wp2_with fail
    refine (H2.out _).mono ?_; rintro e w1 ⟨rfl, rfl⟩
    go_wp2
    go_ret
    exact ⟨rfl, rfl⟩
  rw [if_neg ha]
  by_cases hb : q < p
  · rw [if_pos hb]
    go_enter Tryd.func54, Tryd.ntmps54
    go_wp2_with fail
    refine (H1.out _).mono ?_; rintro e w1 ⟨rfl, rfl⟩
    go_wp2_with fail
    refine (H2.out _).mono ?_; rintro e w1 ⟨rfl, rfl⟩
    go_wp2
    go_ret
    exact ⟨rfl, rfl⟩
  rw [if_neg hb]
  go_enter Tryd.func54, Tryd.ntmps54
  go_wp2_with fail
  refine (H1.out _).mono ?_; rintro e w1 ⟨rfl, rfl⟩
  go_wp2_with fail
  refine (H2.out _).mono ?_; rintro e w1 ⟨rfl, rfl⟩
  go_wp2
  go_ret
  exact ⟨rfl, rfl⟩
theorem delay_plain (x : Nat) (hd : fdelay x = true) : fplain x < 9223372036854775808 ∧ fnan (fplain x) = false ∧ fnan x = false := by
  unfold fdelay at hd
  simp only [Bool.and_eq_true, Bool.not_eq_true', decide_eq_true_eq] at hd
  unfold fplain
  rw [hd.1]
  simp only [Bool.false_eq_true, if_false]
  split
  · exact ⟨by omega, by decide, trivial⟩
  · exact ⟨by omega, hd.1, trivial⟩
theorem delay_fle (x s : Nat) (hx : fdelay x = true) (hs : fdelay s = true) : fle x s = decide (¬ (fplain s < fplain x)) := by
  unfold fle
  unfold fdelay at hx hs
  simp only [Bool.and_eq_true, Bool.not_eq_true', decide_eq_true_eq] at hx hs
  have k1 : fkey x = (fplain x : Int) := by
    unfold fkey fplain; rw [hx.1]; simp only [Bool.false_eq_true, if_false]
    split
    · rw [if_neg (by omega)]
    · rw [if_pos (by omega)]; omega
  have k2 : fkey s = (fplain s : Int) := by
    unfold fkey fplain; rw [hs.1]; simp only [Bool.false_eq_true, if_false]
    split
    · rw [if_neg (by omega)]
    · rw [if_pos (by omega)]; omega
  rw [k1, k2, hx.1, hs.1]
  simp only [Bool.not_false, Bool.true_and]
  rw [Bool.eq_iff_iff]
  simp only [decide_eq_true_eq]
  omega

set_option maxHeartbeats 4000000 in
theorem ranswer_due (d : Int) (x : Nat) (u a pr : Int) (s : Nat) (x2 s2 : Nat) (o : Int) (hD : ∀ W, Calls Tryd.prog 50 #[flV s] W (Gives (.bool true) W)) (hP1 : ∀ W, Calls Tryd.prog 55 #[flV x] W (Gives (flV x2) W)) (hP2 : ∀ W, Calls Tryd.prog 55 #[flV s] W (Gives (flV s2) W)) (hO : ∀ W, Calls Tryd.prog 54 #[flV x2, flV s2] W (Gives (.int .i64 o) W)) (ho : ¬ 0 < o) (ha : a = 0 ∨ a = 2) (hd : 1 ≤ d ∧ d ≤ 6) (w : World) : Calls Tryd.prog 15 #[planV ⟨d, x, u⟩, .int .i64 a, .int .i64 pr, flV s] w (Makes (.int .i64 (aWorks d a pr)) w) := by
  have HD := Lib.hid hD; have HP1 := Lib.hid hP1; have HP2 := Lib.hid hP2; have HO := Lib.hid hO
  clear hD hP1 hP2 hO
  unfold aWorks
  dsimp only [planV]
  have hd' : d = 1 ∨ d = 2 ∨ d = 3 ∨ d = 4 ∨ d = 5 ∨ d = 6 := by omega
  rcases hd' with rfl | hd'
  · rw [if_pos rfl]
    rcases ha with rfl | rfl
    · by_cases hp : pr = 2
      · subst hp
        rw [if_pos ⟨rfl, rfl⟩]
        go_enter Tryd.func15, Tryd.ntmps15
        go_wp2_with fail
        refine (HD.out _).mono ?_; rintro e w1 ⟨rfl, rfl⟩
        go_wp2_with fail
        refine (HP1.out _).mono ?_; rintro e w1 ⟨rfl, rfl⟩
        go_wp2_with fail
        refine (HP2.out _).mono ?_; rintro e w1 ⟨rfl, rfl⟩
        go_wp2_with fail
        refine (HO.out _).mono ?_; rintro e w1 ⟨rfl, rfl⟩
        go_wp2
        go_ret
        exact ⟨rfl, by go_grown⟩
      · rw [if_neg (fun e => hp e.2)]
        go_enter Tryd.func15, Tryd.ntmps15
        go_wp2_with fail
        refine (HD.out _).mono ?_; rintro e w1 ⟨rfl, rfl⟩
        go_wp2_with fail
        refine (HP1.out _).mono ?_; rintro e w1 ⟨rfl, rfl⟩
        go_wp2_with fail
        refine (HP2.out _).mono ?_; rintro e w1 ⟨rfl, rfl⟩
        go_wp2_with fail
        refine (HO.out _).mono ?_; rintro e w1 ⟨rfl, rfl⟩
        go_wp2
        go_ret
        exact ⟨rfl, by go_grown⟩
    · rw [if_neg (fun e => absurd e.1 (by decide))]
      go_enter Tryd.func15, Tryd.ntmps15
      go_wp2_with fail
      refine (HD.out _).mono ?_; rintro e w1 ⟨rfl, rfl⟩
      go_wp2_with fail
      refine (HP1.out _).mono ?_; rintro e w1 ⟨rfl, rfl⟩
      go_wp2_with fail
      refine (HP2.out _).mono ?_; rintro e w1 ⟨rfl, rfl⟩
      go_wp2_with fail
      refine (HO.out _).mono ?_; rintro e w1 ⟨rfl, rfl⟩
      go_wp2
      go_ret
      exact ⟨rfl, by go_grown⟩
  rcases ha with rfl | rfl
  · rcases hd' with rfl | rfl | rfl | rfl | rfl
    · clear hd
      simp
      go_enter Tryd.func15, Tryd.ntmps15
      go_wp2_with fail
      refine (HD.out _).mono ?_; rintro e w1 ⟨rfl, rfl⟩
      go_wp2_with fail
      refine (HP1.out _).mono ?_; rintro e w1 ⟨rfl, rfl⟩
      go_wp2_with fail
      refine (HP2.out _).mono ?_; rintro e w1 ⟨rfl, rfl⟩
      go_wp2_with fail
      refine (HO.out _).mono ?_; rintro e w1 ⟨rfl, rfl⟩
      go_wp2
      go_ret
      exact ⟨rfl, by go_grown⟩
    · clear hd
      simp
      go_enter Tryd.func15, Tryd.ntmps15
      go_wp2_with fail
      refine (HD.out _).mono ?_; rintro e w1 ⟨rfl, rfl⟩
      go_wp2_with fail
      refine (HP1.out _).mono ?_; rintro e w1 ⟨rfl, rfl⟩
      go_wp2_with fail
      refine (HP2.out _).mono ?_; rintro e w1 ⟨rfl, rfl⟩
      go_wp2_with fail
      refine (HO.out _).mono ?_; rintro e w1 ⟨rfl, rfl⟩
      go_wp2
      go_ret
      exact ⟨rfl, by go_grown⟩
    · clear hd
      simp
      go_enter Tryd.func15, Tryd.ntmps15
      go_wp2_with fail
      refine (HD.out _).mono ?_; rintro e w1 ⟨rfl, rfl⟩
      go_wp2_with fail
      refine (HP1.out _).mono ?_; rintro e w1 ⟨rfl, rfl⟩
      go_wp2_with fail
      refine (HP2.out _).mono ?_; rintro e w1 ⟨rfl, rfl⟩
      go_wp2_with fail
      refine (HO.out _).mono ?_; rintro e w1 ⟨rfl, rfl⟩
      go_wp2
      go_ret
      exact ⟨rfl, by go_grown⟩
    · clear hd
      simp
      go_enter Tryd.func15, Tryd.ntmps15
      go_wp2_with fail
      refine (HD.out _).mono ?_; rintro e w1 ⟨rfl, rfl⟩
      go_wp2_with fail
      refine (HP1.out _).mono ?_; rintro e w1 ⟨rfl, rfl⟩
      go_wp2_with fail
      refine (HP2.out _).mono ?_; rintro e w1 ⟨rfl, rfl⟩
      go_wp2_with fail
      refine (HO.out _).mono ?_; rintro e w1 ⟨rfl, rfl⟩
      go_wp2
      go_ret
      exact ⟨rfl, by go_grown⟩
    · clear hd
      simp
      go_enter Tryd.func15, Tryd.ntmps15
      go_wp2_with fail
      refine (HD.out _).mono ?_; rintro e w1 ⟨rfl, rfl⟩
      go_wp2_with fail
      refine (HP1.out _).mono ?_; rintro e w1 ⟨rfl, rfl⟩
      go_wp2_with fail
      refine (HP2.out _).mono ?_; rintro e w1 ⟨rfl, rfl⟩
      go_wp2_with fail
      refine (HO.out _).mono ?_; rintro e w1 ⟨rfl, rfl⟩
      go_wp2
      go_ret
      exact ⟨rfl, by go_grown⟩
  · rcases hd' with rfl | rfl | rfl | rfl | rfl
    · clear hd
      simp
      go_enter Tryd.func15, Tryd.ntmps15
      go_wp2_with fail
      refine (HD.out _).mono ?_; rintro e w1 ⟨rfl, rfl⟩
      go_wp2_with fail
      refine (HP1.out _).mono ?_; rintro e w1 ⟨rfl, rfl⟩
      go_wp2_with fail
      refine (HP2.out _).mono ?_; rintro e w1 ⟨rfl, rfl⟩
      go_wp2_with fail
      refine (HO.out _).mono ?_; rintro e w1 ⟨rfl, rfl⟩
      go_wp2
      go_ret
      exact ⟨rfl, by go_grown⟩
    · clear hd
      simp
      go_enter Tryd.func15, Tryd.ntmps15
      go_wp2_with fail
      refine (HD.out _).mono ?_; rintro e w1 ⟨rfl, rfl⟩
      go_wp2_with fail
      refine (HP1.out _).mono ?_; rintro e w1 ⟨rfl, rfl⟩
      go_wp2_with fail
      refine (HP2.out _).mono ?_; rintro e w1 ⟨rfl, rfl⟩
      go_wp2_with fail
      refine (HO.out _).mono ?_; rintro e w1 ⟨rfl, rfl⟩
      go_wp2
      go_ret
      exact ⟨rfl, by go_grown⟩
    · clear hd
      simp
      go_enter Tryd.func15, Tryd.ntmps15
      go_wp2_with fail
      refine (HD.out _).mono ?_; rintro e w1 ⟨rfl, rfl⟩
      go_wp2_with fail
      refine (HP1.out _).mono ?_; rintro e w1 ⟨rfl, rfl⟩
      go_wp2_with fail
      refine (HP2.out _).mono ?_; rintro e w1 ⟨rfl, rfl⟩
      go_wp2_with fail
      refine (HO.out _).mono ?_; rintro e w1 ⟨rfl, rfl⟩
      go_wp2
      go_ret
      exact ⟨rfl, by go_grown⟩
    · clear hd
      simp
      go_enter Tryd.func15, Tryd.ntmps15
      go_wp2_with fail
      refine (HD.out _).mono ?_; rintro e w1 ⟨rfl, rfl⟩
      go_wp2_with fail
      refine (HP1.out _).mono ?_; rintro e w1 ⟨rfl, rfl⟩
      go_wp2_with fail
      refine (HP2.out _).mono ?_; rintro e w1 ⟨rfl, rfl⟩
      go_wp2_with fail
      refine (HO.out _).mono ?_; rintro e w1 ⟨rfl, rfl⟩
      go_wp2
      go_ret
      exact ⟨rfl, by go_grown⟩
    · clear hd
      simp
      go_enter Tryd.func15, Tryd.ntmps15
      go_wp2_with fail
      refine (HD.out _).mono ?_; rintro e w1 ⟨rfl, rfl⟩
      go_wp2_with fail
      refine (HP1.out _).mono ?_; rintro e w1 ⟨rfl, rfl⟩
      go_wp2_with fail
      refine (HP2.out _).mono ?_; rintro e w1 ⟨rfl, rfl⟩
      go_wp2_with fail
      refine (HO.out _).mono ?_; rintro e w1 ⟨rfl, rfl⟩
      go_wp2
      go_ret
      exact ⟨rfl, by go_grown⟩

set_option maxHeartbeats 1000000 in
theorem ranswer_late (d : Int) (x : Nat) (u a pr : Int) (s : Nat) (x2 s2 : Nat) (o : Int) (hD : ∀ W, Calls Tryd.prog 50 #[flV s] W (Gives (.bool true) W)) (hP1 : ∀ W, Calls Tryd.prog 55 #[flV x] W (Gives (flV x2) W)) (hP2 : ∀ W, Calls Tryd.prog 55 #[flV s] W (Gives (flV s2) W)) (hO : ∀ W, Calls Tryd.prog 54 #[flV x2, flV s2] W (Gives (.int .i64 o) W)) (ho : 0 < o) (ha : a = 0 ∨ a = 2) (w : World) : Calls Tryd.prog 15 #[planV ⟨d, x, u⟩, .int .i64 a, .int .i64 pr, flV s] w (Makes (.int .i64 0) w) := by
  have HD := Lib.hid hD; have HP1 := Lib.hid hP1; have HP2 := Lib.hid hP2; have HO := Lib.hid hO
  clear hD hP1 hP2 hO
  dsimp only [planV]
  rcases ha with rfl | rfl
  · go_enter Tryd.func15, Tryd.ntmps15
    go_wp2_with fail
    refine (HD.out _).mono ?_; rintro e w1 ⟨rfl, rfl⟩
    go_wp2_with fail
    refine (HP1.out _).mono ?_; rintro e w1 ⟨rfl, rfl⟩
    go_wp2_with fail
    refine (HP2.out _).mono ?_; rintro e w1 ⟨rfl, rfl⟩
    go_wp2_with fail
    refine (HO.out _).mono ?_; rintro e w1 ⟨rfl, rfl⟩
    go_wp2
    go_ret
    exact ⟨rfl, by go_grown⟩
  · go_enter Tryd.func15, Tryd.ntmps15
    go_wp2_with fail
    refine (HD.out _).mono ?_; rintro e w1 ⟨rfl, rfl⟩
    go_wp2_with fail
    refine (HP1.out _).mono ?_; rintro e w1 ⟨rfl, rfl⟩
    go_wp2_with fail
    refine (HP2.out _).mono ?_; rintro e w1 ⟨rfl, rfl⟩
    go_wp2_with fail
    refine (HO.out _).mono ?_; rintro e w1 ⟨rfl, rfl⟩
    go_wp2
    go_ret
    exact ⟨rfl, by go_grown⟩

theorem ranswer_none (d : Int) (x : Nat) (u a pr : Int) (s : Nat) (hD : ∀ W, Calls Tryd.prog 50 #[flV s] W (Gives (.bool false) W)) (ha : a = 0 ∨ a = 2) (w : World) : Calls Tryd.prog 15 #[planV ⟨d, x, u⟩, .int .i64 a, .int .i64 pr, flV s] w (Makes (.int .i64 0) w) := by
  have HD := Lib.hid hD
  clear hD
  dsimp only [planV]
  rcases ha with rfl | rfl
  · go_enter Tryd.func15, Tryd.ntmps15
    go_wp2_with fail
    refine (HD.out _).mono ?_; rintro e w1 ⟨rfl, rfl⟩
    go_wp2
    go_ret
    exact ⟨rfl, by go_grown⟩
  · go_enter Tryd.func15, Tryd.ntmps15
    go_wp2_with fail
    refine (HD.out _).mono ?_; rintro e w1 ⟨rfl, rfl⟩
    go_wp2
    go_ret
    exact ⟨rfl, by go_grown⟩

set_option maxHeartbeats 2000000 in
theorem ranswer_of (p : MPlan) (hr : pRight p) (a pr : Int) (s : Nat) (hs : F64 s) (hp : F64 p.after) (w : World) : Calls Tryd.prog 15 #[planV p, .int .i64 a, .int .i64 pr, flV s] w (Makes (.int .i64 (aAnswer p a pr s)) w) := by
  obtain ⟨d, x, u⟩ := p
  obtain ⟨r1, r2, r3, r4, r5⟩ := hr
  dsimp only at r1 r2 r3 r4 r5 hp
  unfold aAnswer
  dsimp only
  by_cases h0 : a = 0 ∨ a = 2
  · rw [if_pos h0]
    have hD := fun W => rdelay_of s hs W
    cases hds : fdelay s with
    | false =>
      rw [hds] at hD
      simp only [Bool.false_and, Bool.false_eq_true, if_false]
      exact ranswer_none d x u a pr s hD h0 w
    | true =>
      rw [hds] at hD
      obtain ⟨a1, a2, a3⟩ := delay_plain x r3
      obtain ⟨b1, b2, b3⟩ := delay_plain s hds
      have hO := fun W => order_pl (fplain x) (fplain s) _ _ (rank_plain (fplain x) a1 a2) (rank_plain (fplain s) b1 b2) W
      rw [r3, delay_fle x s r3 hds]
      simp only [Bool.true_and, decide_eq_true_eq]
      by_cases hlt : fplain s < fplain x
      · rw [if_neg (fun h => h hlt)]
        exact ranswer_late d x u a pr s _ _ _ hD (rplain_of x hp) (rplain_of s hs) hO (by unfold ocmp; rw [if_neg (by omega), if_pos (by omega)]; decide) h0 w
      · rw [if_pos hlt]
        exact ranswer_due d x u a pr s _ _ _ hD (rplain_of x hp) (rplain_of s hs) hO (by unfold ocmp; split <;> (try split) <;> omega) h0 ⟨r1, r2⟩ w
  rw [if_neg h0]
  have a0 : ¬ a = 0 := fun e => h0 (.inl e)
  have a2 : ¬ a = 2 := fun e => h0 (.inr e)
  clear h0 r1 r2 r3 hs hp
  dsimp only [planV]
  by_cases h9 : a = 9
  · subst h9
    rw [if_pos rfl]
    go_enter Tryd.func15, Tryd.ntmps15
    go_wp2
    go_ret
    exact ⟨rfl, by go_grown⟩
  rw [if_neg h9]
  by_cases h10 : a = 10
  · subst h10
    rw [if_pos rfl]
    go_enter Tryd.func15, Tryd.ntmps15
    go_wp2
    go_ret
    exact ⟨rfl, by go_grown⟩
  rw [if_neg h10]
  by_cases h11 : a = 11
  · subst h11
    rw [if_pos rfl]
    have hu : u = 0 ∨ u = 1 ∨ u = 2 := by omega
    clear r4 r5
    rcases hu with rfl | rfl | rfl
    · go_enter Tryd.func15, Tryd.ntmps15
      go_wp2
      go_ret
      exact ⟨rfl, by go_grown⟩
    · go_enter Tryd.func15, Tryd.ntmps15
      go_wp2
      go_ret
      exact ⟨rfl, by go_grown⟩
    · go_enter Tryd.func15, Tryd.ntmps15
      go_wp2
      go_ret
      exact ⟨rfl, by go_grown⟩
  rw [if_neg h11]
  go_enter Tryd.func15, Tryd.ntmps15
  go_wp2
  go_ret
  exact ⟨rfl, by go_grown⟩

def prB (p : MPlan) : Bool := decide (1 ≤ p.does) && decide (p.does ≤ 6) && fdelay p.after && decide (0 ≤ p.undone) && decide (p.undone ≤ 2)
theorem prB_iff (p : MPlan) : prB p = true ↔ pRight p := by unfold prB pRight; simp only [Bool.and_eq_true, decide_eq_true_eq, and_assoc]
set_option maxHeartbeats 1000000 in
theorem rright_of (p : MPlan) (hp : F64 p.after) (w : World) : Calls Tryd.prog 12 #[planV p] w (Makes (.bool (prB p)) w) := by
  obtain ⟨d, x, u⟩ := p
  unfold prB
  have HD := Lib.hid (fun W => rdelay_of x hp W)
  dsimp only [planV] at *
  generalize fdelay x = b at *
  clear hp
  go_enter Tryd.func12, Tryd.ntmps12
  go_wp2_with (first | (go_at_call 50; refine (HD.out _).mono ?_; rintro e w1 ⟨rfl, rfl⟩))
  all_goals (go_ret; refine ⟨ret_bool ?_, by go_grown⟩)
  all_goals first | (simp_all; done) | (simp_all; intros; omega)
set_option maxHeartbeats 1000000 in
theorem handler_yes (p : MPlan) (hp : F64 p.after) (hr : pRight p) (w : World) : Calls Tryd.prog 11 #[planV p] w (Makes (.tuple #[.func (.func 49) #[planV p] #[], .nilIface]) w) := by
  have hmf : ∀ (fn : Fn) (first cap : Array Value) (w : World), (Instr.makeFunc fn first cap).run Tryd.prog w = .ok (.func fn first cap) w := fun _ _ _ _ => rfl
  obtain ⟨d, x, u⟩ := p
  obtain ⟨r1, r2, r3, r4, r5⟩ := hr
  dsimp only at r1 r2 r3 r4 r5 hp
  have HD := Lib.hid (fun W => delay_yes x hp r3 W)
  generalize fplain x = x2 at *
  clear hp r3
  dsimp only [planV]
  go_enter Tryd.func11, Tryd.ntmps11
  go_wp2_with (first | (go_at_call 48; refine (HD.out _).mono ?_; rintro e w1 ⟨rfl, rfl⟩))
  go_ret2
  exact ⟨rfl, by go_grown⟩
end Go.Proofs.YtkidljiffeonjaaDoor
