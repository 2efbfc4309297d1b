/- The tables by one contract each; the reference's answers; the chapter's example. -/
import Derived.Test.YtkidljiffeonjaaDoorRows
import Derived.WalkKit
import Derived.WalkSpells
import Derived.WalkLawsBesides
import Derived.BigQuiet
import Derived.Deep.QuietTactic
import Derived.StillTailTactics
import Derived.Handy
import Derived.Lib.Hide
import Derived.Test.YtkidljiffeonjaaDoorTabG
import Derived.Test.YtkidljiffeonjaaDoorRefB
import Derived.Test.YtkidljiffeonjaaDoorRefC
set_option linter.unusedSimpArgs false
set_option linter.unusedVariables false
namespace Go.Proofs.YtkidljiffeonjaaDoor
open Go.RowKit

/-- three of the errors, as the tables hand them on -/
structure Err3 (ea : Int → Addr) (w : World) : Prop where
  e1 : ErrIs w 1 (ea 1)
  e4 : ErrIs w 0 (ea 4)
  e14 : ErrIs w 13 (ea 14)
theorem Err3.below {ea : Int → Addr} {w w' : World} (h : Err3 ea w) (hb : Below w.heap.size w w') : Err3 ea w' := ⟨h.e1.below hb, h.e4.below hb, h.e14.below hb⟩

theorem look_any (p d k s : Int) (ea : Int → Addr) (w : World) (h : Err3 ea w) :
    Calls Tryd.prog 131 #[.int .i64 p, .int .i64 d, .int .i64 k, .int .i64 s] w (Makes (.tuple #[cell3 (rLook p d k s).1, errOf ea (rLook p d k s).2]) w) := by
  rw [← tLook_eq]
  cases ht : tabOf p d with
  | some t => exact look_tab p d k s t ea w ht h.e4 h.e1
  | none =>
    have := look_none p d k s (ea 14) w h.e14 ht
    have e : tLook p d k s = ((0, 0, 0), 14) := by simp only [tLook, ht]
    rw [e]; exact this
theorem step_any (p d k s : Int) (ea : Int → Addr) (w : World) (h : Err3 ea w) (h9 : ErrIs w 8 (ea 9)) :
    Calls Tryd.prog 133 #[.int .i64 p, .int .i64 d, .int .i64 k, .int .i64 s] w (Makes (.tuple #[.int .i64 (rStep p d k s).1, errOf ea (rStep p d k s).2]) w) := by
  rw [← tStep_eq]
  cases ht : tabOf p d with
  | some t => exact step_tab p d k s t ea w ht h.e4 h.e1 h9
  | none =>
    have := step_none p d k s (ea 14) w h.e14 ht
    have e : tStep p d k s = (0, 14) := by simp only [tStep, ht]
    rw [e]; exact this
theorem waits_any (p d s : Int) (ea : Int → Addr) (w : World) (h : Err3 ea w) :
    Calls Tryd.prog 56 #[.int .i64 p, .int .i64 d, .int .i64 s] w (Makes (.tuple #[.int .i64 (rWait p d s).1, errOf ea (rWait p d s).2]) w) := by
  rw [← tWaits_eq]
  cases ht : tabOf p d with
  | some t => exact waits_tab p d s t ea w ht h.e1
  | none =>
    have := waits_none p d s (ea 14) w h.e14 ht
    have e : tWaits p d s = (0, 14) := by simp only [tWaits, ht]
    rw [e]; exact this

set_option maxHeartbeats 1000000 in
theorem rlook_any (p d k s : Int) (w : World) :
    Calls Tryd.prog 108 #[.int .i64 p, .int .i64 d, .int .i64 k, .int .i64 s] w (Makes (.tuple #[cell3 (rLook p d k s).1, .int .i64 (rLook p d k s).2]) w) := by
  by_cases hs : rSide p d = true
  · have hlk : rLook p d k s = (if rTakes p d k = false then ((0, 0, 0), 4) else if rHas p d s = false then ((0, 0, 0), 1) else if d = 1 then (rCoord p k s, 0) else (rPart k s, 0)) := by
      unfold rLook; rw [hs]; rfl
    rw [hlk]; clear hlk
    have hr : 1 ≤ p ∧ p ≤ 2 ∧ 1 ≤ d ∧ d ≤ 2 := by simpa [rSide] using hs
    clear hs
    obtain ⟨hp1, hp2, hd1, hd2⟩ := hr
    obtain ⟨tk, htk⟩ : ∃ x, x = rTakes p d k := ⟨_, rfl⟩
    obtain ⟨hs, hhs⟩ : ∃ x, x = rHas p d s := ⟨_, rfl⟩
    rw [← htk, ← hhs]
    have TK := Lib.hid htk; clear htk
    have HS := Lib.hid hhs; clear hhs
    cases tk with
    | false =>
      simp only [if_true]
      go_enter Tryd.func108, Tryd.ntmps108
      go_wp2_with (first
        | (go_at_call 137; refine (rtakes_any _ _ _ _).mono ?_; rw [← TK.out]; rintro e w' ⟨rfl, rfl⟩))
      go_returns
      exact ⟨rfl, by go_grown⟩
    | true =>
      rw [if_neg (by simp)]
      cases hs with
      | false =>
        simp only [if_true]
        go_enter Tryd.func108, Tryd.ntmps108
        go_wp2_with (first
          | (go_at_call 137; refine (rtakes_any _ _ _ _).mono ?_; rw [← TK.out]; rintro e w' ⟨rfl, rfl⟩)
          | (go_at_call 136; refine (rhas_any _ _ _ _).mono ?_; rw [← HS.out]; rintro e w' ⟨rfl, rfl⟩))
        go_returns
        exact ⟨rfl, by go_grown⟩
      | true =>
        rw [if_neg (by simp)]
        by_cases hd : d = 1
        · rw [if_pos hd]
          obtain ⟨x1, x2, x3, hx⟩ : ∃ x1 x2 x3, rCoord p k s = (x1, x2, x3) := ⟨_, _, _, rfl⟩
          have hcall := rcoord_any p k s
          rw [hx] at hcall ⊢
          have HX := Lib.hid hcall; clear hcall hx
          have hd' : (d == 1) = true := by simpa using hd
          clear hd
          simp only []
          go_enter Tryd.func108, Tryd.ntmps108
          go_wp2_with (first
            | (go_at_call 137; refine (rtakes_any _ _ _ _).mono ?_; rw [← TK.out]; rintro e w' ⟨rfl, rfl⟩)
            | (go_at_call 136; refine (rhas_any _ _ _ _).mono ?_; rw [← HS.out]; rintro e w' ⟨rfl, rfl⟩)
            | (go_at_call 138; refine (HX.out _).mono ?_; rintro e w1 ⟨rfl, hb1⟩; rw [cell3]; obtain ⟨q1, f1⟩ := ((Blk.fresh w _ _ _ rfl).below hb1).out; have hz1 := hb1.size; (try simp only [World.size_alloc] at hz1); have B1 : Below w.heap.size w w1 := below_then (by go_grown) hb1))
          exact bodyPost_ret (v := .tuple #[.agg #[.int .i64 x1, .int .i64 x2, .int .i64 x3], .int .i64 0]) (by simp [results, Tryd.results108, go_sem, q1, f1]) rfl ⟨rfl, by go_grown⟩
        · rw [if_neg hd]
          obtain ⟨x1, x2, x3, hx⟩ : ∃ x1 x2 x3, rPart k s = (x1, x2, x3) := ⟨_, _, _, rfl⟩
          have hcall := rpart_any k s
          rw [hx] at hcall ⊢
          have HX := Lib.hid hcall; clear hcall hx
          have hd' : (d == 1) = false := by simpa using hd
          clear hd
          simp only []
          go_enter Tryd.func108, Tryd.ntmps108
          go_wp2_with (first
            | (go_at_call 137; refine (rtakes_any _ _ _ _).mono ?_; rw [← TK.out]; rintro e w' ⟨rfl, rfl⟩)
            | (go_at_call 136; refine (rhas_any _ _ _ _).mono ?_; rw [← HS.out]; rintro e w' ⟨rfl, rfl⟩)
            | (go_at_call 139; refine (HX.out _).mono ?_; rintro e w1 ⟨rfl, hb1⟩; rw [cell3]; obtain ⟨q1, f1⟩ := ((Blk.fresh w _ _ _ rfl).below hb1).out; have hz1 := hb1.size; (try simp only [World.size_alloc] at hz1); have B1 : Below w.heap.size w w1 := below_then (by go_grown) hb1))
          exact bodyPost_ret (v := .tuple #[.agg #[.int .i64 x1, .int .i64 x2, .int .i64 x3], .int .i64 0]) (by simp [results, Tryd.results108, go_sem, q1, f1]) rfl ⟨rfl, by go_grown⟩
  · have hf : rSide p d = false := by simpa using hs
    have hlk : rLook p d k s = ((0, 0, 0), 14) := by unfold rLook; rw [hf]; rfl
    rw [hlk]; clear hlk hs
    have hr : p < 1 ∨ 2 < p ∨ d < 1 ∨ 2 < d := by simp [rSide] at hf; omega
    clear hf
    simp only []
    rcases hr with h | h | h | h
    all_goals
      go_enter Tryd.func108, Tryd.ntmps108
      go_wp2_with fail
    all_goals go_returns
    all_goals exact ⟨rfl, by go_grown⟩

set_option maxHeartbeats 1000000 in
theorem rstep_any (p d k s : Int) (w : World) :
    Calls Tryd.prog 110 #[.int .i64 p, .int .i64 d, .int .i64 k, .int .i64 s] w (Gives (.tuple #[.int .i64 (rStep p d k s).1, .int .i64 (rStep p d k s).2]) w) := by
  by_cases hs : rSide p d = true
  · have hlk : rStep p d k s = (if rSends p d k = false then (0, 4) else if rHas p d s = false then (0, 1) else if rGoes p k s = 0 then (0, 9) else (rGoes p k s, 0)) := by
      unfold rStep; rw [hs]; rfl
    rw [hlk]; clear hlk
    have hr : 1 ≤ p ∧ p ≤ 2 ∧ 1 ≤ d ∧ d ≤ 2 := by simpa [rSide] using hs
    clear hs
    obtain ⟨hp1, hp2, hd1, hd2⟩ := hr
    obtain ⟨tk, htk⟩ : ∃ x, x = rSends p d k := ⟨_, rfl⟩
    obtain ⟨hs, hhs⟩ : ∃ x, x = rHas p d s := ⟨_, rfl⟩
    obtain ⟨g, hg⟩ : ∃ x, x = rGoes p k s := ⟨_, rfl⟩
    rw [← htk, ← hhs, ← hg]
    have TK := Lib.hid htk; clear htk
    have HS := Lib.hid hhs; clear hhs
    have HG := Lib.hid hg; clear hg
    cases tk with
    | false =>
      simp only [if_true]
      go_enter Tryd.func110, Tryd.ntmps110
      go_wp2_with (first
        | (go_at_call 141; refine (rsends_any _ _ _ _).mono ?_; rw [← TK.out]; rintro e w' ⟨rfl, rfl⟩))
      go_ret2
      exact ⟨rfl, rfl⟩
    | true =>
      rw [if_neg (by simp)]
      cases hs with
      | false =>
        simp only [if_true]
        go_enter Tryd.func110, Tryd.ntmps110
        go_wp2_with (first
          | (go_at_call 141; refine (rsends_any _ _ _ _).mono ?_; rw [← TK.out]; rintro e w' ⟨rfl, rfl⟩)
          | (go_at_call 136; refine (rhas_any _ _ _ _).mono ?_; rw [← HS.out]; rintro e w' ⟨rfl, rfl⟩))
        go_ret2
        exact ⟨rfl, rfl⟩
      | true =>
        rw [if_neg (by simp)]
        by_cases hd : g = 0
        · rw [if_pos hd]
          have hd' : (g == 0) = true := by simpa using hd
          clear hd
          simp only []
          go_enter Tryd.func110, Tryd.ntmps110
          go_wp2_with (first
            | (go_at_call 141; refine (rsends_any _ _ _ _).mono ?_; rw [← TK.out]; rintro e w' ⟨rfl, rfl⟩)
            | (go_at_call 136; refine (rhas_any _ _ _ _).mono ?_; rw [← HS.out]; rintro e w' ⟨rfl, rfl⟩)
            | (go_at_call 142; refine (rgoes_any _ _ _ _ _).mono ?_; rw [← HG.out]; rintro e w' ⟨rfl, rfl⟩))
          go_ret2
          exact ⟨rfl, rfl⟩
        · rw [if_neg hd]
          have hd' : (g == 0) = false := by simpa using hd
          clear hd
          simp only []
          go_enter Tryd.func110, Tryd.ntmps110
          go_wp2_with (first
            | (go_at_call 141; refine (rsends_any _ _ _ _).mono ?_; rw [← TK.out]; rintro e w' ⟨rfl, rfl⟩)
            | (go_at_call 136; refine (rhas_any _ _ _ _).mono ?_; rw [← HS.out]; rintro e w' ⟨rfl, rfl⟩)
            | (go_at_call 142; refine (rgoes_any _ _ _ _ _).mono ?_; rw [← HG.out]; rintro e w' ⟨rfl, rfl⟩))
          go_ret2
          exact ⟨rfl, rfl⟩
  · have hf : rSide p d = false := by simpa using hs
    have hlk : rStep p d k s = (0, 14) := by unfold rStep; rw [hf]; rfl
    rw [hlk]; clear hlk hs
    have hr : p < 1 ∨ 2 < p ∨ d < 1 ∨ 2 < d := by simp [rSide] at hf; omega
    clear hf
    simp only []
    rcases hr with h | h | h | h
    all_goals
      go_enter Tryd.func110, Tryd.ntmps110
      go_wp2_with fail
    all_goals go_ret2
    all_goals exact ⟨rfl, rfl⟩

end Go.Proofs.YtkidljiffeonjaaDoor
