/- The walks of package moves: a seat's work, waits, changes. -/
import Derived.Test.YtkidljiffeonjaaDoorRows
import Derived.WalkKit
import Derived.WalkSpells
import Derived.WalkLawsBesides
import Derived.BigQuiet
import Derived.Deep.QuietTactic
import Derived.StillTailTactics
import Derived.Handy
import Derived.Lib.Hide
import Derived.Test.YtkidljiffeonjaaDoorMovA
set_option linter.unusedSimpArgs false
set_option linter.unusedVariables false
namespace Go.Proofs.YtkidljiffeonjaaDoor
open Go.RowKit

def wk (s : Int) : Int := if s = 4 then 2 else if s = 6 then 9 else if s = 2 then 10 else if s = 7 then 11 else 0
set_option maxHeartbeats 1000000 in
theorem work_of (x : MSeat) (ea : Int → Addr) (w : World) (h : Err3 ea w) : Calls Tryd.prog 161 #[seatV x] w (Makes (.int .i64 (mWork x)) w) := by
  have H := Lib.hid h; clear h
  obtain ⟨r, hr⟩ : ∃ r, r = mRight x := ⟨_, rfl⟩
  have hR : ∀ W, Err3 ea W → Calls Tryd.prog 17 #[seatV x] W (Makes (.bool r) W) := fun W hw => by
    have := right_of x ea W hw
    rw [← hr] at this; exact this
  have hk : mWork x = if r = false ∨ x.d ≠ 2 then 0 else wk x.s := by unfold mWork wk; rw [← hr]
  rw [hk]
  clear hk hr
  obtain ⟨p, d, s, h4⟩ := x
  dsimp only [seatV] at *
  have HR := Lib.hid hR; clear hR
  cases r with
  | false =>
    rw [if_pos (.inl rfl)]
    go_enter Tryd.func161, Tryd.ntmps161
    go_wp2_with (go_at_call 17; refine (HR.out _ (H.out.below (by go_grown))).mono ?_; rintro e w1 ⟨rfl, hb1⟩; have B1 : Below w.heap.size w w1 := below_then (by go_grown) hb1)
    go_ret
    exact ⟨rfl, B1⟩
  | true =>
    by_cases hd : d = 2
    · subst hd
      rw [if_neg (by simp)]
      obtain ⟨v, hv⟩ : ∃ v, v = wk s := ⟨_, rfl⟩
      rw [← hv]
      have HV := Lib.hid hv; clear hv
      go_enter Tryd.func161, Tryd.ntmps161
      go_wp2_with (go_at_call 17; refine (HR.out _ (H.out.below (by go_grown))).mono ?_; rintro e w1 ⟨rfl, hb1⟩; have HK1 := Lib.hid ((Blk.fresh w _ _ _ rfl).below hb1); obtain ⟨q1, f1⟩ := HK1.out.out; have B1 : Below w.heap.size w w1 := below_then (by go_grown) hb1)
      all_goals (go_ret; refine ⟨ret_int ?_, B1⟩; rw [HV.out]; simp only [beq_iff_eq, beq_eq_false_iff_ne, ne_eq] at *; simp [wk, *])
    · rw [if_pos (.inr hd)]
      have hd' : (d != 2) = true := by simpa using hd
      go_enter Tryd.func161, Tryd.ntmps161
      go_wp2_with (go_at_call 17; refine (HR.out _ (H.out.below (by go_grown))).mono ?_; rintro e w1 ⟨rfl, hb1⟩; have HK1 := Lib.hid ((Blk.fresh w _ _ _ rfl).below hb1); obtain ⟨q1, f1⟩ := HK1.out.out; have B1 : Below w.heap.size w w1 := below_then (by go_grown) hb1)
      go_ret
      exact ⟨rfl, B1⟩

set_option maxHeartbeats 400000 in
theorem meant_of (k : Int) (w : World) : Calls Tryd.prog 162 #[.int .i64 k] w (Gives (.int .i64 (mMeant k)) w) := by
  go_enter Tryd.func162, Tryd.ntmps162
  go_wp2
  all_goals (go_ret; refine ⟨ret_int ?_, rfl⟩; simp only [beq_iff_eq, beq_eq_false_iff_ne, ne_eq] at *; simp [mMeant, *])

set_option maxHeartbeats 400000 in
theorem due_of (s : Int) (w : World) : Calls Tryd.prog 158 #[.int .i64 s] w (Gives (.int .i64 (mDue s)) w) := by
  go_enter Tryd.func158, Tryd.ntmps158
  go_wp2
  all_goals (go_ret; refine ⟨ret_int ?_, rfl⟩; simp only [beq_iff_eq, beq_eq_false_iff_ne, ne_eq, Bool.or_eq_true, Bool.or_eq_false_iff] at *; simp [mDue, *])

set_option maxHeartbeats 1000000 in
theorem went_of (x : MSeat) (s k : Int) (w : World) : Calls Tryd.prog 135 #[seatV x, .int .i64 s, .int .i64 k] w (Makes (seatV (mWent x s k)) w) := by
  obtain ⟨p, d, s0, h4⟩ := x
  dsimp only [seatV, mWent]
  by_cases hs : s = 14
  · subst hs
    rw [if_pos rfl]
    have hm := fun W => meant_of k W
    obtain ⟨m, hm'⟩ : ∃ m, m = mMeant k := ⟨_, rfl⟩
    rw [← hm'] at hm ⊢
    have HM := Lib.hid hm; clear hm hm'
    go_enter Tryd.func135, Tryd.ntmps135
    go_wp2_with (go_at_call 162; refine (HM.out _).mono ?_; rintro e w1 ⟨rfl, rfl⟩)
    exact bodyPost_ret (v := .agg #[.int .i64 p, .int .i64 d, .int .i64 14, .int .i64 m]) (by simp [results, Tryd.results135, go_sem]) rfl ⟨rfl, by go_grown⟩
  · rw [if_neg hs]
    have hs' : (s == 14) = false := by simpa using hs
    go_enter Tryd.func135, Tryd.ntmps135
    go_wp2
    exact bodyPost_ret (v := .agg #[.int .i64 p, .int .i64 d, .int .i64 s, .int .i64 h4]) (by simp [results, Tryd.results135, go_sem]) rfl ⟨rfl, by go_grown⟩

set_option maxHeartbeats 1000000 in
set_option maxRecDepth 100000 in
theorem changed_of (x : MSeat) (send : Int) (ea : Int → Addr) (w : World) (h : Err3 ea w) : Calls Tryd.prog 134 #[seatV x, .int .i64 send] w (Makes (effV (mChanged x send)) w) := by
  have H := Lib.hid h; clear h
  have hW := fun W hw => work_of x ea W hw
  obtain ⟨k, hk⟩ : ∃ k, k = mWork x := ⟨_, rfl⟩
  dsimp only [mChanged, effV]
  rw [← hk]
  simp only [← hk] at hW
  clear hk
  obtain ⟨p, d, s, h4⟩ := x
  dsimp only [seatV] at *
  have HW := Lib.hid hW; clear hW
  go_enter Tryd.func134, Tryd.ntmps134
  go_wp2
  go_region_held3 (fun w' => w'.cell? ⟨w.heap.size, 0, none⟩ = some (.int .i64 p) ∧ w'.cell? ⟨w.heap.size, 1, none⟩ = some (.int .i64 d) ∧ w'.cell? ⟨w.heap.size, 2, none⟩ = some (.int .i64 s) ∧ w'.cell? ⟨w.heap.size, 3, none⟩ = some (.int .i64 h4)) (first | go_keep | exact ⟨q1 0, q1 1, q1 2, q1 3⟩) (first
    | (go_at_call 161; refine (HW.out _ (H.out.below (by go_grown))).mono ?_; rintro e w1 ⟨rfl, hb1⟩; obtain ⟨q1, f1⟩ := ((((Blk.fresh w _ _ _ rfl).alloc _).drew).below hb1).out; obtain ⟨q2, f2⟩ := (((Blk.fresh _ _ _ (w.heap.size + 1) (by simp only [World.size_alloc])).drew).below hb1).out; have hz1 := hb1.size; simp only [World.size_alloc, World.size_drew] at hz1; have B1 : Below w.heap.size w w1 := below_then (by go_grown) hb1))
  go_wp2
  exact bodyPost_ret (v := .agg #[.int .i64 p, .int .i64 d, .int .i64 s, .int .i64 h4, .int .i64 send, .int .i64 0, .int .i64 k, .bool true]) (by simp [results, Tryd.results134, go_sem, q2, f2]) rfl ⟨rfl, by go_grown⟩
end Go.Proofs.YtkidljiffeonjaaDoor
