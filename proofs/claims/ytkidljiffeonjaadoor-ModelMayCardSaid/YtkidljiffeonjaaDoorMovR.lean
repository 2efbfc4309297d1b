/- The reference of moves (liaisonref11): one seat, walked. -/
import Derived.Test.YtkidljiffeonjaaDoorRows
import Derived.WalkKit
import Derived.WalkSpells
import Derived.WalkLawsBesides
import Derived.BigQuiet
import Derived.Deep.QuietTactic
import Derived.StillTailTactics
import Derived.Handy
import Derived.Lib.Hide
import Derived.Test.YtkidljiffeonjaaDoorMovD
import Derived.Test.YtkidljiffeonjaaDoorNum
import Derived.Deep.RegionHeld3
set_option linter.unusedSimpArgs false
set_option linter.unusedVariables false
namespace Go.Proofs.YtkidljiffeonjaaDoor
open Go.RowKit

def gWork (x : MSeat) : Int := if x.d = 2 then wk x.s else 0
def gMoved (x : MSeat) (s how send : Int) : Eff := ⟨⟨x.p, x.d, s, if s = 14 then how else x.h⟩, send, 0, gWork ⟨x.p, x.d, s, if s = 14 then how else x.h⟩, true⟩
def gHow (k z : Int) : Int := if k = 12 then 4 else if k = 13 then 1 else if k = 14 then 5 else z
def gGo (x : MSeat) (k n : Int) : Eff :=
  if x.d = 1 then (if n = 13 then gMoved x 14 1 13 else if n = 12 then gMoved x 14 5 14 else if 8 ≤ n ∧ n ≤ 11 then gMoved x 14 4 12 else gMoved x n k 0)
  else gMoved x n (gHow k 0) 0
def gTell (x : MSeat) (k : Int) : Eff × Int :=
  if mRight x = false then (eff0, 4) else if (rLook x.p x.d k x.s).2 ≠ 0 then (⟨x, 0, 2, 0, false⟩, 0)
  else if (rLook x.p x.d k x.s).1.1 = 2 then (⟨x, 0, 0, 0, false⟩, 0) else if (rLook x.p x.d k x.s).1.1 = 3 then (⟨x, (rLook x.p x.d k x.s).1.2.2, 0, 0, false⟩, 0)
  else if (rLook x.p x.d k x.s).1.1 = 4 then (⟨x, 0, 1, 0, false⟩, 0) else (gGo x k (rLook x.p x.d k x.s).1.2.1, 0)
def gDo (x : MSeat) (k : Int) : Eff × Int :=
  if mRight x = false then (eff0, 4) else if (rStep x.p x.d k x.s).2 ≠ 0 then (eff0, (rStep x.p x.d k x.s).2)
  else (gMoved x (rStep x.p x.d k x.s).1 (gHow k k) k, 0)

theorem right_eq (x : MSeat) : mRight x = (decide (1 ≤ x.p ∧ x.p ≤ 2 ∧ 1 ≤ x.d ∧ x.d ≤ 2) && rHas x.p x.d x.s && (if x.s = 14 then decide (x.h = 1 ∨ 4 ≤ x.h ∧ x.h ≤ 8) else decide (x.h = 0))) := by
  unfold mRight rWait rSide
  have hc : [1, 4, 5, 6, 7, 8].contains x.h = decide (x.h = 1 ∨ 4 ≤ x.h ∧ x.h ≤ 8) := by
    rw [Bool.eq_iff_iff]; simp; omega
  rw [hc]
  by_cases h1 : 1 ≤ x.p ∧ x.p ≤ 2 ∧ 1 ≤ x.d ∧ x.d ≤ 2
  · simp only [h1, decide_true]
    cases rHas x.p x.d x.s <;> simp
  · simp only [h1, decide_false]
    simp

set_option maxHeartbeats 1000000 in
theorem gright_of (x : MSeat) (w : World) : Calls Tryd.prog 107 #[seatV x] w (Makes (.bool (mRight x)) w) := by
  rw [right_eq]
  obtain ⟨p, d, s, h⟩ := x
  dsimp only [seatV]
  obtain ⟨hs, hhs⟩ : ∃ hs, hs = rHas p d s := ⟨_, rfl⟩
  have hH : ∀ W, Calls Tryd.prog 136 #[.int .i64 p, .int .i64 d, .int .i64 s] W (Gives (.bool hs) W) := fun W => by rw [hhs]; exact rhas_any p d s W
  rw [← hhs]
  have HH := Lib.hid hH; clear hH hhs
  by_cases h1 : p < 1
  · rw [show decide (1 ≤ p ∧ p ≤ 2 ∧ 1 ≤ d ∧ d ≤ 2) = false by simp; omega, Bool.false_and, Bool.false_and]
    go_enter Tryd.func107, Tryd.ntmps107
    go_wp2_with fail
    go_ret
    exact ⟨ret_bool (by simp), by go_grown⟩
  by_cases h2 : 2 < p
  · rw [show decide (1 ≤ p ∧ p ≤ 2 ∧ 1 ≤ d ∧ d ≤ 2) = false by simp; omega, Bool.false_and, Bool.false_and]
    go_enter Tryd.func107, Tryd.ntmps107
    go_wp2_with fail
    go_ret
    exact ⟨ret_bool (by simp), by go_grown⟩
  by_cases h3 : d < 1
  · rw [show decide (1 ≤ p ∧ p ≤ 2 ∧ 1 ≤ d ∧ d ≤ 2) = false by simp; omega, Bool.false_and, Bool.false_and]
    go_enter Tryd.func107, Tryd.ntmps107
    go_wp2_with fail
    go_ret
    exact ⟨ret_bool (by simp), by go_grown⟩
  by_cases h4 : 2 < d
  · rw [show decide (1 ≤ p ∧ p ≤ 2 ∧ 1 ≤ d ∧ d ≤ 2) = false by simp; omega, Bool.false_and, Bool.false_and]
    go_enter Tryd.func107, Tryd.ntmps107
    go_wp2_with fail
    go_ret
    exact ⟨ret_bool (by simp), by go_grown⟩
  rw [show decide (1 ≤ p ∧ p ≤ 2 ∧ 1 ≤ d ∧ d ≤ 2) = true by simp; omega]
  cases hs with
  | false =>
    rw [Bool.true_and, Bool.false_and]
    go_enter Tryd.func107, Tryd.ntmps107
    go_wp2_with (go_at_call 136; refine (HH.out _).mono ?_; rintro e w1 ⟨rfl, rfl⟩)
    go_ret
    exact ⟨ret_bool (by simp), by go_grown⟩
  | true =>
    rw [Bool.true_and, Bool.true_and]
    obtain ⟨v, hv⟩ : ∃ v, v = (if s = 14 then decide (h = 1 ∨ 4 ≤ h ∧ h ≤ 8) else decide (h = 0)) := ⟨_, rfl⟩
    rw [← hv]
    have HV := Lib.hid hv; clear hv
    go_enter Tryd.func107, Tryd.ntmps107
    go_wp2_with (go_at_call 136; refine (HH.out _).mono ?_; rintro e w1 ⟨rfl, rfl⟩)
    all_goals (go_ret; refine ⟨ret_bool ?_, by go_grown⟩; rw [HV.out]; (try simp only [beq_iff_eq, beq_eq_false_iff_ne, ne_eq] at *); (try simp [*]); first | done | (rw [Bool.eq_iff_iff]; simp; done) | (rw [Bool.eq_iff_iff]; simp; omega) | omega)

set_option maxHeartbeats 1000000 in
theorem gwork_of (x : MSeat) (w : World) : Calls Tryd.prog 140 #[seatV x] w fun e w' => e = .returned (.int .i64 (gWork x)) ∧ w' = w.alloc (.cells #[.int .i64 x.p, .int .i64 x.d, .int .i64 x.s, .int .i64 x.h] 55) := by
  obtain ⟨p, d, s, h⟩ := x
  dsimp only [seatV]
  obtain ⟨v, hv⟩ : ∃ v, v = gWork ⟨p, d, s, h⟩ := ⟨_, rfl⟩
  rw [← hv]
  have HV := Lib.hid hv; clear hv
  go_enter Tryd.func140, Tryd.ntmps140
  go_wp2
  all_goals (go_ret; refine ⟨ret_int ?_, (by first | rfl | (simp only [beq_iff_eq] at *; subst_vars; rfl) | simp [*])⟩; rw [HV.out]; simp only [beq_iff_eq, beq_eq_false_iff_ne, ne_eq] at *; simp [gWork, wk, *])

set_option maxRecDepth 100000 in
set_option maxHeartbeats 2000000 in
theorem gmoved_of (x : MSeat) (s how send : Int) (w : World) : Calls Tryd.prog 109 #[seatV x, .int .i64 s, .int .i64 how, .int .i64 send] w (Makes (effV (gMoved x s how send)) w) := by
  obtain ⟨p, d, s0, h0⟩ := x
  unfold gMoved
  dsimp only [seatV, effV]
  obtain ⟨h, hh⟩ : ∃ h, h = (if s = 14 then how else h0) := ⟨_, rfl⟩
  rw [← hh]
  have hW := fun W => gwork_of ⟨p, d, s, h⟩ W
  obtain ⟨g, hg⟩ : ∃ g, g = gWork ⟨p, d, s, h⟩ := ⟨_, rfl⟩
  rw [← hg] at hW ⊢
  dsimp only [seatV] at hW
  clear hg
  by_cases hs : s = 14
  · subst hs
    rw [if_pos rfl] at hh
    subst hh
    have HW := Lib.hid hW; clear hW
    go_enter Tryd.func109, Tryd.ntmps109
    go_wp2
    go_region_held3 (fun w' => w'.cell? ⟨w.heap.size, 0, none⟩ = some (.int .i64 p) ∧ w'.cell? ⟨w.heap.size, 1, none⟩ = some (.int .i64 d) ∧ w'.cell? ⟨w.heap.size, 2, none⟩ = some (.int .i64 14) ∧ w'.cell? ⟨w.heap.size, 3, none⟩ = some (.int .i64 h)) (first | go_keep | ((repeat' apply And.intro) <;> go_keep)) (first
      | (go_at_call 140; refine (HW.out _).mono ?_; rintro e w1 ⟨rfl, rfl⟩))
    go_wp2
    exact bodyPost_ret (v := .agg #[.int .i64 p, .int .i64 d, .int .i64 14, .int .i64 h, .int .i64 send, .int .i64 0, .int .i64 g, .bool true]) (by simp [results, Tryd.results109, go_sem]) rfl ⟨rfl, by go_grown⟩
  · rw [if_neg hs] at hh
    subst hh
    have hs' : (s == 14) = false := by simpa using hs
    have HW := Lib.hid hW; clear hW
    go_enter Tryd.func109, Tryd.ntmps109
    go_wp2
    go_region_held3 (fun w' => w'.cell? ⟨w.heap.size, 0, none⟩ = some (.int .i64 p) ∧ w'.cell? ⟨w.heap.size, 1, none⟩ = some (.int .i64 d) ∧ w'.cell? ⟨w.heap.size, 2, none⟩ = some (.int .i64 s) ∧ w'.cell? ⟨w.heap.size, 3, none⟩ = some (.int .i64 h)) (first | go_keep | ((repeat' apply And.intro) <;> go_keep)) (first
      | (go_at_call 140; refine (HW.out _).mono ?_; rintro e w1 ⟨rfl, rfl⟩))
    go_wp2
    exact bodyPost_ret (v := .agg #[.int .i64 p, .int .i64 d, .int .i64 s, .int .i64 h, .int .i64 send, .int .i64 0, .int .i64 g, .bool true]) (by simp [results, Tryd.results109, go_sem]) rfl ⟨rfl, by go_grown⟩
end Go.Proofs.YtkidljiffeonjaaDoor
