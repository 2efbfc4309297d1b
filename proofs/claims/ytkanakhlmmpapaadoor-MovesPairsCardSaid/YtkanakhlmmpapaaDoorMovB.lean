/- The walks of package moves: a seat's work, waits, changes. -/
import Derived.Test.YtkanakhlmmpapaaDoorRows
import Derived.WalkKit
import Derived.WalkSpells
import Derived.WalkLawsBesides
import Derived.BigQuiet
import Derived.Deep.QuietTactic
import Derived.StillTailTactics
import Derived.Handy
import Derived.Lib.Hide
import Derived.Test.YtkanakhlmmpapaaDoorMovA
set_option linter.unusedSimpArgs false
set_option linter.unusedVariables false
namespace Go.Proofs.YtkanakhlmmpapaaDoor
open Go.RowKit

set_option maxHeartbeats 1000000 in
theorem mwaits_of (x : MSeat) (ea : Int → Addr) (w : World) (h : Err3 ea w) : Calls Tryd.prog 27 #[seatV x] w (Makes (.int .i64 (mWaits x)) w) := by
  have H := Lib.hid h; clear h
  obtain ⟨r, hr⟩ : ∃ r, r = mRight x := ⟨_, rfl⟩
  have hR : ∀ W, Err3 ea W → Calls Tryd.prog 25 #[seatV x] W (Makes (.bool r) W) := fun W hw => by
    have := right_of x ea W hw
    rw [← hr] at this; exact this
  have hW : r = true → ∀ W, Err3 ea W → Calls Tryd.prog 47 #[.int .i64 x.p, .int .i64 x.d, .int .i64 x.s] W (Makes (.tuple #[.int .i64 (mWaits x), .nilIface]) W) := fun ht W hw => by
    have := waits_any x.p x.d x.s ea W hw
    have h1 : mRight x = true := by rw [← hr]; exact ht
    have h2 : (rWait x.p x.d x.s).2 = 0 := by
      unfold mRight at h1; simp only [Bool.and_eq_true, decide_eq_true_eq] at h1; exact h1.1
    have h3 : mWaits x = (rWait x.p x.d x.s).1 := by unfold mWaits; rw [h1]; rfl
    rw [h3]
    rw [h2] at this
    exact this
  have h0 : r = false → mWaits x = 0 := fun hf => by unfold mWaits; rw [← hr, hf]; rfl
  obtain ⟨k, hk⟩ : ∃ k, k = mWaits x := ⟨_, rfl⟩
  rw [← hk] at hW h0 ⊢
  clear hk hr
  obtain ⟨p, d, s, h4⟩ := x
  dsimp only [seatV] at *
  have HR := Lib.hid hR; clear hR
  cases r with
  | false =>
    rw [h0 rfl]
    clear hW h0
    go_enter Tryd.func27, Tryd.ntmps27
    go_wp2_with (go_at_call 25; refine (HR.out _ (H.out.below (by go_grown))).mono ?_; rintro e w1 ⟨rfl, hb1⟩; have B1 : Below w.heap.size w w1 := below_then (by go_grown) hb1)
    go_ret
    exact ⟨rfl, B1⟩
  | true =>
    have HW := Lib.hid (hW rfl)
    clear hW h0
    go_enter Tryd.func27, Tryd.ntmps27
    go_wp2_with (first
      | (go_at_call 25; refine (HR.out _ (H.out.below (by go_grown))).mono ?_; rintro e w1 ⟨rfl, hb1⟩; have HK1 := Lib.hid ((Blk.fresh w _ _ _ rfl).below hb1); obtain ⟨q1, f1⟩ := HK1.out.out; have B1 : Below w.heap.size w w1 := below_then (by go_grown) hb1)
      | (go_at_call 47; refine (HW.out _ (H.out.below B1)).mono ?_; rintro e w2 ⟨rfl, hb2⟩; have B2 : Below w.heap.size w w2 := below_then B1 hb2))
    go_ret
    exact ⟨rfl, B2⟩

def wk (s : Int) : Int := if s = 4 then 2 else if s = 6 then 9 else if s = 2 then 10 else if s = 7 then 11 else 0
set_option maxHeartbeats 1000000 in
theorem work_of (x : MSeat) (ea : Int → Addr) (w : World) (h : Err3 ea w) : Calls Tryd.prog 16 #[seatV x] w (Makes (.int .i64 (mWork x)) w) := by
  have H := Lib.hid h; clear h
  obtain ⟨r, hr⟩ : ∃ r, r = mRight x := ⟨_, rfl⟩
  have hR : ∀ W, Err3 ea W → Calls Tryd.prog 25 #[seatV x] W (Makes (.bool r) W) := fun W hw => by
    have := right_of x ea W hw
    rw [← hr] at this; exact this
  have hk : mWork x = if r = false ∨ x.d ≠ 2 then 0 else wk x.s := by unfold mWork wk; rw [← hr]
  rw [hk]
  clear hk hr
  obtain ⟨p, d, s, h4⟩ := x
  dsimp only [seatV] at *
  have HR := Lib.hid hR; clear hR
  cases r with
  | false =>
    rw [if_pos (.inl rfl)]
    go_enter Tryd.func16, Tryd.ntmps16
    go_wp2_with (go_at_call 25; refine (HR.out _ (H.out.below (by go_grown))).mono ?_; rintro e w1 ⟨rfl, hb1⟩; have B1 : Below w.heap.size w w1 := below_then (by go_grown) hb1)
    go_ret
    exact ⟨rfl, B1⟩
  | true =>
    by_cases hd : d = 2
    · subst hd
      rw [if_neg (by simp)]
      obtain ⟨v, hv⟩ : ∃ v, v = wk s := ⟨_, rfl⟩
      rw [← hv]
      have HV := Lib.hid hv; clear hv
      go_enter Tryd.func16, Tryd.ntmps16
      go_wp2_with (go_at_call 25; refine (HR.out _ (H.out.below (by go_grown))).mono ?_; rintro e w1 ⟨rfl, hb1⟩; have HK1 := Lib.hid ((Blk.fresh w _ _ _ rfl).below hb1); obtain ⟨q1, f1⟩ := HK1.out.out; have B1 : Below w.heap.size w w1 := below_then (by go_grown) hb1)
      all_goals (go_ret; refine ⟨ret_int ?_, B1⟩; rw [HV.out]; simp only [beq_iff_eq, beq_eq_false_iff_ne, ne_eq] at *; simp [wk, *])
    · rw [if_pos (.inr hd)]
      have hd' : (d != 2) = true := by simpa using hd
      go_enter Tryd.func16, Tryd.ntmps16
      go_wp2_with (go_at_call 25; refine (HR.out _ (H.out.below (by go_grown))).mono ?_; rintro e w1 ⟨rfl, hb1⟩; have HK1 := Lib.hid ((Blk.fresh w _ _ _ rfl).below hb1); obtain ⟨q1, f1⟩ := HK1.out.out; have B1 : Below w.heap.size w w1 := below_then (by go_grown) hb1)
      go_ret
      exact ⟨rfl, B1⟩

set_option maxHeartbeats 400000 in
theorem meant_of (k : Int) (w : World) : Calls Tryd.prog 68 #[.int .i64 k] w (Gives (.int .i64 (mMeant k)) w) := by
  go_enter Tryd.func68, Tryd.ntmps68
  go_wp2
  all_goals (go_ret; refine ⟨ret_int ?_, rfl⟩; simp only [beq_iff_eq, beq_eq_false_iff_ne, ne_eq] at *; simp [mMeant, *])

set_option maxHeartbeats 400000 in
theorem due_of (s : Int) (w : World) : Calls Tryd.prog 61 #[.int .i64 s] w (Gives (.int .i64 (mDue s)) w) := by
  go_enter Tryd.func61, Tryd.ntmps61
  go_wp2
  all_goals (go_ret; refine ⟨ret_int ?_, rfl⟩; simp only [beq_iff_eq, beq_eq_false_iff_ne, ne_eq, Bool.or_eq_true, Bool.or_eq_false_iff] at *; simp [mDue, *])

set_option maxHeartbeats 1000000 in
theorem went_of (x : MSeat) (s k : Int) (w : World) : Calls Tryd.prog 44 #[seatV x, .int .i64 s, .int .i64 k] w (Makes (seatV (mWent x s k)) w) := by
  obtain ⟨p, d, s0, h4⟩ := x
  dsimp only [seatV, mWent]
  by_cases hs : s = 14
  · subst hs
    rw [if_pos rfl]
    have hm := fun W => meant_of k W
    obtain ⟨m, hm'⟩ : ∃ m, m = mMeant k := ⟨_, rfl⟩
    rw [← hm'] at hm ⊢
    have HM := Lib.hid hm; clear hm hm'
    go_enter Tryd.func44, Tryd.ntmps44
    go_wp2_with (go_at_call 68; refine (HM.out _).mono ?_; rintro e w1 ⟨rfl, rfl⟩)
    exact bodyPost_ret (v := .agg #[.int .i64 p, .int .i64 d, .int .i64 14, .int .i64 m]) (by simp [results, Tryd.results44, go_sem]) rfl ⟨rfl, by go_grown⟩
  · rw [if_neg hs]
    have hs' : (s == 14) = false := by simpa using hs
    go_enter Tryd.func44, Tryd.ntmps44
    go_wp2
    exact bodyPost_ret (v := .agg #[.int .i64 p, .int .i64 d, .int .i64 s, .int .i64 h4]) (by simp [results, Tryd.results44, go_sem]) rfl ⟨rfl, by go_grown⟩

set_option maxHeartbeats 1000000 in
set_option maxRecDepth 100000 in
theorem changed_of (x : MSeat) (send : Int) (ea : Int → Addr) (w : World) (h : Err3 ea w) : Calls Tryd.prog 43 #[seatV x, .int .i64 send] w (Makes (effV (mChanged x send)) w) := by
  have H := Lib.hid h; clear h
  have hW := fun W hw => work_of x ea W hw
  obtain ⟨k, hk⟩ : ∃ k, k = mWork x := ⟨_, rfl⟩
  dsimp only [mChanged, effV]
  rw [← hk]
  simp only [← hk] at hW
  clear hk
  obtain ⟨p, d, s, h4⟩ := x
  dsimp only [seatV] at *
  have HW := Lib.hid hW; clear hW
  go_enter Tryd.func43, Tryd.ntmps43
  go_wp2
  go_region_held3 (fun w' => w'.cell? ⟨w.heap.size, 0, none⟩ = some (.int .i64 p) ∧ w'.cell? ⟨w.heap.size, 1, none⟩ = some (.int .i64 d) ∧ w'.cell? ⟨w.heap.size, 2, none⟩ = some (.int .i64 s) ∧ w'.cell? ⟨w.heap.size, 3, none⟩ = some (.int .i64 h4)) (first | go_keep | exact ⟨q1 0, q1 1, q1 2, q1 3⟩) (first
    | (go_at_call 16; refine (HW.out _ (H.out.below (by go_grown))).mono ?_; rintro e w1 ⟨rfl, hb1⟩; obtain ⟨q1, f1⟩ := ((((Blk.fresh w _ _ _ rfl).alloc _).drew).below hb1).out; obtain ⟨q2, f2⟩ := (((Blk.fresh _ _ _ (w.heap.size + 1) (by simp only [World.size_alloc])).drew).below hb1).out; have hz1 := hb1.size; simp only [World.size_alloc, World.size_drew] at hz1; have B1 : Below w.heap.size w w1 := below_then (by go_grown) hb1))
  go_wp2
  exact bodyPost_ret (v := .agg #[.int .i64 p, .int .i64 d, .int .i64 s, .int .i64 h4, .int .i64 send, .int .i64 0, .int .i64 k, .bool true]) (by simp [results, Tryd.results43, go_sem, q2, f2]) rfl ⟨rfl, by go_grown⟩
end Go.Proofs.YtkanakhlmmpapaaDoor
