/- The walks of package moves: what comes of a kind that a seat is told, or does. -/
import Derived.Test.YtkidljiffeonjaaDoorRows
import Derived.WalkKit
import Derived.WalkSpells
import Derived.WalkLawsBesides
import Derived.BigQuiet
import Derived.Deep.QuietTactic
import Derived.StillTailTactics
import Derived.Handy
import Derived.Lib.Hide
import Derived.Test.YtkidljiffeonjaaDoorMovB
set_option linter.unusedSimpArgs false
set_option linter.unusedVariables false
namespace Go.Proofs.YtkidljiffeonjaaDoor
open Go.RowKit

set_option maxHeartbeats 1000000 in
theorem gone_of (x : MSeat) (k s : Int) (ea : Int → Addr) (w : World) (h : Err3 ea w) : Calls Tryd.prog 132 #[seatV x, .int .i64 k, .int .i64 s] w (Makes (effV (mGone x k s)) w) := by
  have H := Lib.hid h; clear h
  obtain ⟨z, hz⟩ : ∃ z, z = mDue s := ⟨_, rfl⟩
  have hg : mGone x k s = if x.d = 1 ∧ z ≠ 0 then mChanged (mWent x 14 z) z else mChanged (mWent x s k) 0 := by unfold mGone; rw [hz]
  rw [hg]; clear hg
  have hD := fun W => due_of s W
  rw [← hz] at hD
  by_cases hc : x.d = 1 ∧ z ≠ 0
  · rw [if_pos hc]
    have hw := fun W => went_of x 14 z W
    obtain ⟨y, hy⟩ : ∃ y, y = mWent x 14 z := ⟨_, rfl⟩
    rw [← hy] at hw ⊢
    have hch := fun W hW => changed_of y z ea W hW
    obtain ⟨e, he⟩ : ∃ e, e = mChanged y z := ⟨_, rfl⟩
    simp only [← he] at hch ⊢
    clear he hy hz
    obtain ⟨p, d, s0, h4⟩ := x
    obtain ⟨hd, h0⟩ := hc
    dsimp only [seatV, effV] at *
    subst hd
    have h0' : (z != 0) = true := by simpa using h0
    have HD := Lib.hid hD; have HW := Lib.hid hw; have HC := Lib.hid hch; clear hD hw hch h0
    go_enter Tryd.func132, Tryd.ntmps132
    go_wp2_with (first
      | (go_at_call 158; refine (HD.out _).mono ?_; rintro e w1 ⟨rfl, rfl⟩)
      | (go_at_call 135; refine (HW.out _).mono ?_; rintro e w1 ⟨rfl, hb1⟩; have HO1 := Lib.hid ((Blk.fresh _ _ _ (w.heap.size + 1) (by simp only [World.size_alloc])).below hb1); have hz1 := hb1.size; simp only [World.size_alloc] at hz1; have B1 : Below w.heap.size w w1 := below_then (by go_grown) hb1)
      | (go_at_call 134; refine (HC.out _ (H.out.below B1)).mono ?_; rintro e w2 ⟨rfl, hb2⟩; obtain ⟨q2, f2⟩ := (HO1.out.below hb2).out; have B2 : Below w.heap.size w w2 := below_then B1 hb2; have hz2 := hb2.size))
    exact bodyPost_ret (v := .agg #[.int .i64 e.seat.p, .int .i64 e.seat.d, .int .i64 e.seat.s, .int .i64 e.seat.h, .int .i64 e.send, .int .i64 e.fault, .int .i64 e.work, .bool e.ch]) (by simp [results, Tryd.results132, go_sem, q2, f2]) rfl ⟨rfl, by go_grown⟩
  · rw [if_neg hc]
    have hw := fun W => went_of x s k W
    obtain ⟨y, hy⟩ : ∃ y, y = mWent x s k := ⟨_, rfl⟩
    rw [← hy] at hw ⊢
    have hch := fun W hW => changed_of y 0 ea W hW
    obtain ⟨e, he⟩ : ∃ e, e = mChanged y 0 := ⟨_, rfl⟩
    simp only [← he] at hch ⊢
    clear he hy hz
    obtain ⟨p, d, s0, h4⟩ := x
    dsimp only [seatV, effV] at *
    by_cases hd : d = 1
    · subst hd
      have h0 : z = 0 := Decidable.byContradiction fun h => hc ⟨rfl, h⟩
      subst h0
      have HD := Lib.hid hD; have HW := Lib.hid hw; have HC := Lib.hid hch; clear hD hw hch hc
      go_enter Tryd.func132, Tryd.ntmps132
      go_wp2_with (first
        | (go_at_call 158; refine (HD.out _).mono ?_; rintro e w1 ⟨rfl, rfl⟩)
        | (go_at_call 135; refine (HW.out _).mono ?_; rintro e w1 ⟨rfl, hb1⟩; have HO1 := Lib.hid ((Blk.fresh _ _ _ (w.heap.size + 1) (by simp only [World.size_alloc])).below hb1); have hz1 := hb1.size; simp only [World.size_alloc] at hz1; have B1 : Below w.heap.size w w1 := below_then (by go_grown) hb1)
        | (go_at_call 134; refine (HC.out _ (H.out.below B1)).mono ?_; rintro e w2 ⟨rfl, hb2⟩; obtain ⟨q2, f2⟩ := (HO1.out.below hb2).out; have B2 : Below w.heap.size w w2 := below_then B1 hb2; have hz2 := hb2.size))
      exact bodyPost_ret (v := .agg #[.int .i64 e.seat.p, .int .i64 e.seat.d, .int .i64 e.seat.s, .int .i64 e.seat.h, .int .i64 e.send, .int .i64 e.fault, .int .i64 e.work, .bool e.ch]) (by simp [results, Tryd.results132, go_sem, q2, f2]) rfl ⟨rfl, by go_grown⟩
    · have hd' : (d == 1) = false := by simpa using hd
      have HW := Lib.hid hw; have HC := Lib.hid hch; clear hD hw hch hc hd
      go_enter Tryd.func132, Tryd.ntmps132
      go_wp2_with (first
        | (go_at_call 135; refine (HW.out _).mono ?_; rintro e w1 ⟨rfl, hb1⟩; have HO1 := Lib.hid ((Blk.fresh _ _ _ (w.heap.size + 1) (by simp only [World.size_alloc])).below hb1); have hz1 := hb1.size; simp only [World.size_alloc] at hz1; have B1 : Below w.heap.size w w1 := below_then (by go_grown) hb1)
        | (go_at_call 134; refine (HC.out _ (H.out.below B1)).mono ?_; rintro e w2 ⟨rfl, hb2⟩; obtain ⟨q2, f2⟩ := (HO1.out.below hb2).out; have B2 : Below w.heap.size w w2 := below_then B1 hb2; have hz2 := hb2.size))
      exact bodyPost_ret (v := .agg #[.int .i64 e.seat.p, .int .i64 e.seat.d, .int .i64 e.seat.s, .int .i64 e.seat.h, .int .i64 e.send, .int .i64 e.fault, .int .i64 e.work, .bool e.ch]) (by simp [results, Tryd.results132, go_sem, q2, f2]) rfl ⟨rfl, by go_grown⟩

set_option maxRecDepth 100000 in
set_option maxHeartbeats 2000000 in
theorem do_of (x : MSeat) (k : Int) (ea : Int → Addr) (w : World) (h : Err3 ea w) (h9 : ErrIs w 8 (ea 9)) : Calls Tryd.prog 106 #[seatV x, .int .i64 k] w (Makes (.tuple #[effV (mDo x k).1, errOf ea (mDo x k).2]) w) := by
  have k0 : w.cell? ⟨0, 0, none⟩ = some (errV (ea 4)) := h.e4
  have hg0 : 0 < w.heap.size := World.block_lt_of_cell? _ _ k0
  clear k0
  have H := Lib.hid h; clear h
  have H9 := Lib.hid h9; clear h9
  obtain ⟨r, hr⟩ : ∃ r, r = mRight x := ⟨_, rfl⟩
  have hR : ∀ W, Err3 ea W → Calls Tryd.prog 17 #[seatV x] W (Makes (.bool r) W) := fun W hw => by
    have := right_of x ea W hw
    rw [← hr] at this; exact this
  obtain ⟨s, n, hs⟩ : ∃ s n, rStep x.p x.d k x.s = (s, n) := ⟨_, _, rfl⟩
  have hS : ∀ W, Err3 ea W → ErrIs W 8 (ea 9) → Calls Tryd.prog 133 #[.int .i64 x.p, .int .i64 x.d, .int .i64 k, .int .i64 x.s] W (Makes (.tuple #[.int .i64 s, errOf ea n]) W) := fun W hw h9 => by
    have := step_any x.p x.d k x.s ea W hw h9
    rw [hs] at this; exact this
  have he : mDo x k = if r = false then (eff0, 4) else if n ≠ 0 then (eff0, n) else (mChanged (mWent x s k) k, 0) := by
    unfold mDo; rw [← hr, hs]
  rw [he]
  clear he hr hs
  have hw := fun W => went_of x s k W
  obtain ⟨y, hy⟩ : ∃ y, y = mWent x s k := ⟨_, rfl⟩
  rw [← hy] at hw ⊢
  have hch := fun W hW => changed_of y k ea W hW
  obtain ⟨e, he⟩ : ∃ e, e = mChanged y k := ⟨_, rfl⟩
  simp only [← he] at hch ⊢
  clear he hy
  obtain ⟨p, d, s0, h4⟩ := x
  dsimp only [seatV, effV] at *
  have HR := Lib.hid hR; have HS := Lib.hid hS; have HW := Lib.hid hw; have HC := Lib.hid hch; clear hR hS hw hch
  cases r with
  | false =>
    rw [if_pos rfl]
    dsimp only [eff0, seat0]
    rw [show errOf ea 4 = errV (ea 4) from rfl]
    go_enter Tryd.func106, Tryd.ntmps106
    go_wp2_with (first
    | (go_at_call 17; refine (HR.out _ (H.out.below (by go_grown))).mono ?_; rintro e w1 ⟨rfl, hb1⟩; have HA1 := Lib.hid (((Blk.fresh w _ _ _ rfl).alloc _).below hb1); have HO1 := Lib.hid ((Blk.fresh _ _ _ (w.heap.size + 1) (by simp only [World.size_alloc])).below hb1); obtain ⟨q1, f1⟩ := HA1.out.out; obtain ⟨q2, f2⟩ := HO1.out.out; have r1 := fun o => (HA1.out.alloc o).cell; have hz1 := hb1.size; simp only [World.size_alloc] at hz1; have B1 : Below w.heap.size w w1 := below_then (by go_grown) hb1; have k4 : w1.cell? ⟨0, 0, none⟩ = some (errV (ea 4)) := (H.out.below B1).e4)
    | fail)
    go_region
    all_goals go_wp2
    all_goals exact bodyPost_ret (v := .tuple #[.agg #[.int .i64 0, .int .i64 0, .int .i64 0, .int .i64 0, .int .i64 0, .int .i64 0, .int .i64 0, .bool false], errV (ea 4)]) (by simp [results, Tryd.results106, go_sem, q2, f2]) rfl ⟨rfl, by go_grown⟩
  | true =>
    rw [if_neg (by simp)]
    by_cases hn : n = 0
    · subst hn
      rw [if_neg (by simp)]
      simp only [errOf, if_true] at HS ⊢
      go_enter Tryd.func106, Tryd.ntmps106
      go_wp2_with (first
    | (go_at_call 17; refine (HR.out _ (H.out.below (by go_grown))).mono ?_; rintro e w1 ⟨rfl, hb1⟩; have HA1 := Lib.hid (((Blk.fresh w _ _ _ rfl).alloc _).below hb1); have HO1 := Lib.hid ((Blk.fresh _ _ _ (w.heap.size + 1) (by simp only [World.size_alloc])).below hb1); obtain ⟨q1, f1⟩ := HA1.out.out; obtain ⟨q2, f2⟩ := HO1.out.out; have r1 := fun o => (HA1.out.alloc o).cell; have hz1 := hb1.size; simp only [World.size_alloc] at hz1; have B1 : Below w.heap.size w w1 := below_then (by go_grown) hb1; have k4 : w1.cell? ⟨0, 0, none⟩ = some (errV (ea 4)) := (H.out.below B1).e4)
    | (go_at_call 133; refine (HS.out _ (H.out.below B1) (H9.out.below B1)).mono ?_; rintro e w2 ⟨rfl, hb2⟩; have HO2 := Lib.hid (HO1.out.below hb2); have HA2 := Lib.hid (HA1.out.below hb2); clear q1 f1 q2 f2; obtain ⟨q1, f1⟩ := HA2.out.out; have hz2 := hb2.size; have B2 : Below w.heap.size w w2 := below_then B1 hb2) | (go_at_call 135; refine (HW.out _).mono ?_; rintro e w3 ⟨rfl, hb3⟩; have HO3 := Lib.hid (HO2.out.below hb3); have hz3 := hb3.size; have B3 : Below w.heap.size w w3 := below_then B2 hb3) | (go_at_call 134; refine (HC.out _ (H.out.below B3)).mono ?_; rintro e w4 ⟨rfl, hb4⟩; clear q1 f1; obtain ⟨q2, f2⟩ := (HO3.out.below hb4).out; have hz4 := hb4.size; have B4 : Below w.heap.size w w4 := below_then B3 hb4))
      exact bodyPost_ret (v := .tuple #[.agg #[.int .i64 e.seat.p, .int .i64 e.seat.d, .int .i64 e.seat.s, .int .i64 e.seat.h, .int .i64 e.send, .int .i64 e.fault, .int .i64 e.work, .bool e.ch], .nilIface]) (by simp [results, Tryd.results106, go_sem, q2, f2]) rfl ⟨rfl, by go_grown⟩
    · rw [if_pos hn]
      dsimp only [eff0, seat0]
      simp only [errOf, if_neg hn] at HS ⊢
      go_enter Tryd.func106, Tryd.ntmps106
      go_wp2_with (first
    | (go_at_call 17; refine (HR.out _ (H.out.below (by go_grown))).mono ?_; rintro e w1 ⟨rfl, hb1⟩; have HA1 := Lib.hid (((Blk.fresh w _ _ _ rfl).alloc _).below hb1); have HO1 := Lib.hid ((Blk.fresh _ _ _ (w.heap.size + 1) (by simp only [World.size_alloc])).below hb1); obtain ⟨q1, f1⟩ := HA1.out.out; obtain ⟨q2, f2⟩ := HO1.out.out; have r1 := fun o => (HA1.out.alloc o).cell; have hz1 := hb1.size; simp only [World.size_alloc] at hz1; have B1 : Below w.heap.size w w1 := below_then (by go_grown) hb1; have k4 : w1.cell? ⟨0, 0, none⟩ = some (errV (ea 4)) := (H.out.below B1).e4)
    | (go_at_call 133; refine (HS.out _ (H.out.below B1) (H9.out.below B1)).mono ?_; rintro e w2 ⟨rfl, hb2⟩; have HO2 := Lib.hid (HO1.out.below hb2); clear q1 f1 q2 f2; obtain ⟨q2, f2⟩ := HO2.out.out; have hz2 := hb2.size; have B2 : Below w.heap.size w w2 := below_then B1 hb2))
      exact bodyPost_ret (v := .tuple #[.agg #[.int .i64 0, .int .i64 0, .int .i64 0, .int .i64 0, .int .i64 0, .int .i64 0, .int .i64 0, .bool false], errV (ea n)]) (by simp [results, Tryd.results106, go_sem, q2, f2]) rfl ⟨rfl, by go_grown⟩
end Go.Proofs.YtkidljiffeonjaaDoor
