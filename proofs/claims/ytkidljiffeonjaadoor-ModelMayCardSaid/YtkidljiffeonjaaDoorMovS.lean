/- The reference of moves (liaisonref11): Tell and Do of a seat, walked; they answer as the code does. -/
import Derived.Test.YtkidljiffeonjaaDoorRows
import Derived.WalkKit
import Derived.WalkSpells
import Derived.WalkLawsBesides
import Derived.BigQuiet
import Derived.Deep.QuietTactic
import Derived.StillTailTactics
import Derived.Handy
import Derived.Lib.Hide
import Derived.Test.YtkidljiffeonjaaDoorMovR
set_option linter.unusedSimpArgs false
set_option linter.unusedVariables false
namespace Go.Proofs.YtkidljiffeonjaaDoor
open Go.RowKit

set_option maxRecDepth 100000 in
set_option maxHeartbeats 8000000 in
theorem gtell_of (x : MSeat) (k : Int) (w : World) : Calls Tryd.prog 69 #[seatV x, .int .i64 k] w (Makes (.tuple #[effV (gTell x k).1, .int .i64 (gTell x k).2]) w) := by
  obtain ⟨r, hr⟩ : ∃ r, r = mRight x := ⟨_, rfl⟩
  have hR : ∀ W, Calls Tryd.prog 107 #[seatV x] W (Makes (.bool r) W) := fun W => by rw [hr]; exact gright_of x W
  obtain ⟨c1, c2, c3, n, hs⟩ : ∃ c1 c2 c3 n, rLook x.p x.d k x.s = ((c1, c2, c3), n) := ⟨_, _, _, _, rfl⟩
  have hL : ∀ W, Calls Tryd.prog 108 #[.int .i64 x.p, .int .i64 x.d, .int .i64 k, .int .i64 x.s] W (Makes (.tuple #[.agg #[.int .i64 c1, .int .i64 c2, .int .i64 c3], .int .i64 n]) W) := fun W => by
    have := rlook_any x.p x.d k x.s W
    rw [hs] at this; exact this
  have he : gTell x k = if r = false then (eff0, 4) else if n ≠ 0 then (⟨x, 0, 2, 0, false⟩, 0) else if c1 = 2 then (⟨x, 0, 0, 0, false⟩, 0) else if c1 = 3 then (⟨x, c3, 0, 0, false⟩, 0) else if c1 = 4 then (⟨x, 0, 1, 0, false⟩, 0) else (gGo x k c2, 0) := by
    unfold gTell; rw [← hr, hs]
  rw [he]
  clear he hr hs
  obtain ⟨p, d, s0, h0⟩ := x
  dsimp only [seatV] at *
  have HR := Lib.hid hR; have HL := Lib.hid hL; clear hR hL
  cases r with
  | false =>
    rw [if_pos rfl]
    dsimp only [effV, eff0, seat0]
    go_enter Tryd.func69, Tryd.ntmps69
    go_wp2_with (first
      | (go_at_call 107; refine (HR.out _).mono ?_; rintro e w1 ⟨rfl, hb1⟩; have HA1 := Lib.hid (((Blk.fresh w _ _ _ rfl).alloc _).below hb1); have HO1 := Lib.hid ((Blk.fresh _ _ _ (w.heap.size + 1) (by simp only [World.size_alloc])).below hb1); obtain ⟨q1, f1⟩ := HA1.out.out; obtain ⟨q2, f2⟩ := HO1.out.out; have hz1 := hb1.size; simp only [World.size_alloc] at hz1; have B1 : Below w.heap.size w w1 := below_then (by go_grown) hb1)
      | fail)
    exact bodyPost_ret (v := .tuple #[.agg #[.int .i64 0, .int .i64 0, .int .i64 0, .int .i64 0, .int .i64 0, .int .i64 0, .int .i64 0, .bool false], .int .i64 4]) (by simp [results, Tryd.results69, go_sem, q2, f2]) rfl ⟨rfl, by go_grown⟩
  | true =>
    rw [if_neg (by simp)]
    by_cases hn : n = 0
    case neg =>
      rw [if_pos hn]
      dsimp only [effV]
      have hn' : (n != 0) = true := by simpa using hn
      clear hn
      go_enter Tryd.func69, Tryd.ntmps69
      go_wp2_with (first
      | (go_at_call 107; refine (HR.out _).mono ?_; rintro e w1 ⟨rfl, hb1⟩; have HA1 := Lib.hid (((Blk.fresh w _ _ _ rfl).alloc _).below hb1); have HO1 := Lib.hid ((Blk.fresh _ _ _ (w.heap.size + 1) (by simp only [World.size_alloc])).below hb1); obtain ⟨q1, f1⟩ := HA1.out.out; obtain ⟨q2, f2⟩ := HO1.out.out; have hz1 := hb1.size; simp only [World.size_alloc] at hz1; have B1 : Below w.heap.size w w1 := below_then (by go_grown) hb1)
      | (go_at_call 108; refine (HL.out _).mono ?_; rintro e w2 ⟨rfl, hb2⟩; have HA2 := Lib.hid (HA1.out.below hb2); have HO2 := Lib.hid (HO1.out.below hb2); clear q1 f1 q2 f2; have q1 := HA2.out.cell; have q2 := HO2.out.cell; have f2 := HO2.out.free; have r1 := fun o => (HA2.out.alloc o).cell; have r2 := fun o => (HO2.out.alloc o).cell; have g2 := fun o => (HO2.out.alloc o).free; have hz2 := hb2.size; have B2 : Below w.heap.size w w2 := below_then B1 hb2)
      | (go_at_call 109; refine (HM.out _).mono ?_; rintro e w3 ⟨rfl, hb3⟩; have HO3 := Lib.hid ((HO2.out.alloc _).below hb3); clear q1 q2 f2 r1 r2 g2; obtain ⟨q2, f2⟩ := HO3.out.out; have hz3 := hb3.size; simp only [World.size_alloc] at hz3; have B3 : Below w.heap.size w w3 := below_then (by go_grown) hb3))
      exact bodyPost_ret (v := .tuple #[.agg #[.int .i64 p, .int .i64 d, .int .i64 s0, .int .i64 h0, .int .i64 0, .int .i64 2, .int .i64 0, .bool false], .int .i64 0]) (by simp [results, Tryd.results69, go_sem, q2, f2, r2, g2]) rfl ⟨rfl, by go_grown⟩
    subst hn
    rw [if_neg (by simp)]
    by_cases t2 : c1 = 2
    · subst t2
      rw [if_pos rfl]
      dsimp only [effV]
      go_enter Tryd.func69, Tryd.ntmps69
      go_wp2_with (first
      | (go_at_call 107; refine (HR.out _).mono ?_; rintro e w1 ⟨rfl, hb1⟩; have HA1 := Lib.hid (((Blk.fresh w _ _ _ rfl).alloc _).below hb1); have HO1 := Lib.hid ((Blk.fresh _ _ _ (w.heap.size + 1) (by simp only [World.size_alloc])).below hb1); obtain ⟨q1, f1⟩ := HA1.out.out; obtain ⟨q2, f2⟩ := HO1.out.out; have hz1 := hb1.size; simp only [World.size_alloc] at hz1; have B1 : Below w.heap.size w w1 := below_then (by go_grown) hb1)
      | (go_at_call 108; refine (HL.out _).mono ?_; rintro e w2 ⟨rfl, hb2⟩; have HA2 := Lib.hid (HA1.out.below hb2); have HO2 := Lib.hid (HO1.out.below hb2); clear q1 f1 q2 f2; have q1 := HA2.out.cell; have q2 := HO2.out.cell; have f2 := HO2.out.free; have r1 := fun o => (HA2.out.alloc o).cell; have r2 := fun o => (HO2.out.alloc o).cell; have g2 := fun o => (HO2.out.alloc o).free; have hz2 := hb2.size; have B2 : Below w.heap.size w w2 := below_then B1 hb2)
      | (go_at_call 109; refine (HM.out _).mono ?_; rintro e w3 ⟨rfl, hb3⟩; have HO3 := Lib.hid ((HO2.out.alloc _).below hb3); clear q1 q2 f2 r1 r2 g2; obtain ⟨q2, f2⟩ := HO3.out.out; have hz3 := hb3.size; simp only [World.size_alloc] at hz3; have B3 : Below w.heap.size w w3 := below_then (by go_grown) hb3))
      exact bodyPost_ret (v := .tuple #[.agg #[.int .i64 p, .int .i64 d, .int .i64 s0, .int .i64 h0, .int .i64 0, .int .i64 0, .int .i64 0, .bool false], .int .i64 0]) (by simp [results, Tryd.results69, go_sem, q2, f2, r2, g2]) rfl ⟨rfl, by go_grown⟩
    rw [if_neg t2]
    by_cases t3 : c1 = 3
    · subst t3
      rw [if_pos rfl]
      dsimp only [effV]
      go_enter Tryd.func69, Tryd.ntmps69
      go_wp2_with (first
      | (go_at_call 107; refine (HR.out _).mono ?_; rintro e w1 ⟨rfl, hb1⟩; have HA1 := Lib.hid (((Blk.fresh w _ _ _ rfl).alloc _).below hb1); have HO1 := Lib.hid ((Blk.fresh _ _ _ (w.heap.size + 1) (by simp only [World.size_alloc])).below hb1); obtain ⟨q1, f1⟩ := HA1.out.out; obtain ⟨q2, f2⟩ := HO1.out.out; have hz1 := hb1.size; simp only [World.size_alloc] at hz1; have B1 : Below w.heap.size w w1 := below_then (by go_grown) hb1)
      | (go_at_call 108; refine (HL.out _).mono ?_; rintro e w2 ⟨rfl, hb2⟩; have HA2 := Lib.hid (HA1.out.below hb2); have HO2 := Lib.hid (HO1.out.below hb2); clear q1 f1 q2 f2; have q1 := HA2.out.cell; have q2 := HO2.out.cell; have f2 := HO2.out.free; have r1 := fun o => (HA2.out.alloc o).cell; have r2 := fun o => (HO2.out.alloc o).cell; have g2 := fun o => (HO2.out.alloc o).free; have hz2 := hb2.size; have B2 : Below w.heap.size w w2 := below_then B1 hb2)
      | (go_at_call 109; refine (HM.out _).mono ?_; rintro e w3 ⟨rfl, hb3⟩; have HO3 := Lib.hid ((HO2.out.alloc _).below hb3); clear q1 q2 f2 r1 r2 g2; obtain ⟨q2, f2⟩ := HO3.out.out; have hz3 := hb3.size; simp only [World.size_alloc] at hz3; have B3 : Below w.heap.size w w3 := below_then (by go_grown) hb3))
      exact bodyPost_ret (v := .tuple #[.agg #[.int .i64 p, .int .i64 d, .int .i64 s0, .int .i64 h0, .int .i64 c3, .int .i64 0, .int .i64 0, .bool false], .int .i64 0]) (by simp [results, Tryd.results69, go_sem, q2, f2, r2, g2]) rfl ⟨rfl, by go_grown⟩
    rw [if_neg t3]
    by_cases t4 : c1 = 4
    · subst t4
      rw [if_pos rfl]
      dsimp only [effV]
      go_enter Tryd.func69, Tryd.ntmps69
      go_wp2_with (first
      | (go_at_call 107; refine (HR.out _).mono ?_; rintro e w1 ⟨rfl, hb1⟩; have HA1 := Lib.hid (((Blk.fresh w _ _ _ rfl).alloc _).below hb1); have HO1 := Lib.hid ((Blk.fresh _ _ _ (w.heap.size + 1) (by simp only [World.size_alloc])).below hb1); obtain ⟨q1, f1⟩ := HA1.out.out; obtain ⟨q2, f2⟩ := HO1.out.out; have hz1 := hb1.size; simp only [World.size_alloc] at hz1; have B1 : Below w.heap.size w w1 := below_then (by go_grown) hb1)
      | (go_at_call 108; refine (HL.out _).mono ?_; rintro e w2 ⟨rfl, hb2⟩; have HA2 := Lib.hid (HA1.out.below hb2); have HO2 := Lib.hid (HO1.out.below hb2); clear q1 f1 q2 f2; have q1 := HA2.out.cell; have q2 := HO2.out.cell; have f2 := HO2.out.free; have r1 := fun o => (HA2.out.alloc o).cell; have r2 := fun o => (HO2.out.alloc o).cell; have g2 := fun o => (HO2.out.alloc o).free; have hz2 := hb2.size; have B2 : Below w.heap.size w w2 := below_then B1 hb2)
      | (go_at_call 109; refine (HM.out _).mono ?_; rintro e w3 ⟨rfl, hb3⟩; have HO3 := Lib.hid ((HO2.out.alloc _).below hb3); clear q1 q2 f2 r1 r2 g2; obtain ⟨q2, f2⟩ := HO3.out.out; have hz3 := hb3.size; simp only [World.size_alloc] at hz3; have B3 : Below w.heap.size w w3 := below_then (by go_grown) hb3))
      exact bodyPost_ret (v := .tuple #[.agg #[.int .i64 p, .int .i64 d, .int .i64 s0, .int .i64 h0, .int .i64 0, .int .i64 1, .int .i64 0, .bool false], .int .i64 0]) (by simp [results, Tryd.results69, go_sem, q2, f2, r2, g2]) rfl ⟨rfl, by go_grown⟩
    rw [if_neg t4]
    have u2 : (c1 == 2) = false := by simpa using t2
    have u3 : (c1 == 3) = false := by simpa using t3
    have u4 : (c1 == 4) = false := by simpa using t4
    clear t2 t3 t4
    unfold gGo
    dsimp only
    by_cases hd : d = 1
    · subst hd
      rw [if_pos rfl]
      by_cases m1 : c2 = 13
      · subst m1
        rw [if_pos rfl]
        have hM := fun W => gmoved_of ⟨p, 1, s0, h0⟩ (14) (1) (13) W
        obtain ⟨e, he⟩ : ∃ e, e = gMoved ⟨p, 1, s0, h0⟩ (14) (1) (13) := ⟨_, rfl⟩
        rw [← he] at hM ⊢
        dsimp only [seatV, effV] at hM ⊢
        have HM := Lib.hid hM; clear hM he
        go_enter Tryd.func69, Tryd.ntmps69
        go_wp2_with (first
      | (go_at_call 107; refine (HR.out _).mono ?_; rintro e w1 ⟨rfl, hb1⟩; have HA1 := Lib.hid (((Blk.fresh w _ _ _ rfl).alloc _).below hb1); have HO1 := Lib.hid ((Blk.fresh _ _ _ (w.heap.size + 1) (by simp only [World.size_alloc])).below hb1); obtain ⟨q1, f1⟩ := HA1.out.out; obtain ⟨q2, f2⟩ := HO1.out.out; have hz1 := hb1.size; simp only [World.size_alloc] at hz1; have B1 : Below w.heap.size w w1 := below_then (by go_grown) hb1)
      | (go_at_call 108; refine (HL.out _).mono ?_; rintro e w2 ⟨rfl, hb2⟩; have HA2 := Lib.hid (HA1.out.below hb2); have HO2 := Lib.hid (HO1.out.below hb2); clear q1 f1 q2 f2; have q1 := HA2.out.cell; have q2 := HO2.out.cell; have f2 := HO2.out.free; have r1 := fun o => (HA2.out.alloc o).cell; have r2 := fun o => (HO2.out.alloc o).cell; have g2 := fun o => (HO2.out.alloc o).free; have hz2 := hb2.size; have B2 : Below w.heap.size w w2 := below_then B1 hb2)
      | (go_at_call 109; refine (HM.out _).mono ?_; rintro e w3 ⟨rfl, hb3⟩; have HO3 := Lib.hid ((HO2.out.alloc _).below hb3); clear q1 q2 f2 r1 r2 g2; obtain ⟨q2, f2⟩ := HO3.out.out; have hz3 := hb3.size; simp only [World.size_alloc] at hz3; have B3 : Below w.heap.size w w3 := below_then (by go_grown) hb3))
        exact bodyPost_ret (v := .tuple #[.agg #[.int .i64 e.seat.p, .int .i64 e.seat.d, .int .i64 e.seat.s, .int .i64 e.seat.h, .int .i64 e.send, .int .i64 e.fault, .int .i64 e.work, .bool e.ch], .int .i64 0]) (by simp [results, Tryd.results69, go_sem, q2, f2]) rfl ⟨rfl, by go_grown⟩
      rw [if_neg m1]
      by_cases m2 : c2 = 12
      · subst m2
        rw [if_pos rfl]
        have hM := fun W => gmoved_of ⟨p, 1, s0, h0⟩ (14) (5) (14) W
        obtain ⟨e, he⟩ : ∃ e, e = gMoved ⟨p, 1, s0, h0⟩ (14) (5) (14) := ⟨_, rfl⟩
        rw [← he] at hM ⊢
        dsimp only [seatV, effV] at hM ⊢
        have HM := Lib.hid hM; clear hM he
        go_enter Tryd.func69, Tryd.ntmps69
        go_wp2_with (first
      | (go_at_call 107; refine (HR.out _).mono ?_; rintro e w1 ⟨rfl, hb1⟩; have HA1 := Lib.hid (((Blk.fresh w _ _ _ rfl).alloc _).below hb1); have HO1 := Lib.hid ((Blk.fresh _ _ _ (w.heap.size + 1) (by simp only [World.size_alloc])).below hb1); obtain ⟨q1, f1⟩ := HA1.out.out; obtain ⟨q2, f2⟩ := HO1.out.out; have hz1 := hb1.size; simp only [World.size_alloc] at hz1; have B1 : Below w.heap.size w w1 := below_then (by go_grown) hb1)
      | (go_at_call 108; refine (HL.out _).mono ?_; rintro e w2 ⟨rfl, hb2⟩; have HA2 := Lib.hid (HA1.out.below hb2); have HO2 := Lib.hid (HO1.out.below hb2); clear q1 f1 q2 f2; have q1 := HA2.out.cell; have q2 := HO2.out.cell; have f2 := HO2.out.free; have r1 := fun o => (HA2.out.alloc o).cell; have r2 := fun o => (HO2.out.alloc o).cell; have g2 := fun o => (HO2.out.alloc o).free; have hz2 := hb2.size; have B2 : Below w.heap.size w w2 := below_then B1 hb2)
      | (go_at_call 109; refine (HM.out _).mono ?_; rintro e w3 ⟨rfl, hb3⟩; have HO3 := Lib.hid ((HO2.out.alloc _).below hb3); clear q1 q2 f2 r1 r2 g2; obtain ⟨q2, f2⟩ := HO3.out.out; have hz3 := hb3.size; simp only [World.size_alloc] at hz3; have B3 : Below w.heap.size w w3 := below_then (by go_grown) hb3))
        exact bodyPost_ret (v := .tuple #[.agg #[.int .i64 e.seat.p, .int .i64 e.seat.d, .int .i64 e.seat.s, .int .i64 e.seat.h, .int .i64 e.send, .int .i64 e.fault, .int .i64 e.work, .bool e.ch], .int .i64 0]) (by simp [results, Tryd.results69, go_sem, q2, f2]) rfl ⟨rfl, by go_grown⟩
      rw [if_neg m2]
      have v1 : (c2 == 13) = false := by simpa using m1
      have v2 : (c2 == 12) = false := by simpa using m2
      clear m1 m2
      by_cases m3 : 8 ≤ c2 ∧ c2 ≤ 11
      · rw [if_pos m3]
        obtain ⟨m4, m5⟩ := m3
        have hM := fun W => gmoved_of ⟨p, 1, s0, h0⟩ (14) (4) (12) W
        obtain ⟨e, he⟩ : ∃ e, e = gMoved ⟨p, 1, s0, h0⟩ (14) (4) (12) := ⟨_, rfl⟩
        rw [← he] at hM ⊢
        dsimp only [seatV, effV] at hM ⊢
        have HM := Lib.hid hM; clear hM he
        go_enter Tryd.func69, Tryd.ntmps69
        go_wp2_with (first
      | (go_at_call 107; refine (HR.out _).mono ?_; rintro e w1 ⟨rfl, hb1⟩; have HA1 := Lib.hid (((Blk.fresh w _ _ _ rfl).alloc _).below hb1); have HO1 := Lib.hid ((Blk.fresh _ _ _ (w.heap.size + 1) (by simp only [World.size_alloc])).below hb1); obtain ⟨q1, f1⟩ := HA1.out.out; obtain ⟨q2, f2⟩ := HO1.out.out; have hz1 := hb1.size; simp only [World.size_alloc] at hz1; have B1 : Below w.heap.size w w1 := below_then (by go_grown) hb1)
      | (go_at_call 108; refine (HL.out _).mono ?_; rintro e w2 ⟨rfl, hb2⟩; have HA2 := Lib.hid (HA1.out.below hb2); have HO2 := Lib.hid (HO1.out.below hb2); clear q1 f1 q2 f2; have q1 := HA2.out.cell; have q2 := HO2.out.cell; have f2 := HO2.out.free; have r1 := fun o => (HA2.out.alloc o).cell; have r2 := fun o => (HO2.out.alloc o).cell; have g2 := fun o => (HO2.out.alloc o).free; have hz2 := hb2.size; have B2 : Below w.heap.size w w2 := below_then B1 hb2)
      | (go_at_call 109; refine (HM.out _).mono ?_; rintro e w3 ⟨rfl, hb3⟩; have HO3 := Lib.hid ((HO2.out.alloc _).below hb3); clear q1 q2 f2 r1 r2 g2; obtain ⟨q2, f2⟩ := HO3.out.out; have hz3 := hb3.size; simp only [World.size_alloc] at hz3; have B3 : Below w.heap.size w w3 := below_then (by go_grown) hb3))
        exact bodyPost_ret (v := .tuple #[.agg #[.int .i64 e.seat.p, .int .i64 e.seat.d, .int .i64 e.seat.s, .int .i64 e.seat.h, .int .i64 e.send, .int .i64 e.fault, .int .i64 e.work, .bool e.ch], .int .i64 0]) (by simp [results, Tryd.results69, go_sem, q2, f2]) rfl ⟨rfl, by go_grown⟩
      rw [if_neg m3]
      by_cases m4 : 8 ≤ c2
      · have m5 : 11 < c2 := by omega
        clear m3
        have hM := fun W => gmoved_of ⟨p, 1, s0, h0⟩ (c2) (k) (0) W
        obtain ⟨e, he⟩ : ∃ e, e = gMoved ⟨p, 1, s0, h0⟩ (c2) (k) (0) := ⟨_, rfl⟩
        rw [← he] at hM ⊢
        dsimp only [seatV, effV] at hM ⊢
        have HM := Lib.hid hM; clear hM he
        go_enter Tryd.func69, Tryd.ntmps69
        go_wp2_with (first
      | (go_at_call 107; refine (HR.out _).mono ?_; rintro e w1 ⟨rfl, hb1⟩; have HA1 := Lib.hid (((Blk.fresh w _ _ _ rfl).alloc _).below hb1); have HO1 := Lib.hid ((Blk.fresh _ _ _ (w.heap.size + 1) (by simp only [World.size_alloc])).below hb1); obtain ⟨q1, f1⟩ := HA1.out.out; obtain ⟨q2, f2⟩ := HO1.out.out; have hz1 := hb1.size; simp only [World.size_alloc] at hz1; have B1 : Below w.heap.size w w1 := below_then (by go_grown) hb1)
      | (go_at_call 108; refine (HL.out _).mono ?_; rintro e w2 ⟨rfl, hb2⟩; have HA2 := Lib.hid (HA1.out.below hb2); have HO2 := Lib.hid (HO1.out.below hb2); clear q1 f1 q2 f2; have q1 := HA2.out.cell; have q2 := HO2.out.cell; have f2 := HO2.out.free; have r1 := fun o => (HA2.out.alloc o).cell; have r2 := fun o => (HO2.out.alloc o).cell; have g2 := fun o => (HO2.out.alloc o).free; have hz2 := hb2.size; have B2 : Below w.heap.size w w2 := below_then B1 hb2)
      | (go_at_call 109; refine (HM.out _).mono ?_; rintro e w3 ⟨rfl, hb3⟩; have HO3 := Lib.hid ((HO2.out.alloc _).below hb3); clear q1 q2 f2 r1 r2 g2; obtain ⟨q2, f2⟩ := HO3.out.out; have hz3 := hb3.size; simp only [World.size_alloc] at hz3; have B3 : Below w.heap.size w w3 := below_then (by go_grown) hb3))
        exact bodyPost_ret (v := .tuple #[.agg #[.int .i64 e.seat.p, .int .i64 e.seat.d, .int .i64 e.seat.s, .int .i64 e.seat.h, .int .i64 e.send, .int .i64 e.fault, .int .i64 e.work, .bool e.ch], .int .i64 0]) (by simp [results, Tryd.results69, go_sem, q2, f2]) rfl ⟨rfl, by go_grown⟩
      · have m5 : c2 < 8 := by omega
        clear m3 m4
        have hM := fun W => gmoved_of ⟨p, 1, s0, h0⟩ (c2) (k) (0) W
        obtain ⟨e, he⟩ : ∃ e, e = gMoved ⟨p, 1, s0, h0⟩ (c2) (k) (0) := ⟨_, rfl⟩
        rw [← he] at hM ⊢
        dsimp only [seatV, effV] at hM ⊢
        have HM := Lib.hid hM; clear hM he
        go_enter Tryd.func69, Tryd.ntmps69
        go_wp2_with (first
      | (go_at_call 107; refine (HR.out _).mono ?_; rintro e w1 ⟨rfl, hb1⟩; have HA1 := Lib.hid (((Blk.fresh w _ _ _ rfl).alloc _).below hb1); have HO1 := Lib.hid ((Blk.fresh _ _ _ (w.heap.size + 1) (by simp only [World.size_alloc])).below hb1); obtain ⟨q1, f1⟩ := HA1.out.out; obtain ⟨q2, f2⟩ := HO1.out.out; have hz1 := hb1.size; simp only [World.size_alloc] at hz1; have B1 : Below w.heap.size w w1 := below_then (by go_grown) hb1)
      | (go_at_call 108; refine (HL.out _).mono ?_; rintro e w2 ⟨rfl, hb2⟩; have HA2 := Lib.hid (HA1.out.below hb2); have HO2 := Lib.hid (HO1.out.below hb2); clear q1 f1 q2 f2; have q1 := HA2.out.cell; have q2 := HO2.out.cell; have f2 := HO2.out.free; have r1 := fun o => (HA2.out.alloc o).cell; have r2 := fun o => (HO2.out.alloc o).cell; have g2 := fun o => (HO2.out.alloc o).free; have hz2 := hb2.size; have B2 : Below w.heap.size w w2 := below_then B1 hb2)
      | (go_at_call 109; refine (HM.out _).mono ?_; rintro e w3 ⟨rfl, hb3⟩; have HO3 := Lib.hid ((HO2.out.alloc _).below hb3); clear q1 q2 f2 r1 r2 g2; obtain ⟨q2, f2⟩ := HO3.out.out; have hz3 := hb3.size; simp only [World.size_alloc] at hz3; have B3 : Below w.heap.size w w3 := below_then (by go_grown) hb3))
        exact bodyPost_ret (v := .tuple #[.agg #[.int .i64 e.seat.p, .int .i64 e.seat.d, .int .i64 e.seat.s, .int .i64 e.seat.h, .int .i64 e.send, .int .i64 e.fault, .int .i64 e.work, .bool e.ch], .int .i64 0]) (by simp [results, Tryd.results69, go_sem, q2, f2]) rfl ⟨rfl, by go_grown⟩
    · rw [if_neg hd]
      have hd' : (d == 1) = false := by simpa using hd
      clear hd
      by_cases k2 : k = 12
      · subst k2
        rw [show gHow 12 0 = 4 from rfl]
        have hM := fun W => gmoved_of ⟨p, d, s0, h0⟩ (c2) (4) (0) W
        obtain ⟨e, he⟩ : ∃ e, e = gMoved ⟨p, d, s0, h0⟩ (c2) (4) (0) := ⟨_, rfl⟩
        rw [← he] at hM ⊢
        dsimp only [seatV, effV] at hM ⊢
        have HM := Lib.hid hM; clear hM he
        go_enter Tryd.func69, Tryd.ntmps69
        go_wp2_with (first
      | (go_at_call 107; refine (HR.out _).mono ?_; rintro e w1 ⟨rfl, hb1⟩; have HA1 := Lib.hid (((Blk.fresh w _ _ _ rfl).alloc _).below hb1); have HO1 := Lib.hid ((Blk.fresh _ _ _ (w.heap.size + 1) (by simp only [World.size_alloc])).below hb1); obtain ⟨q1, f1⟩ := HA1.out.out; obtain ⟨q2, f2⟩ := HO1.out.out; have hz1 := hb1.size; simp only [World.size_alloc] at hz1; have B1 : Below w.heap.size w w1 := below_then (by go_grown) hb1)
      | (go_at_call 108; refine (HL.out _).mono ?_; rintro e w2 ⟨rfl, hb2⟩; have HA2 := Lib.hid (HA1.out.below hb2); have HO2 := Lib.hid (HO1.out.below hb2); clear q1 f1 q2 f2; have q1 := HA2.out.cell; have q2 := HO2.out.cell; have f2 := HO2.out.free; have r1 := fun o => (HA2.out.alloc o).cell; have r2 := fun o => (HO2.out.alloc o).cell; have g2 := fun o => (HO2.out.alloc o).free; have hz2 := hb2.size; have B2 : Below w.heap.size w w2 := below_then B1 hb2)
      | (go_at_call 109; refine (HM.out _).mono ?_; rintro e w3 ⟨rfl, hb3⟩; have HO3 := Lib.hid ((HO2.out.alloc _).below hb3); clear q1 q2 f2 r1 r2 g2; obtain ⟨q2, f2⟩ := HO3.out.out; have hz3 := hb3.size; simp only [World.size_alloc] at hz3; have B3 : Below w.heap.size w w3 := below_then (by go_grown) hb3))
        exact bodyPost_ret (v := .tuple #[.agg #[.int .i64 e.seat.p, .int .i64 e.seat.d, .int .i64 e.seat.s, .int .i64 e.seat.h, .int .i64 e.send, .int .i64 e.fault, .int .i64 e.work, .bool e.ch], .int .i64 0]) (by simp [results, Tryd.results69, go_sem, q2, f2]) rfl ⟨rfl, by go_grown⟩
      by_cases k3 : k = 13
      · subst k3
        rw [show gHow 13 0 = 1 from rfl]
        have hM := fun W => gmoved_of ⟨p, d, s0, h0⟩ (c2) (1) (0) W
        obtain ⟨e, he⟩ : ∃ e, e = gMoved ⟨p, d, s0, h0⟩ (c2) (1) (0) := ⟨_, rfl⟩
        rw [← he] at hM ⊢
        dsimp only [seatV, effV] at hM ⊢
        have HM := Lib.hid hM; clear hM he
        go_enter Tryd.func69, Tryd.ntmps69
        go_wp2_with (first
      | (go_at_call 107; refine (HR.out _).mono ?_; rintro e w1 ⟨rfl, hb1⟩; have HA1 := Lib.hid (((Blk.fresh w _ _ _ rfl).alloc _).below hb1); have HO1 := Lib.hid ((Blk.fresh _ _ _ (w.heap.size + 1) (by simp only [World.size_alloc])).below hb1); obtain ⟨q1, f1⟩ := HA1.out.out; obtain ⟨q2, f2⟩ := HO1.out.out; have hz1 := hb1.size; simp only [World.size_alloc] at hz1; have B1 : Below w.heap.size w w1 := below_then (by go_grown) hb1)
      | (go_at_call 108; refine (HL.out _).mono ?_; rintro e w2 ⟨rfl, hb2⟩; have HA2 := Lib.hid (HA1.out.below hb2); have HO2 := Lib.hid (HO1.out.below hb2); clear q1 f1 q2 f2; have q1 := HA2.out.cell; have q2 := HO2.out.cell; have f2 := HO2.out.free; have r1 := fun o => (HA2.out.alloc o).cell; have r2 := fun o => (HO2.out.alloc o).cell; have g2 := fun o => (HO2.out.alloc o).free; have hz2 := hb2.size; have B2 : Below w.heap.size w w2 := below_then B1 hb2)
      | (go_at_call 109; refine (HM.out _).mono ?_; rintro e w3 ⟨rfl, hb3⟩; have HO3 := Lib.hid ((HO2.out.alloc _).below hb3); clear q1 q2 f2 r1 r2 g2; obtain ⟨q2, f2⟩ := HO3.out.out; have hz3 := hb3.size; simp only [World.size_alloc] at hz3; have B3 : Below w.heap.size w w3 := below_then (by go_grown) hb3))
        exact bodyPost_ret (v := .tuple #[.agg #[.int .i64 e.seat.p, .int .i64 e.seat.d, .int .i64 e.seat.s, .int .i64 e.seat.h, .int .i64 e.send, .int .i64 e.fault, .int .i64 e.work, .bool e.ch], .int .i64 0]) (by simp [results, Tryd.results69, go_sem, q2, f2]) rfl ⟨rfl, by go_grown⟩
      by_cases k4 : k = 14
      · subst k4
        rw [show gHow 14 0 = 5 from rfl]
        have hM := fun W => gmoved_of ⟨p, d, s0, h0⟩ (c2) (5) (0) W
        obtain ⟨e, he⟩ : ∃ e, e = gMoved ⟨p, d, s0, h0⟩ (c2) (5) (0) := ⟨_, rfl⟩
        rw [← he] at hM ⊢
        dsimp only [seatV, effV] at hM ⊢
        have HM := Lib.hid hM; clear hM he
        go_enter Tryd.func69, Tryd.ntmps69
        go_wp2_with (first
      | (go_at_call 107; refine (HR.out _).mono ?_; rintro e w1 ⟨rfl, hb1⟩; have HA1 := Lib.hid (((Blk.fresh w _ _ _ rfl).alloc _).below hb1); have HO1 := Lib.hid ((Blk.fresh _ _ _ (w.heap.size + 1) (by simp only [World.size_alloc])).below hb1); obtain ⟨q1, f1⟩ := HA1.out.out; obtain ⟨q2, f2⟩ := HO1.out.out; have hz1 := hb1.size; simp only [World.size_alloc] at hz1; have B1 : Below w.heap.size w w1 := below_then (by go_grown) hb1)
      | (go_at_call 108; refine (HL.out _).mono ?_; rintro e w2 ⟨rfl, hb2⟩; have HA2 := Lib.hid (HA1.out.below hb2); have HO2 := Lib.hid (HO1.out.below hb2); clear q1 f1 q2 f2; have q1 := HA2.out.cell; have q2 := HO2.out.cell; have f2 := HO2.out.free; have r1 := fun o => (HA2.out.alloc o).cell; have r2 := fun o => (HO2.out.alloc o).cell; have g2 := fun o => (HO2.out.alloc o).free; have hz2 := hb2.size; have B2 : Below w.heap.size w w2 := below_then B1 hb2)
      | (go_at_call 109; refine (HM.out _).mono ?_; rintro e w3 ⟨rfl, hb3⟩; have HO3 := Lib.hid ((HO2.out.alloc _).below hb3); clear q1 q2 f2 r1 r2 g2; obtain ⟨q2, f2⟩ := HO3.out.out; have hz3 := hb3.size; simp only [World.size_alloc] at hz3; have B3 : Below w.heap.size w w3 := below_then (by go_grown) hb3))
        exact bodyPost_ret (v := .tuple #[.agg #[.int .i64 e.seat.p, .int .i64 e.seat.d, .int .i64 e.seat.s, .int .i64 e.seat.h, .int .i64 e.send, .int .i64 e.fault, .int .i64 e.work, .bool e.ch], .int .i64 0]) (by simp [results, Tryd.results69, go_sem, q2, f2]) rfl ⟨rfl, by go_grown⟩
      rw [show gHow k 0 = 0 by simp [gHow, k2, k3, k4]]
      have l2 : (k == 12) = false := by simpa using k2
      have l3 : (k == 13) = false := by simpa using k3
      have l4 : (k == 14) = false := by simpa using k4
      clear k2 k3 k4
      have hM := fun W => gmoved_of ⟨p, d, s0, h0⟩ (c2) (0) (0) W
      obtain ⟨e, he⟩ : ∃ e, e = gMoved ⟨p, d, s0, h0⟩ (c2) (0) (0) := ⟨_, rfl⟩
      rw [← he] at hM ⊢
      dsimp only [seatV, effV] at hM ⊢
      have HM := Lib.hid hM; clear hM he
      go_enter Tryd.func69, Tryd.ntmps69
      go_wp2_with (first
      | (go_at_call 107; refine (HR.out _).mono ?_; rintro e w1 ⟨rfl, hb1⟩; have HA1 := Lib.hid (((Blk.fresh w _ _ _ rfl).alloc _).below hb1); have HO1 := Lib.hid ((Blk.fresh _ _ _ (w.heap.size + 1) (by simp only [World.size_alloc])).below hb1); obtain ⟨q1, f1⟩ := HA1.out.out; obtain ⟨q2, f2⟩ := HO1.out.out; have hz1 := hb1.size; simp only [World.size_alloc] at hz1; have B1 : Below w.heap.size w w1 := below_then (by go_grown) hb1)
      | (go_at_call 108; refine (HL.out _).mono ?_; rintro e w2 ⟨rfl, hb2⟩; have HA2 := Lib.hid (HA1.out.below hb2); have HO2 := Lib.hid (HO1.out.below hb2); clear q1 f1 q2 f2; have q1 := HA2.out.cell; have q2 := HO2.out.cell; have f2 := HO2.out.free; have r1 := fun o => (HA2.out.alloc o).cell; have r2 := fun o => (HO2.out.alloc o).cell; have g2 := fun o => (HO2.out.alloc o).free; have hz2 := hb2.size; have B2 : Below w.heap.size w w2 := below_then B1 hb2)
      | (go_at_call 109; refine (HM.out _).mono ?_; rintro e w3 ⟨rfl, hb3⟩; have HO3 := Lib.hid ((HO2.out.alloc _).below hb3); clear q1 q2 f2 r1 r2 g2; obtain ⟨q2, f2⟩ := HO3.out.out; have hz3 := hb3.size; simp only [World.size_alloc] at hz3; have B3 : Below w.heap.size w w3 := below_then (by go_grown) hb3))
      exact bodyPost_ret (v := .tuple #[.agg #[.int .i64 e.seat.p, .int .i64 e.seat.d, .int .i64 e.seat.s, .int .i64 e.seat.h, .int .i64 e.send, .int .i64 e.fault, .int .i64 e.work, .bool e.ch], .int .i64 0]) (by simp [results, Tryd.results69, go_sem, q2, f2]) rfl ⟨rfl, by go_grown⟩

set_option maxRecDepth 100000 in
set_option maxHeartbeats 8000000 in
theorem gdo_of (x : MSeat) (k : Int) (w : World) : Calls Tryd.prog 70 #[seatV x, .int .i64 k] w (Makes (.tuple #[effV (gDo x k).1, .int .i64 (gDo x k).2]) w) := by
  obtain ⟨r, hr⟩ : ∃ r, r = mRight x := ⟨_, rfl⟩
  have hR : ∀ W, Calls Tryd.prog 107 #[seatV x] W (Makes (.bool r) W) := fun W => by rw [hr]; exact gright_of x W
  obtain ⟨s, n, hs⟩ : ∃ s n, rStep x.p x.d k x.s = (s, n) := ⟨_, _, rfl⟩
  have hL : ∀ W, Calls Tryd.prog 110 #[.int .i64 x.p, .int .i64 x.d, .int .i64 k, .int .i64 x.s] W (Makes (.tuple #[.int .i64 s, .int .i64 n]) W) := fun W => by
    have := rstep_any x.p x.d k x.s W
    rw [hs] at this; exact this.mono (fun e w' h => ⟨h.1, by rw [← h.2]; exact Below.refl _ _⟩)
  have he : gDo x k = if r = false then (eff0, 4) else if n ≠ 0 then (eff0, n) else (gMoved x s (gHow k k) k, 0) := by
    unfold gDo; rw [← hr, hs]
  rw [he]
  clear he hr hs
  obtain ⟨p, d, s0, h0⟩ := x
  dsimp only [seatV] at *
  have HR := Lib.hid hR; have HL := Lib.hid hL; clear hR hL
  cases r with
  | false =>
    rw [if_pos rfl]
    dsimp only [effV, eff0, seat0]
    go_enter Tryd.func70, Tryd.ntmps70
    go_wp2_with (first
      | (go_at_call 107; refine (HR.out _).mono ?_; rintro e w1 ⟨rfl, hb1⟩; have HA1 := Lib.hid (((Blk.fresh w _ _ _ rfl).alloc _).below hb1); have HO1 := Lib.hid ((Blk.fresh _ _ _ (w.heap.size + 1) (by simp only [World.size_alloc])).below hb1); obtain ⟨q1, f1⟩ := HA1.out.out; obtain ⟨q2, f2⟩ := HO1.out.out; have hz1 := hb1.size; simp only [World.size_alloc] at hz1; have B1 : Below w.heap.size w w1 := below_then (by go_grown) hb1)
      | fail)
    exact bodyPost_ret (v := .tuple #[.agg #[.int .i64 0, .int .i64 0, .int .i64 0, .int .i64 0, .int .i64 0, .int .i64 0, .int .i64 0, .bool false], .int .i64 4]) (by simp [results, Tryd.results70, go_sem, q2, f2]) rfl ⟨rfl, by go_grown⟩
  | true =>
    rw [if_neg (by simp)]
    by_cases hn : n = 0
    case neg =>
      rw [if_pos hn]
      dsimp only [effV, eff0, seat0]
      have hn' : (n != 0) = true := by simpa using hn
      clear hn
      go_enter Tryd.func70, Tryd.ntmps70
      go_wp2_with (first
      | (go_at_call 107; refine (HR.out _).mono ?_; rintro e w1 ⟨rfl, hb1⟩; have HA1 := Lib.hid (((Blk.fresh w _ _ _ rfl).alloc _).below hb1); have HO1 := Lib.hid ((Blk.fresh _ _ _ (w.heap.size + 1) (by simp only [World.size_alloc])).below hb1); obtain ⟨q1, f1⟩ := HA1.out.out; obtain ⟨q2, f2⟩ := HO1.out.out; have hz1 := hb1.size; simp only [World.size_alloc] at hz1; have B1 : Below w.heap.size w w1 := below_then (by go_grown) hb1)
      | (go_at_call 110; refine (HL.out _).mono ?_; rintro e w2 ⟨rfl, hb2⟩; have HA2 := Lib.hid (HA1.out.below hb2); have HO2 := Lib.hid (HO1.out.below hb2); clear q1 f1 q2 f2; have q1 := HA2.out.cell; have q2 := HO2.out.cell; have f2 := HO2.out.free; have hz2 := hb2.size; have B2 : Below w.heap.size w w2 := below_then B1 hb2)
      | (go_at_call 109; refine (HM.out _).mono ?_; rintro e w3 ⟨rfl, hb3⟩; have HO3 := Lib.hid (HO2.out.below hb3); clear q1 q2 f2; obtain ⟨q2, f2⟩ := HO3.out.out; have hz3 := hb3.size; have B3 : Below w.heap.size w w3 := below_then B2 hb3))
      exact bodyPost_ret (v := .tuple #[.agg #[.int .i64 0, .int .i64 0, .int .i64 0, .int .i64 0, .int .i64 0, .int .i64 0, .int .i64 0, .bool false], .int .i64 n]) (by simp [results, Tryd.results70, go_sem, q2, f2]) rfl ⟨rfl, by go_grown⟩
    subst hn
    rw [if_neg (by simp)]
    by_cases k2 : k = 12
    · subst k2
      rw [show gHow 12 12 = 4 from rfl]
      have hM := fun W => gmoved_of ⟨p, d, s0, h0⟩ (s) (4) (12) W
      obtain ⟨e, he⟩ : ∃ e, e = gMoved ⟨p, d, s0, h0⟩ (s) (4) (12) := ⟨_, rfl⟩
      rw [← he] at hM ⊢
      dsimp only [seatV, effV] at hM ⊢
      have HM := Lib.hid hM; clear hM he
      go_enter Tryd.func70, Tryd.ntmps70
      go_wp2_with (first
      | (go_at_call 107; refine (HR.out _).mono ?_; rintro e w1 ⟨rfl, hb1⟩; have HA1 := Lib.hid (((Blk.fresh w _ _ _ rfl).alloc _).below hb1); have HO1 := Lib.hid ((Blk.fresh _ _ _ (w.heap.size + 1) (by simp only [World.size_alloc])).below hb1); obtain ⟨q1, f1⟩ := HA1.out.out; obtain ⟨q2, f2⟩ := HO1.out.out; have hz1 := hb1.size; simp only [World.size_alloc] at hz1; have B1 : Below w.heap.size w w1 := below_then (by go_grown) hb1)
      | (go_at_call 110; refine (HL.out _).mono ?_; rintro e w2 ⟨rfl, hb2⟩; have HA2 := Lib.hid (HA1.out.below hb2); have HO2 := Lib.hid (HO1.out.below hb2); clear q1 f1 q2 f2; have q1 := HA2.out.cell; have q2 := HO2.out.cell; have f2 := HO2.out.free; have hz2 := hb2.size; have B2 : Below w.heap.size w w2 := below_then B1 hb2)
      | (go_at_call 109; refine (HM.out _).mono ?_; rintro e w3 ⟨rfl, hb3⟩; have HO3 := Lib.hid (HO2.out.below hb3); clear q1 q2 f2; obtain ⟨q2, f2⟩ := HO3.out.out; have hz3 := hb3.size; have B3 : Below w.heap.size w w3 := below_then B2 hb3))
      exact bodyPost_ret (v := .tuple #[.agg #[.int .i64 e.seat.p, .int .i64 e.seat.d, .int .i64 e.seat.s, .int .i64 e.seat.h, .int .i64 e.send, .int .i64 e.fault, .int .i64 e.work, .bool e.ch], .int .i64 0]) (by simp [results, Tryd.results70, go_sem, q2, f2]) rfl ⟨rfl, by go_grown⟩
    by_cases k3 : k = 13
    · subst k3
      rw [show gHow 13 13 = 1 from rfl]
      have hM := fun W => gmoved_of ⟨p, d, s0, h0⟩ (s) (1) (13) W
      obtain ⟨e, he⟩ : ∃ e, e = gMoved ⟨p, d, s0, h0⟩ (s) (1) (13) := ⟨_, rfl⟩
      rw [← he] at hM ⊢
      dsimp only [seatV, effV] at hM ⊢
      have HM := Lib.hid hM; clear hM he
      go_enter Tryd.func70, Tryd.ntmps70
      go_wp2_with (first
      | (go_at_call 107; refine (HR.out _).mono ?_; rintro e w1 ⟨rfl, hb1⟩; have HA1 := Lib.hid (((Blk.fresh w _ _ _ rfl).alloc _).below hb1); have HO1 := Lib.hid ((Blk.fresh _ _ _ (w.heap.size + 1) (by simp only [World.size_alloc])).below hb1); obtain ⟨q1, f1⟩ := HA1.out.out; obtain ⟨q2, f2⟩ := HO1.out.out; have hz1 := hb1.size; simp only [World.size_alloc] at hz1; have B1 : Below w.heap.size w w1 := below_then (by go_grown) hb1)
      | (go_at_call 110; refine (HL.out _).mono ?_; rintro e w2 ⟨rfl, hb2⟩; have HA2 := Lib.hid (HA1.out.below hb2); have HO2 := Lib.hid (HO1.out.below hb2); clear q1 f1 q2 f2; have q1 := HA2.out.cell; have q2 := HO2.out.cell; have f2 := HO2.out.free; have hz2 := hb2.size; have B2 : Below w.heap.size w w2 := below_then B1 hb2)
      | (go_at_call 109; refine (HM.out _).mono ?_; rintro e w3 ⟨rfl, hb3⟩; have HO3 := Lib.hid (HO2.out.below hb3); clear q1 q2 f2; obtain ⟨q2, f2⟩ := HO3.out.out; have hz3 := hb3.size; have B3 : Below w.heap.size w w3 := below_then B2 hb3))
      exact bodyPost_ret (v := .tuple #[.agg #[.int .i64 e.seat.p, .int .i64 e.seat.d, .int .i64 e.seat.s, .int .i64 e.seat.h, .int .i64 e.send, .int .i64 e.fault, .int .i64 e.work, .bool e.ch], .int .i64 0]) (by simp [results, Tryd.results70, go_sem, q2, f2]) rfl ⟨rfl, by go_grown⟩
    by_cases k4 : k = 14
    · subst k4
      rw [show gHow 14 14 = 5 from rfl]
      have hM := fun W => gmoved_of ⟨p, d, s0, h0⟩ (s) (5) (14) W
      obtain ⟨e, he⟩ : ∃ e, e = gMoved ⟨p, d, s0, h0⟩ (s) (5) (14) := ⟨_, rfl⟩
      rw [← he] at hM ⊢
      dsimp only [seatV, effV] at hM ⊢
      have HM := Lib.hid hM; clear hM he
      go_enter Tryd.func70, Tryd.ntmps70
      go_wp2_with (first
      | (go_at_call 107; refine (HR.out _).mono ?_; rintro e w1 ⟨rfl, hb1⟩; have HA1 := Lib.hid (((Blk.fresh w _ _ _ rfl).alloc _).below hb1); have HO1 := Lib.hid ((Blk.fresh _ _ _ (w.heap.size + 1) (by simp only [World.size_alloc])).below hb1); obtain ⟨q1, f1⟩ := HA1.out.out; obtain ⟨q2, f2⟩ := HO1.out.out; have hz1 := hb1.size; simp only [World.size_alloc] at hz1; have B1 : Below w.heap.size w w1 := below_then (by go_grown) hb1)
      | (go_at_call 110; refine (HL.out _).mono ?_; rintro e w2 ⟨rfl, hb2⟩; have HA2 := Lib.hid (HA1.out.below hb2); have HO2 := Lib.hid (HO1.out.below hb2); clear q1 f1 q2 f2; have q1 := HA2.out.cell; have q2 := HO2.out.cell; have f2 := HO2.out.free; have hz2 := hb2.size; have B2 : Below w.heap.size w w2 := below_then B1 hb2)
      | (go_at_call 109; refine (HM.out _).mono ?_; rintro e w3 ⟨rfl, hb3⟩; have HO3 := Lib.hid (HO2.out.below hb3); clear q1 q2 f2; obtain ⟨q2, f2⟩ := HO3.out.out; have hz3 := hb3.size; have B3 : Below w.heap.size w w3 := below_then B2 hb3))
      exact bodyPost_ret (v := .tuple #[.agg #[.int .i64 e.seat.p, .int .i64 e.seat.d, .int .i64 e.seat.s, .int .i64 e.seat.h, .int .i64 e.send, .int .i64 e.fault, .int .i64 e.work, .bool e.ch], .int .i64 0]) (by simp [results, Tryd.results70, go_sem, q2, f2]) rfl ⟨rfl, by go_grown⟩
    rw [show gHow k k = k by simp [gHow, k2, k3, k4]]
    have l2 : (k == 12) = false := by simpa using k2
    have l3 : (k == 13) = false := by simpa using k3
    have l4 : (k == 14) = false := by simpa using k4
    clear k2 k3 k4
    have hM := fun W => gmoved_of ⟨p, d, s0, h0⟩ (s) (k) (k) W
    obtain ⟨e, he⟩ : ∃ e, e = gMoved ⟨p, d, s0, h0⟩ (s) (k) (k) := ⟨_, rfl⟩
    rw [← he] at hM ⊢
    dsimp only [seatV, effV] at hM ⊢
    have HM := Lib.hid hM; clear hM he
    go_enter Tryd.func70, Tryd.ntmps70
    go_wp2_with (first
      | (go_at_call 107; refine (HR.out _).mono ?_; rintro e w1 ⟨rfl, hb1⟩; have HA1 := Lib.hid (((Blk.fresh w _ _ _ rfl).alloc _).below hb1); have HO1 := Lib.hid ((Blk.fresh _ _ _ (w.heap.size + 1) (by simp only [World.size_alloc])).below hb1); obtain ⟨q1, f1⟩ := HA1.out.out; obtain ⟨q2, f2⟩ := HO1.out.out; have hz1 := hb1.size; simp only [World.size_alloc] at hz1; have B1 : Below w.heap.size w w1 := below_then (by go_grown) hb1)
      | (go_at_call 110; refine (HL.out _).mono ?_; rintro e w2 ⟨rfl, hb2⟩; have HA2 := Lib.hid (HA1.out.below hb2); have HO2 := Lib.hid (HO1.out.below hb2); clear q1 f1 q2 f2; have q1 := HA2.out.cell; have q2 := HO2.out.cell; have f2 := HO2.out.free; have hz2 := hb2.size; have B2 : Below w.heap.size w w2 := below_then B1 hb2)
      | (go_at_call 109; refine (HM.out _).mono ?_; rintro e w3 ⟨rfl, hb3⟩; have HO3 := Lib.hid (HO2.out.below hb3); clear q1 q2 f2; obtain ⟨q2, f2⟩ := HO3.out.out; have hz3 := hb3.size; have B3 : Below w.heap.size w w3 := below_then B2 hb3))
    exact bodyPost_ret (v := .tuple #[.agg #[.int .i64 e.seat.p, .int .i64 e.seat.d, .int .i64 e.seat.s, .int .i64 e.seat.h, .int .i64 e.send, .int .i64 e.fault, .int .i64 e.work, .bool e.ch], .int .i64 0]) (by simp [results, Tryd.results70, go_sem, q2, f2]) rfl ⟨rfl, by go_grown⟩
end Go.Proofs.YtkidljiffeonjaaDoor
