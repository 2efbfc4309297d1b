/- The walks of package moves: what comes of a kind that a seat is told. -/
import Derived.Test.YtkidljiffeonjaaDoorRows
import Derived.WalkKit
import Derived.WalkSpells
import Derived.WalkLawsBesides
import Derived.BigQuiet
import Derived.Deep.QuietTactic
import Derived.StillTailTactics
import Derived.Handy
import Derived.Lib.Hide
import Derived.Test.YtkidljiffeonjaaDoorMovC
set_option linter.unusedSimpArgs false
set_option linter.unusedVariables false
namespace Go.Proofs.YtkidljiffeonjaaDoor
open Go.RowKit

set_option maxRecDepth 100000 in
set_option maxHeartbeats 4000000 in
theorem tell_of (x : MSeat) (k : Int) (ea : Int → Addr) (w : World) (h : Err3 ea w) : Calls Tryd.prog 105 #[seatV x, .int .i64 k] w (Makes (.tuple #[effV (mTell x k).1, errOf ea (mTell x k).2]) w) := by
  have k0 : w.cell? ⟨0, 0, none⟩ = some (errV (ea 4)) := h.e4
  have hg0 : 0 < w.heap.size := World.block_lt_of_cell? _ _ k0
  clear k0
  have H := Lib.hid h; clear h
  obtain ⟨r, hr⟩ : ∃ r, r = mRight x := ⟨_, rfl⟩
  have hR : ∀ W, Err3 ea W → Calls Tryd.prog 17 #[seatV x] W (Makes (.bool r) W) := fun W hw => by
    have := right_of x ea W hw
    rw [← hr] at this; exact this
  obtain ⟨c1, c2, c3, n, hs⟩ : ∃ c1 c2 c3 n, rLook x.p x.d k x.s = ((c1, c2, c3), n) := ⟨_, _, _, _, rfl⟩
  have hL : ∀ W, Err3 ea W → Calls Tryd.prog 131 #[.int .i64 x.p, .int .i64 x.d, .int .i64 k, .int .i64 x.s] W (Makes (.tuple #[.agg #[.int .i64 c1, .int .i64 c2, .int .i64 c3], errOf ea n]) W) := fun W hw => by
    have := look_any x.p x.d k x.s ea W hw
    rw [hs] at this; exact this
  have he : mTell x k = if r = false then (eff0, 4) else if n ≠ 0 then (⟨x, 0, 2, 0, false⟩, 0) else if c1 = 4 then (⟨x, 0, 1, 0, false⟩, 0) else if c1 = 3 then (⟨x, c3, 0, 0, false⟩, 0) else if c1 = 1 then (mGone x k c2, 0) else (⟨x, 0, 0, 0, false⟩, 0) := by
    unfold mTell; rw [← hr, hs]
  rw [he]
  clear he hr hs
  have hgo := fun W hW => gone_of x k c2 ea W hW
  obtain ⟨e, he⟩ : ∃ e, e = mGone x k c2 := ⟨_, rfl⟩
  simp only [← he] at hgo ⊢
  clear he
  obtain ⟨p, d, s0, h4⟩ := x
  dsimp only [seatV, effV] at *
  have HR := Lib.hid hR; have HL := Lib.hid hL; have HG := Lib.hid hgo; clear hR hL hgo
  cases r with
  | false =>
    rw [if_pos rfl]
    dsimp only [eff0, seat0]
    rw [show errOf ea 4 = errV (ea 4) from rfl]
    go_enter Tryd.func105, Tryd.ntmps105
    go_wp2_with (first
    | (go_at_call 17; refine (HR.out _ (H.out.below (by go_grown))).mono ?_; rintro e w1 ⟨rfl, hb1⟩; have HA1 := Lib.hid (((Blk.fresh w _ _ _ rfl).alloc _).below hb1); have HO1 := Lib.hid ((Blk.fresh _ _ _ (w.heap.size + 1) (by simp only [World.size_alloc])).below hb1); obtain ⟨q1, f1⟩ := HA1.out.out; obtain ⟨q2, f2⟩ := HO1.out.out; have r1 := fun o => (HA1.out.alloc o).cell; have hz1 := hb1.size; simp only [World.size_alloc] at hz1; have B1 : Below w.heap.size w w1 := below_then (by go_grown) hb1; have k4 : w1.cell? ⟨0, 0, none⟩ = some (errV (ea 4)) := (H.out.below B1).e4)
    | fail)
    go_region
    all_goals go_wp2
    all_goals exact bodyPost_ret (v := .tuple #[.agg #[.int .i64 0, .int .i64 0, .int .i64 0, .int .i64 0, .int .i64 0, .int .i64 0, .int .i64 0, .bool false], errV (ea 4)]) (by simp [results, Tryd.results105, go_sem, q2, f2]) rfl ⟨rfl, by go_grown⟩
  | true =>
    rw [if_neg (by simp)]
    by_cases hn : n = 0
    · subst hn
      rw [if_neg (by simp)]
      simp only [errOf, if_true] at HL ⊢
      by_cases h4' : c1 = 4
      · subst h4'
        rw [if_pos rfl]
        dsimp only
        go_enter Tryd.func105, Tryd.ntmps105; go_wp2_with (first
    | (go_at_call 17; refine (HR.out _ (H.out.below (by go_grown))).mono ?_; rintro e w1 ⟨rfl, hb1⟩; have HA1 := Lib.hid (((Blk.fresh w _ _ _ rfl).alloc _).below hb1); have HO1 := Lib.hid ((Blk.fresh _ _ _ (w.heap.size + 1) (by simp only [World.size_alloc])).below hb1); obtain ⟨q1, f1⟩ := HA1.out.out; obtain ⟨q2, f2⟩ := HO1.out.out; have r1 := fun o => (HA1.out.alloc o).cell; have hz1 := hb1.size; simp only [World.size_alloc] at hz1; have B1 : Below w.heap.size w w1 := below_then (by go_grown) hb1; have k4 : w1.cell? ⟨0, 0, none⟩ = some (errV (ea 4)) := (H.out.below B1).e4)
    | (go_at_call 131; refine (HL.out _ (H.out.below (by go_grown))).mono ?_; rintro e w2 ⟨rfl, hb2⟩; have HO2 := Lib.hid ((HO1.out.alloc _).below hb2); have HA2 := Lib.hid ((HA1.out.alloc _).below hb2); have HU2 := Lib.hid ((Blk.fresh w1 _ _ _ rfl).below hb2); clear q1 f1 q2 f2 r1; obtain ⟨q1, f1⟩ := HA2.out.out; obtain ⟨q2, f2⟩ := HO2.out.out; obtain ⟨q3, f3⟩ := HU2.out.out; have r1 := fun o => (HA2.out.alloc o).cell; have r2 := fun o => (HO2.out.alloc o).cell; have g2 := fun o => (HO2.out.alloc o).free; have r3 := fun o => (HU2.out.alloc o).cell; have g3 := fun o => (HU2.out.alloc o).free; have hz2 := hb2.size; simp only [World.size_alloc] at hz2; have B2 : Below w.heap.size w w2 := below_then (by go_grown) hb2)| (go_at_call 132; refine (HG.out _ (H.out.below (by go_grown))).mono ?_; rintro e w3 ⟨rfl, hb3⟩; have HO3 := Lib.hid ((HO2.out.alloc _).below hb3); clear q1 f1 q2 f2 q3 f3 r1 r2 g2 r3 g3; obtain ⟨q2, f2⟩ := HO3.out.out; have hz3 := hb3.size; simp only [World.size_alloc] at hz3; have B3 : Below w.heap.size w w3 := below_then (by go_grown) hb3))
        exact bodyPost_ret (v := .tuple #[.agg #[.int .i64 p, .int .i64 d, .int .i64 s0, .int .i64 h4, .int .i64 0, .int .i64 1, .int .i64 0, .bool false], .nilIface]) (by simp [results, Tryd.results105, go_sem, q2, f2, q3, f3, r2, g2, r3, g3]) rfl ⟨rfl, by go_grown⟩
      rw [if_neg h4']
      have t4 : (c1 == 4) = false := by simpa using h4'
      by_cases h3' : c1 = 3
      · subst h3'
        rw [if_pos rfl]
        dsimp only
        clear t4 h4'
        go_enter Tryd.func105, Tryd.ntmps105; go_wp2_with (first
    | (go_at_call 17; refine (HR.out _ (H.out.below (by go_grown))).mono ?_; rintro e w1 ⟨rfl, hb1⟩; have HA1 := Lib.hid (((Blk.fresh w _ _ _ rfl).alloc _).below hb1); have HO1 := Lib.hid ((Blk.fresh _ _ _ (w.heap.size + 1) (by simp only [World.size_alloc])).below hb1); obtain ⟨q1, f1⟩ := HA1.out.out; obtain ⟨q2, f2⟩ := HO1.out.out; have r1 := fun o => (HA1.out.alloc o).cell; have hz1 := hb1.size; simp only [World.size_alloc] at hz1; have B1 : Below w.heap.size w w1 := below_then (by go_grown) hb1; have k4 : w1.cell? ⟨0, 0, none⟩ = some (errV (ea 4)) := (H.out.below B1).e4)
    | (go_at_call 131; refine (HL.out _ (H.out.below (by go_grown))).mono ?_; rintro e w2 ⟨rfl, hb2⟩; have HO2 := Lib.hid ((HO1.out.alloc _).below hb2); have HA2 := Lib.hid ((HA1.out.alloc _).below hb2); have HU2 := Lib.hid ((Blk.fresh w1 _ _ _ rfl).below hb2); clear q1 f1 q2 f2 r1; obtain ⟨q1, f1⟩ := HA2.out.out; obtain ⟨q2, f2⟩ := HO2.out.out; obtain ⟨q3, f3⟩ := HU2.out.out; have r1 := fun o => (HA2.out.alloc o).cell; have r2 := fun o => (HO2.out.alloc o).cell; have g2 := fun o => (HO2.out.alloc o).free; have r3 := fun o => (HU2.out.alloc o).cell; have g3 := fun o => (HU2.out.alloc o).free; have hz2 := hb2.size; simp only [World.size_alloc] at hz2; have B2 : Below w.heap.size w w2 := below_then (by go_grown) hb2)| (go_at_call 132; refine (HG.out _ (H.out.below (by go_grown))).mono ?_; rintro e w3 ⟨rfl, hb3⟩; have HO3 := Lib.hid ((HO2.out.alloc _).below hb3); clear q1 f1 q2 f2 q3 f3 r1 r2 g2 r3 g3; obtain ⟨q2, f2⟩ := HO3.out.out; have hz3 := hb3.size; simp only [World.size_alloc] at hz3; have B3 : Below w.heap.size w w3 := below_then (by go_grown) hb3))
        exact bodyPost_ret (v := .tuple #[.agg #[.int .i64 p, .int .i64 d, .int .i64 s0, .int .i64 h4, .int .i64 c3, .int .i64 0, .int .i64 0, .bool false], .nilIface]) (by simp [results, Tryd.results105, go_sem, q2, f2, q3, f3, r2, g2, r3, g3]) rfl ⟨rfl, by go_grown⟩
      rw [if_neg h3']
      have t3 : (c1 == 3) = false := by simpa using h3'
      by_cases h1' : c1 = 1
      · subst h1'
        rw [if_pos rfl]
        dsimp only
        clear t4 h4' t3 h3'
        go_enter Tryd.func105, Tryd.ntmps105; go_wp2_with (first
    | (go_at_call 17; refine (HR.out _ (H.out.below (by go_grown))).mono ?_; rintro e w1 ⟨rfl, hb1⟩; have HA1 := Lib.hid (((Blk.fresh w _ _ _ rfl).alloc _).below hb1); have HO1 := Lib.hid ((Blk.fresh _ _ _ (w.heap.size + 1) (by simp only [World.size_alloc])).below hb1); obtain ⟨q1, f1⟩ := HA1.out.out; obtain ⟨q2, f2⟩ := HO1.out.out; have r1 := fun o => (HA1.out.alloc o).cell; have hz1 := hb1.size; simp only [World.size_alloc] at hz1; have B1 : Below w.heap.size w w1 := below_then (by go_grown) hb1; have k4 : w1.cell? ⟨0, 0, none⟩ = some (errV (ea 4)) := (H.out.below B1).e4)
    | (go_at_call 131; refine (HL.out _ (H.out.below (by go_grown))).mono ?_; rintro e w2 ⟨rfl, hb2⟩; have HO2 := Lib.hid ((HO1.out.alloc _).below hb2); have HA2 := Lib.hid ((HA1.out.alloc _).below hb2); have HU2 := Lib.hid ((Blk.fresh w1 _ _ _ rfl).below hb2); clear q1 f1 q2 f2 r1; obtain ⟨q1, f1⟩ := HA2.out.out; obtain ⟨q2, f2⟩ := HO2.out.out; obtain ⟨q3, f3⟩ := HU2.out.out; have r1 := fun o => (HA2.out.alloc o).cell; have r2 := fun o => (HO2.out.alloc o).cell; have g2 := fun o => (HO2.out.alloc o).free; have r3 := fun o => (HU2.out.alloc o).cell; have g3 := fun o => (HU2.out.alloc o).free; have hz2 := hb2.size; simp only [World.size_alloc] at hz2; have B2 : Below w.heap.size w w2 := below_then (by go_grown) hb2)| (go_at_call 132; refine (HG.out _ (H.out.below (by go_grown))).mono ?_; rintro e w3 ⟨rfl, hb3⟩; have HO3 := Lib.hid ((HO2.out.alloc _).below hb3); clear q1 f1 q2 f2 q3 f3 r1 r2 g2 r3 g3; obtain ⟨q2, f2⟩ := HO3.out.out; have hz3 := hb3.size; simp only [World.size_alloc] at hz3; have B3 : Below w.heap.size w w3 := below_then (by go_grown) hb3))
        exact bodyPost_ret (v := .tuple #[.agg #[.int .i64 e.seat.p, .int .i64 e.seat.d, .int .i64 e.seat.s, .int .i64 e.seat.h, .int .i64 e.send, .int .i64 e.fault, .int .i64 e.work, .bool e.ch], .nilIface]) (by simp [results, Tryd.results105, go_sem, q2, f2]) rfl ⟨rfl, by go_grown⟩
      · rw [if_neg h1']
        have t1 : (c1 == 1) = false := by simpa using h1'
        dsimp only
        clear h4' h3' h1'
        go_enter Tryd.func105, Tryd.ntmps105; go_wp2_with (first
    | (go_at_call 17; refine (HR.out _ (H.out.below (by go_grown))).mono ?_; rintro e w1 ⟨rfl, hb1⟩; have HA1 := Lib.hid (((Blk.fresh w _ _ _ rfl).alloc _).below hb1); have HO1 := Lib.hid ((Blk.fresh _ _ _ (w.heap.size + 1) (by simp only [World.size_alloc])).below hb1); obtain ⟨q1, f1⟩ := HA1.out.out; obtain ⟨q2, f2⟩ := HO1.out.out; have r1 := fun o => (HA1.out.alloc o).cell; have hz1 := hb1.size; simp only [World.size_alloc] at hz1; have B1 : Below w.heap.size w w1 := below_then (by go_grown) hb1; have k4 : w1.cell? ⟨0, 0, none⟩ = some (errV (ea 4)) := (H.out.below B1).e4)
    | (go_at_call 131; refine (HL.out _ (H.out.below (by go_grown))).mono ?_; rintro e w2 ⟨rfl, hb2⟩; have HO2 := Lib.hid ((HO1.out.alloc _).below hb2); have HA2 := Lib.hid ((HA1.out.alloc _).below hb2); have HU2 := Lib.hid ((Blk.fresh w1 _ _ _ rfl).below hb2); clear q1 f1 q2 f2 r1; obtain ⟨q1, f1⟩ := HA2.out.out; obtain ⟨q2, f2⟩ := HO2.out.out; obtain ⟨q3, f3⟩ := HU2.out.out; have r1 := fun o => (HA2.out.alloc o).cell; have r2 := fun o => (HO2.out.alloc o).cell; have g2 := fun o => (HO2.out.alloc o).free; have r3 := fun o => (HU2.out.alloc o).cell; have g3 := fun o => (HU2.out.alloc o).free; have hz2 := hb2.size; simp only [World.size_alloc] at hz2; have B2 : Below w.heap.size w w2 := below_then (by go_grown) hb2)| (go_at_call 132; refine (HG.out _ (H.out.below (by go_grown))).mono ?_; rintro e w3 ⟨rfl, hb3⟩; have HO3 := Lib.hid ((HO2.out.alloc _).below hb3); clear q1 f1 q2 f2 q3 f3 r1 r2 g2 r3 g3; obtain ⟨q2, f2⟩ := HO3.out.out; have hz3 := hb3.size; simp only [World.size_alloc] at hz3; have B3 : Below w.heap.size w w3 := below_then (by go_grown) hb3))
        exact bodyPost_ret (v := .tuple #[.agg #[.int .i64 p, .int .i64 d, .int .i64 s0, .int .i64 h4, .int .i64 0, .int .i64 0, .int .i64 0, .bool false], .nilIface]) (by simp [results, Tryd.results105, go_sem, q2, f2, q3, f3, r2, g2, r3, g3]) rfl ⟨rfl, by go_grown⟩
    · rw [if_pos hn]
      dsimp only
      simp only [errOf, if_neg hn] at HL
      rw [show errOf ea 0 = .nilIface from rfl]
      go_enter Tryd.func105, Tryd.ntmps105; go_wp2_with (first
    | (go_at_call 17; refine (HR.out _ (H.out.below (by go_grown))).mono ?_; rintro e w1 ⟨rfl, hb1⟩; have HA1 := Lib.hid (((Blk.fresh w _ _ _ rfl).alloc _).below hb1); have HO1 := Lib.hid ((Blk.fresh _ _ _ (w.heap.size + 1) (by simp only [World.size_alloc])).below hb1); obtain ⟨q1, f1⟩ := HA1.out.out; obtain ⟨q2, f2⟩ := HO1.out.out; have r1 := fun o => (HA1.out.alloc o).cell; have hz1 := hb1.size; simp only [World.size_alloc] at hz1; have B1 : Below w.heap.size w w1 := below_then (by go_grown) hb1; have k4 : w1.cell? ⟨0, 0, none⟩ = some (errV (ea 4)) := (H.out.below B1).e4)
    | (go_at_call 131; refine (HL.out _ (H.out.below (by go_grown))).mono ?_; rintro e w2 ⟨rfl, hb2⟩; have HO2 := Lib.hid ((HO1.out.alloc _).below hb2); have HA2 := Lib.hid ((HA1.out.alloc _).below hb2); have HU2 := Lib.hid ((Blk.fresh w1 _ _ _ rfl).below hb2); clear q1 f1 q2 f2 r1; obtain ⟨q1, f1⟩ := HA2.out.out; obtain ⟨q2, f2⟩ := HO2.out.out; obtain ⟨q3, f3⟩ := HU2.out.out; have r1 := fun o => (HA2.out.alloc o).cell; have r2 := fun o => (HO2.out.alloc o).cell; have g2 := fun o => (HO2.out.alloc o).free; have r3 := fun o => (HU2.out.alloc o).cell; have g3 := fun o => (HU2.out.alloc o).free; have hz2 := hb2.size; simp only [World.size_alloc] at hz2; have B2 : Below w.heap.size w w2 := below_then (by go_grown) hb2)| (go_at_call 132; refine (HG.out _ (H.out.below (by go_grown))).mono ?_; rintro e w3 ⟨rfl, hb3⟩; have HO3 := Lib.hid ((HO2.out.alloc _).below hb3); clear q1 f1 q2 f2 q3 f3 r1 r2 g2 r3 g3; obtain ⟨q2, f2⟩ := HO3.out.out; have hz3 := hb3.size; simp only [World.size_alloc] at hz3; have B3 : Below w.heap.size w w3 := below_then (by go_grown) hb3))
      exact bodyPost_ret (v := .tuple #[.agg #[.int .i64 p, .int .i64 d, .int .i64 s0, .int .i64 h4, .int .i64 0, .int .i64 2, .int .i64 0, .bool false], .nilIface]) (by simp [results, Tryd.results105, go_sem, q2, f2, q3, f3, r2, g2, r3, g3]) rfl ⟨rfl, by go_grown⟩
end Go.Proofs.YtkidljiffeonjaaDoor
