/- MovesSeats, walked. -/
import Derived.Test.YtkanakhlmmpapaaDoorRows
import Derived.WalkKit
import Derived.WalkSpells
import Derived.WalkLawsBesides
import Derived.BigQuiet
import Derived.Deep.QuietTactic
import Derived.StillTailTactics
import Derived.Handy
import Derived.Lib.Hide
import Derived.Test.YtkanakhlmmpapaaDoorMovS
import Derived.Test.YtkanakhlmmpapaaDoorMovEq
import Derived.Test.YtkanakhlmmpapaaDoorMovM
import Derived.Test.YtkanakhlmmpapaaDoorMovErrs
import Derived.Test.YtkanakhlmmpapaaDoorNum
import Derived.Deep.RegionHeld3
set_option linter.unusedSimpArgs false
set_option linter.unusedVariables false
namespace Go.Proofs.YtkanakhlmmpapaaDoor
open Go.RowKit

set_option maxHeartbeats 1000000 in
theorem same_raw (p d s h a b c : Int) (t : Bool) (w : World) : Calls Tryd.prog 23 #[.agg #[.int .i64 p, .int .i64 d, .int .i64 s, .int .i64 h, .int .i64 a, .int .i64 b, .int .i64 c, .bool t], .agg #[.int .i64 p, .int .i64 d, .int .i64 s, .int .i64 h, .int .i64 a, .int .i64 b, .int .i64 c, .bool t]] w (Makes (.bool true) w) := by
  go_enter Tryd.func23, Tryd.ntmps23
  go_wp2
  all_goals (go_ret; try exact ⟨ret_bool (by simp), by go_grown⟩)

/-- the six variables of the law -/
structure Six (W : World) (p d s h : Int) (a b : Eff) (A2 A5 A6 A8 A10 A12 : Nat) : Prop where
  b2 : Blk W A2 #[.int .i64 p, .int .i64 d, .int .i64 s, .int .i64 h]
  b5 : Blk W A5 #[.int .i64 p, .int .i64 d, .int .i64 s, .int .i64 h]
  b6 : Blk W A6 #[.int .i64 a.seat.p, .int .i64 a.seat.d, .int .i64 a.seat.s, .int .i64 a.seat.h, .int .i64 a.send, .int .i64 a.fault, .int .i64 a.work, .bool a.ch]
  b8 : Blk W A8 #[.int .i64 a.seat.p, .int .i64 a.seat.d, .int .i64 a.seat.s, .int .i64 a.seat.h, .int .i64 a.send, .int .i64 a.fault, .int .i64 a.work, .bool a.ch]
  b10 : Blk W A10 #[.int .i64 b.seat.p, .int .i64 b.seat.d, .int .i64 b.seat.s, .int .i64 b.seat.h, .int .i64 b.send, .int .i64 b.fault, .int .i64 b.work, .bool b.ch]
  b12 : Blk W A12 #[.int .i64 b.seat.p, .int .i64 b.seat.d, .int .i64 b.seat.s, .int .i64 b.seat.h, .int .i64 b.send, .int .i64 b.fault, .int .i64 b.work, .bool b.ch]
theorem Six.below {W W' : World} {p d s h : Int} {a b : Eff} {A2 A5 A6 A8 A10 A12 : Nat} (h0 : Six W p d s h a b A2 A5 A6 A8 A10 A12) (hb : Below W.heap.size W W') : Six W' p d s h a b A2 A5 A6 A8 A10 A12 :=
  ⟨h0.b2.below hb, h0.b5.below hb, h0.b6.below hb, h0.b8.below hb, h0.b10.below hb, h0.b12.below hb⟩
theorem num_n (n : Int) (hn : 0 ≤ n ∧ n ≤ 14) (ea : Int → Addr) (w : World) (h : Errs ea w) : Calls Tryd.prog 24 #[errOf ea n] w (Makes (.int .i64 n) w) := by
  by_cases h0 : n = 0
  · subst h0; exact num_nil w
  · rw [errOf, if_neg h0]; exact num_some n (by omega) ea w h
theorem code_le (x : MSeat) (k : Int) : (0 ≤ (mTell x k).2 ∧ (mTell x k).2 ≤ 14) ∧ (0 ≤ (mDo x k).2 ∧ (mDo x k).2 ≤ 14) := by
  constructor
  · unfold mTell
    split
    · simp
    split
    · simp
    split
    · simp
    split
    · simp
    split <;> simp
  · unfold mDo
    split
    · simp
    split
    · unfold rStep
      split
      · simp
      split
      · simp
      split
      · simp
      split <;> simp
    · simp

set_option maxRecDepth 100000 in
set_option maxHeartbeats 8000000 in
theorem law_seats (x : MSeat) (k : Int) (ea : Int → Addr) (w : World) (hEs : Errs ea w) : Calls Tryd.prog 6 #[seatV x, .int .i64 k] w (Makes (.bool true) w) := by
  have hE := hEs.five
  have hq := eq_any x k
  have hcl := code_le x k
  obtain ⟨a, n1, ha⟩ : ∃ a n1, mTell x k = (a, n1) := ⟨_, _, rfl⟩
  obtain ⟨b, n2, hb⟩ : ∃ b n2, mDo x k = (b, n2) := ⟨_, _, rfl⟩
  have T1 := fun W hW => tell_of x k ea W hW
  have T2 := fun W => gtell_of x k W
  have D1 := fun W hW h9 => do_of x k ea W hW h9
  have D2 := fun W => gdo_of x k W
  rw [ha] at hcl hq T1
  rw [hb] at hcl hq D1
  rw [← hq.1] at T2
  rw [← hq.2] at D2
  have HCL := Lib.hid hcl
  have R1 := fun W hW => right_of x ea W hW
  have R2 := fun W => gright_of x W
  have W1 := fun W hW => work_of x ea W hW
  have W2 : ∀ W, Calls Tryd.prog 28 #[seatV x] W (Makes (.int .i64 (gWork x)) W) := fun W => (gwork_of x W).mono (fun e w' h => ⟨h.1, by rw [h.2]; exact (Below.refl _ _).alloc (Nat.le_refl _) _⟩)
  have W3 := fun W hW => mwaits_of x ea W hW
  have hwr : mRight x = true → mWork x = gWork x := fun h => by
    unfold mWork gWork; rw [h]
    by_cases hd : x.d = 2
    · rw [if_neg (by simp [hd]), if_pos hd]; rfl
    · rw [if_pos (.inr hd), if_neg hd]
  have hw0 : mRight x = false → mWork x = 0 ∧ mWaits x = 0 := fun h => ⟨by unfold mWork; rw [if_pos (.inl h)], by unfold mWaits; rw [if_pos h]⟩
  obtain ⟨r, hr⟩ : ∃ r, r = mRight x := ⟨_, rfl⟩
  obtain ⟨wk1, hwk1⟩ : ∃ u, u = mWork x := ⟨_, rfl⟩
  obtain ⟨wk2, hwk2⟩ : ∃ u, u = gWork x := ⟨_, rfl⟩
  obtain ⟨wt1, hwt1⟩ : ∃ u, u = mWaits x := ⟨_, rfl⟩
  rw [← hr] at hwr hw0
  rw [← hwk1, ← hwk2] at hwr
  rw [← hwk1, ← hwt1] at hw0
  simp only [← hr] at R1 R2
  simp only [← hwk1] at W1
  simp only [← hwk2] at W2
  simp only [← hwt1] at W3
  clear ha hb hq hcl hr hwk1 hwk2 hwt1
  obtain ⟨p, d, s, h⟩ := x
  dsimp only [seatV, effV] at *
  have HT1 := Lib.hid T1; have HT2 := Lib.hid T2; have HD1 := Lib.hid D1; have HD2 := Lib.hid D2; have HR1 := Lib.hid R1; have HR2 := Lib.hid R2; have HW1 := Lib.hid W1; have HW2 := Lib.hid W2; have HW3 := Lib.hid W3
  have HWR := Lib.hid hwr; have HW0 := Lib.hid hw0
  clear T1 T2 D1 D2 R1 R2 W1 W2 W3 hwr hw0
  have NR := Lib.hid (fun n (hn : n = n1 ∨ n = n2) W hW => num_n n (by rcases hn with rfl | rfl; exact HCL.out.1; exact HCL.out.2) ea W hW)
  clear HCL
  go_enter Tryd.func6, Tryd.ntmps6
  go_wp2_with fail
  have Z0 : Below w.heap.size w (w.alloc (.cells #[.int .i64 p, .int .i64 d, .int .i64 s, .int .i64 h] 32)) := (Below.refl _ _).alloc (Nat.le_refl _) _
  refine (alive11 ea _ (hE.below Z0)).mono ?_
  rintro e w1 ⟨rfl, hb1⟩
  have B1 : Below w.heap.size w w1 := below_then Z0 hb1
  have K2 := (Blk.fresh w #[.int .i64 p, .int .i64 d, .int .i64 s, .int .i64 h] 32 _ rfl).below hb1
  have q2 := K2.cell; have r2 := fun o => (K2.alloc o).cell; have hl2 := K2.lt
  go_wp2_with fail
  have Z1 := B1.alloc B1.size (.cells #[.int .i64 p, .int .i64 d, .int .i64 s, .int .i64 h] 48)
  refine (HT1.out _ (hE.below Z1).e).mono ?_
  rintro e w2 ⟨rfl, hb2⟩
  have B2 := below_then Z1 hb2
  have K2a := (K2.alloc _).below hb2
  have K5 := (Blk.fresh w1 #[.int .i64 p, .int .i64 d, .int .i64 s, .int .i64 h] 48 _ rfl).below hb2
  clear q2 r2 hl2
  have q2 := K2a.cell; have q5 := K5.cell; have r2 := fun o => (K2a.alloc o).cell; have r5 := fun o => (K5.alloc o).cell
  go_wp2_with fail
  have Z2 := B2.alloc B2.size (.cells #[.int .i64 a.seat.p, .int .i64 a.seat.d, .int .i64 a.seat.s, .int .i64 a.seat.h, .int .i64 a.send, .int .i64 a.fault, .int .i64 a.work, .bool a.ch] 34)
  refine (HT2.out _).mono ?_
  rintro e w3 ⟨rfl, hb3⟩
  have B3 := below_then Z2 hb3
  have K2b := (K2a.alloc _).below hb3
  have K5b := (K5.alloc _).below hb3
  have K6 := (Blk.fresh w2 #[.int .i64 a.seat.p, .int .i64 a.seat.d, .int .i64 a.seat.s, .int .i64 a.seat.h, .int .i64 a.send, .int .i64 a.fault, .int .i64 a.work, .bool a.ch] 34 _ rfl).below hb3
  clear q2 q5 r2 r5
  have q2 := K2b.cell; have r2 := fun o => (K2b.alloc o).cell
  go_wp2_with fail
  have Z3 := B3.alloc B3.size (.cells #[.int .i64 a.seat.p, .int .i64 a.seat.d, .int .i64 a.seat.s, .int .i64 a.seat.h, .int .i64 a.send, .int .i64 a.fault, .int .i64 a.work, .bool a.ch] 51)
  refine (HD1.out _ (hE.below Z3).e (hE.below Z3).e9).mono ?_
  rintro e w4 ⟨rfl, hb4⟩
  have B4 := below_then Z3 hb4
  have K2c := (K2b.alloc _).below hb4
  have K5c := (K5b.alloc _).below hb4
  have K6c := (K6.alloc _).below hb4
  have K8 := (Blk.fresh w3 #[.int .i64 a.seat.p, .int .i64 a.seat.d, .int .i64 a.seat.s, .int .i64 a.seat.h, .int .i64 a.send, .int .i64 a.fault, .int .i64 a.work, .bool a.ch] 51 _ rfl).below hb4
  clear q2 r2
  have q5 := K5c.cell; have r5 := fun o => (K5c.alloc o).cell
  go_wp2_with fail
  have Z4 := B4.alloc B4.size (.cells #[.int .i64 b.seat.p, .int .i64 b.seat.d, .int .i64 b.seat.s, .int .i64 b.seat.h, .int .i64 b.send, .int .i64 b.fault, .int .i64 b.work, .bool b.ch] 34)
  refine (HD2.out _).mono ?_
  rintro e w5 ⟨rfl, hb5⟩
  have B5 := below_then Z4 hb5
  have Z5 := B5.alloc B5.size (.cells #[.int .i64 b.seat.p, .int .i64 b.seat.d, .int .i64 b.seat.s, .int .i64 b.seat.h, .int .i64 b.send, .int .i64 b.fault, .int .i64 b.work, .bool b.ch] 51)
  have HK := Lib.hid (Six.mk ((K2c.alloc (.cells #[.int .i64 b.seat.p, .int .i64 b.seat.d, .int .i64 b.seat.s, .int .i64 b.seat.h, .int .i64 b.send, .int .i64 b.fault, .int .i64 b.work, .bool b.ch] 34)).below hb5 |>.alloc (.cells #[.int .i64 b.seat.p, .int .i64 b.seat.d, .int .i64 b.seat.s, .int .i64 b.seat.h, .int .i64 b.send, .int .i64 b.fault, .int .i64 b.work, .bool b.ch] 51)) ((K5c.alloc (.cells #[.int .i64 b.seat.p, .int .i64 b.seat.d, .int .i64 b.seat.s, .int .i64 b.seat.h, .int .i64 b.send, .int .i64 b.fault, .int .i64 b.work, .bool b.ch] 34)).below hb5 |>.alloc (.cells #[.int .i64 b.seat.p, .int .i64 b.seat.d, .int .i64 b.seat.s, .int .i64 b.seat.h, .int .i64 b.send, .int .i64 b.fault, .int .i64 b.work, .bool b.ch] 51)) ((K6c.alloc (.cells #[.int .i64 b.seat.p, .int .i64 b.seat.d, .int .i64 b.seat.s, .int .i64 b.seat.h, .int .i64 b.send, .int .i64 b.fault, .int .i64 b.work, .bool b.ch] 34)).below hb5 |>.alloc (.cells #[.int .i64 b.seat.p, .int .i64 b.seat.d, .int .i64 b.seat.s, .int .i64 b.seat.h, .int .i64 b.send, .int .i64 b.fault, .int .i64 b.work, .bool b.ch] 51)) ((K8.alloc (.cells #[.int .i64 b.seat.p, .int .i64 b.seat.d, .int .i64 b.seat.s, .int .i64 b.seat.h, .int .i64 b.send, .int .i64 b.fault, .int .i64 b.work, .bool b.ch] 34)).below hb5 |>.alloc (.cells #[.int .i64 b.seat.p, .int .i64 b.seat.d, .int .i64 b.seat.s, .int .i64 b.seat.h, .int .i64 b.send, .int .i64 b.fault, .int .i64 b.work, .bool b.ch] 51)) ((Blk.fresh w4 #[.int .i64 b.seat.p, .int .i64 b.seat.d, .int .i64 b.seat.s, .int .i64 b.seat.h, .int .i64 b.send, .int .i64 b.fault, .int .i64 b.work, .bool b.ch] 34 _ rfl).below hb5 |>.alloc (.cells #[.int .i64 b.seat.p, .int .i64 b.seat.d, .int .i64 b.seat.s, .int .i64 b.seat.h, .int .i64 b.send, .int .i64 b.fault, .int .i64 b.work, .bool b.ch] 51)) (Blk.fresh w5 #[.int .i64 b.seat.p, .int .i64 b.seat.d, .int .i64 b.seat.s, .int .i64 b.seat.h, .int .i64 b.send, .int .i64 b.fault, .int .i64 b.work, .bool b.ch] 51 _ rfl))
  clear q5 r5 K2 K2a K2b K2c K5 K5b K5c K6 K6c K8 hb1 hb2 hb3 hb4 hb5
  go_wp2_with fail
  have HK : Hid (Six (World.drew (w5.alloc (.cells #[.int .i64 b.seat.p, .int .i64 b.seat.d, .int .i64 b.seat.s, .int .i64 b.seat.h, .int .i64 b.send, .int .i64 b.fault, .int .i64 b.work, .bool b.ch] 51))) p d s h a b w.heap.size w1.heap.size w2.heap.size w3.heap.size w4.heap.size w5.heap.size) := Lib.hid (HK.out.below ((Below.refl _ _).drew))
  have HBW := Z5.drew
  have q2 := HK.out.b2.cell; have q5 := HK.out.b5.cell; have q6 := HK.out.b6.cell; have q8 := HK.out.b8.cell; have q10 := HK.out.b10.cell; have q12 := HK.out.b12.cell
  go_region_held3 (fun w' => w'.cell? ⟨w2.heap.size, 0, none⟩ = some (.int .i64 a.seat.p) ∧ w'.cell? ⟨w2.heap.size, 1, none⟩ = some (.int .i64 a.seat.d) ∧ w'.cell? ⟨w2.heap.size, 2, none⟩ = some (.int .i64 a.seat.s) ∧ w'.cell? ⟨w2.heap.size, 3, none⟩ = some (.int .i64 a.seat.h) ∧ w'.cell? ⟨w2.heap.size, 4, none⟩ = some (.int .i64 a.send) ∧ w'.cell? ⟨w2.heap.size, 5, none⟩ = some (.int .i64 a.fault) ∧ w'.cell? ⟨w2.heap.size, 6, none⟩ = some (.int .i64 a.work) ∧ w'.cell? ⟨w2.heap.size, 7, none⟩ = some (.bool a.ch) ∧ w'.cell? ⟨w3.heap.size, 0, none⟩ = some (.int .i64 a.seat.p) ∧ w'.cell? ⟨w3.heap.size, 1, none⟩ = some (.int .i64 a.seat.d) ∧ w'.cell? ⟨w3.heap.size, 2, none⟩ = some (.int .i64 a.seat.s) ∧ w'.cell? ⟨w3.heap.size, 3, none⟩ = some (.int .i64 a.seat.h) ∧ w'.cell? ⟨w3.heap.size, 4, none⟩ = some (.int .i64 a.send) ∧ w'.cell? ⟨w3.heap.size, 5, none⟩ = some (.int .i64 a.fault) ∧ w'.cell? ⟨w3.heap.size, 6, none⟩ = some (.int .i64 a.work) ∧ w'.cell? ⟨w3.heap.size, 7, none⟩ = some (.bool a.ch) ∧ w'.cell? ⟨w4.heap.size, 0, none⟩ = some (.int .i64 b.seat.p) ∧ w'.cell? ⟨w4.heap.size, 1, none⟩ = some (.int .i64 b.seat.d) ∧ w'.cell? ⟨w4.heap.size, 2, none⟩ = some (.int .i64 b.seat.s) ∧ w'.cell? ⟨w4.heap.size, 3, none⟩ = some (.int .i64 b.seat.h) ∧ w'.cell? ⟨w4.heap.size, 4, none⟩ = some (.int .i64 b.send) ∧ w'.cell? ⟨w4.heap.size, 5, none⟩ = some (.int .i64 b.fault) ∧ w'.cell? ⟨w4.heap.size, 6, none⟩ = some (.int .i64 b.work) ∧ w'.cell? ⟨w4.heap.size, 7, none⟩ = some (.bool b.ch) ∧ w'.cell? ⟨w5.heap.size, 0, none⟩ = some (.int .i64 b.seat.p) ∧ w'.cell? ⟨w5.heap.size, 1, none⟩ = some (.int .i64 b.seat.d) ∧ w'.cell? ⟨w5.heap.size, 2, none⟩ = some (.int .i64 b.seat.s) ∧ w'.cell? ⟨w5.heap.size, 3, none⟩ = some (.int .i64 b.seat.h) ∧ w'.cell? ⟨w5.heap.size, 4, none⟩ = some (.int .i64 b.send) ∧ w'.cell? ⟨w5.heap.size, 5, none⟩ = some (.int .i64 b.fault) ∧ w'.cell? ⟨w5.heap.size, 6, none⟩ = some (.int .i64 b.work) ∧ w'.cell? ⟨w5.heap.size, 7, none⟩ = some (.bool b.ch) ∧ w'.cell? ⟨w.heap.size, 0, none⟩ = some (.int .i64 p) ∧ w'.cell? ⟨w.heap.size, 1, none⟩ = some (.int .i64 d) ∧ w'.cell? ⟨w.heap.size, 2, none⟩ = some (.int .i64 s) ∧ w'.cell? ⟨w.heap.size, 3, none⟩ = some (.int .i64 h) ∧ w'.cell? ⟨w1.heap.size, 0, none⟩ = some (.int .i64 p) ∧ w'.cell? ⟨w1.heap.size, 1, none⟩ = some (.int .i64 d) ∧ w'.cell? ⟨w1.heap.size, 2, none⟩ = some (.int .i64 s) ∧ w'.cell? ⟨w1.heap.size, 3, none⟩ = some (.int .i64 h))
    (first | exact ⟨q6 0, q6 1, q6 2, q6 3, q6 4, q6 5, q6 6, q6 7, q8 0, q8 1, q8 2, q8 3, q8 4, q8 5, q8 6, q8 7, q10 0, q10 1, q10 2, q10 3, q10 4, q10 5, q10 6, q10 7, q12 0, q12 1, q12 2, q12 3, q12 4, q12 5, q12 6, q12 7, q2 0, q2 1, q2 2, q2 3, q5 0, q5 1, q5 2, q5 3⟩ | go_keep)
    (first
      | (go_at_call 23; refine (same_raw _ _ _ _ _ _ _ _ _).mono ?_; rintro e w9 ⟨rfl, hb9⟩; have HK := Lib.hid (HK.out.below hb9); have HBW := below_then HBW hb9; clear q2 q5 q6 q8 q10 q12; have q2 := HK.out.b2.cell; have q5 := HK.out.b5.cell; have q6 := HK.out.b6.cell; have q8 := HK.out.b8.cell; have q10 := HK.out.b10.cell; have q12 := HK.out.b12.cell)
      | (go_at_call 24; refine (NR.out _ (by simp) _ (hEs.below HBW)).mono ?_; rintro e w9 ⟨rfl, hb9⟩; have HK := Lib.hid (HK.out.below hb9); have HBW := below_then HBW hb9; clear q2 q5 q6 q8 q10 q12; have q2 := HK.out.b2.cell; have q5 := HK.out.b5.cell; have q6 := HK.out.b6.cell; have q8 := HK.out.b8.cell; have q10 := HK.out.b10.cell; have q12 := HK.out.b12.cell)
      | (go_at_call 25; refine (HR1.out _ (hE.below HBW).e).mono ?_; rintro e w9 ⟨rfl, hb9⟩; have HK := Lib.hid (HK.out.below hb9); have HBW := below_then HBW hb9; clear q2 q5 q6 q8 q10 q12; have q2 := HK.out.b2.cell; have q5 := HK.out.b5.cell; have q6 := HK.out.b6.cell; have q8 := HK.out.b8.cell; have q10 := HK.out.b10.cell; have q12 := HK.out.b12.cell)
      | (go_at_call 26; refine (HR2.out _).mono ?_; rintro e w9 ⟨rfl, hb9⟩; have HK := Lib.hid (HK.out.below hb9); have HBW := below_then HBW hb9; clear q2 q5 q6 q8 q10 q12; have q2 := HK.out.b2.cell; have q5 := HK.out.b5.cell; have q6 := HK.out.b6.cell; have q8 := HK.out.b8.cell; have q10 := HK.out.b10.cell; have q12 := HK.out.b12.cell))
  clear q6 q8 q10 q12
  go_wp2_with fail
  refine (HR2.out _).mono ?_
  rintro e w9 ⟨rfl, hb9⟩
  have HK := Lib.hid (HK.out.below hb9); have HBW := below_then HBW hb9; clear q2 q5; have q2 := HK.out.b2.cell; have q5 := HK.out.b5.cell
  cases r with
  | false =>
    obtain ⟨z1, z2⟩ := HW0.out rfl
    subst z1 z2
    clear HWR HW0
    go_wp2_with fail
    refine (HW1.out _ (hE.below HBW).e).mono ?_
    rintro e w9 ⟨rfl, hb9⟩
    have HK := Lib.hid (HK.out.below hb9); have HBW := below_then HBW hb9; clear q2 q5; have q2 := HK.out.b2.cell; have q5 := HK.out.b5.cell
    go_wp2_with fail
    refine (HW3.out _ (hE.below HBW).e).mono ?_
    rintro e w9 ⟨rfl, hb9⟩
    have HBW := below_then HBW hb9
    clear q2 q5
    go_wp2_with fail
    go_ret
    exact ⟨ret_bool (by simp), HBW⟩
  | true =>
    have z1 := HWR.out rfl
    subst z1
    clear HWR HW0
    go_wp2_with fail
    have HKd := Lib.hid (HK.out.below ((Below.refl _ _).drew))
    clear q2 q5
    have q2 := HKd.out.b2.cell; have q5 := HKd.out.b5.cell
    have HBD := HBW.drew
    have l2 := HKd.out.b2.lt; have l5 := HKd.out.b5.lt
    go_region_held3 (fun w' => w'.cell? ⟨w.heap.size, 0, none⟩ = some (.int .i64 p) ∧ w'.cell? ⟨w.heap.size, 1, none⟩ = some (.int .i64 d) ∧ w'.cell? ⟨w.heap.size, 2, none⟩ = some (.int .i64 s) ∧ w'.cell? ⟨w.heap.size, 3, none⟩ = some (.int .i64 h) ∧ w'.cell? ⟨w1.heap.size, 0, none⟩ = some (.int .i64 p) ∧ w'.cell? ⟨w1.heap.size, 1, none⟩ = some (.int .i64 d) ∧ w'.cell? ⟨w1.heap.size, 2, none⟩ = some (.int .i64 s) ∧ w'.cell? ⟨w1.heap.size, 3, none⟩ = some (.int .i64 h))
      (first | exact ⟨q2 0, q2 1, q2 2, q2 3, q5 0, q5 1, q5 2, q5 3⟩ | go_keep | ((repeat' apply And.intro) <;> go_keep))
      (first
        | (go_at_call 16; refine (HW1.out _ (hE.below (by go_grown)).e).mono ?_; rintro e w9 ⟨rfl, hb9⟩; have HKx := Lib.hid ((HKd.out.below (by go_grown)).below hb9); have HBX : Below w.heap.size w w9 := below_then (by go_grown) hb9; clear q2 q5; have q2 := HKx.out.b2.cell; have q5 := HKx.out.b5.cell)
        | (go_at_call 28; refine (HW2.out _).mono ?_; rintro e w9 ⟨rfl, hb9⟩; have HKx := Lib.hid ((HKd.out.below (by go_grown)).below hb9); have HBX : Below w.heap.size w w9 := below_then (by go_grown) hb9; clear q2 q5; have q2 := HKx.out.b2.cell; have q5 := HKx.out.b5.cell))
    all_goals go_wp2
    all_goals go_ret
    all_goals exact ⟨ret_bool (by simp), HBX⟩
end Go.Proofs.YtkanakhlmmpapaaDoor
