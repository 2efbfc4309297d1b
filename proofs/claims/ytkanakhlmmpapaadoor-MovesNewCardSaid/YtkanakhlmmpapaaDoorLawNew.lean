/- MovesNew, walked. -/
import Derived.Test.YtkanakhlmmpapaaDoorRows
import Derived.WalkKit
import Derived.WalkSpells
import Derived.WalkLawsBesides
import Derived.BigQuiet
import Derived.Deep.QuietTactic
import Derived.StillTailTactics
import Derived.Handy
import Derived.Lib.Hide
import Derived.Test.YtkanakhlmmpapaaDoorLawSafe
import Derived.Test.YtkanakhlmmpapaaDoorNum
import Derived.Test.YtkanakhlmmpapaaDoorMovErrs
set_option linter.unusedSimpArgs false
set_option linter.unusedVariables false
namespace Go.Proofs.YtkanakhlmmpapaaDoor
open Go.RowKit

/-- what a seat waits with, told the other one twice -/
def okNew (r : GRow) (d : Int) : Bool :=
  decide (mWaits (r.seat d) = 0) || (decide ((mTell (r.seat (3 - d)) (mWaits (r.seat d))).2 = 0) && decide ((mTell (mTell (r.seat (3 - d)) (mWaits (r.seat d))).1.seat (mWaits (r.seat d))).2 = 0)
    && !(mTell (mTell (r.seat (3 - d)) (mWaits (r.seat d))).1.seat (mWaits (r.seat d))).1.ch && decide ((mTell (mTell (r.seat (3 - d)) (mWaits (r.seat d))).1.seat (mWaits (r.seat d))).1.seat = (mTell (r.seat (3 - d)) (mWaits (r.seat d))).1.seat)
    && decide ((mTell (mTell (r.seat (3 - d)) (mWaits (r.seat d))).1.seat (mWaits (r.seat d))).1.work = 0))
set_option maxRecDepth 100000 in
theorem new_all : goodL.all (fun r => okNew r 1 && okNew r 2) = true := by decide +kernel
theorem Good.new2 {P : MPair} (h : Good P) (d : Int) (hd : d = 1 ∨ d = 2) (k : Int) (hk : k = mWaits (P.seat d)) (h0 : k ≠ 0) :
    ∃ a b : Eff, mTell (P.seat (3 - d)) k = (a, 0) ∧ mTell a.seat k = (b, 0) ∧ b.ch = false ∧ b.seat = a.seat ∧ b.work = 0 := by
  obtain ⟨r, hr, hF⟩ := h
  have h1 := List.all_eq_true.1 new_all r hr
  simp only [Bool.and_eq_true] at h1
  have h2 : okNew r d = true := by rcases hd with rfl | rfl; exact h1.1; exact h1.2
  unfold okNew at h2
  rw [hF.seat, hF.seat, ← hk] at h2
  simp only [Bool.or_eq_true, Bool.and_eq_true, decide_eq_true_eq, Bool.not_eq_true'] at h2
  rcases h2 with h2 | ⟨⟨⟨⟨a1, a2⟩, a3⟩, a4⟩, a5⟩
  · exact absurd h2 h0
  · exact ⟨(mTell (P.seat (3 - d)) k).1, (mTell (mTell (P.seat (3 - d)) k).1.seat k).1, by rw [← a1], by rw [← a2], a3, a4, a5⟩

set_option maxRecDepth 100000 in
set_option maxHeartbeats 8000000 in
theorem law_new (p d : Int) (v0 : Value) (ops : List MOp) (ea : Int → Addr) (w : World) (hEs : Errs ea w) (hR : ReadOps w v0 ops) : Calls Tryd.prog 7 #[.int .i64 p, .int .i64 d, v0] w (Makes (.bool true) w) := by
  have hE := hEs.five
  obtain ⟨a, cap, rfl, hcells⟩ := hR
  obtain ⟨n, hn⟩ : ∃ n, n = ops.length := ⟨_, rfl⟩
  rw [← hn]
  have HC := Lib.hid hcells; clear hcells
  have HN := Lib.hid hn; clear hn
  by_cases hbig : (100 : Int) < (n : Int)
  · go_enter Tryd.func7, Tryd.ntmps7
    go_wp2_with (go_at_call 9; refine (alive11 ea _ hE).mono ?_; rintro e w1 ⟨rfl, hb1⟩)
    go_ret
    exact ⟨rfl, hb1⟩
  by_cases hs : rSide p d = true
  · have hpd : (p = 1 ∨ p = 2) ∧ (d = 1 ∨ d = 2) := by simp only [rSide, decide_eq_true_eq] at hs; omega
    obtain ⟨hp, hd⟩ := hpd
    have hx : mRight ⟨p, d, 1, 0⟩ = true ∧ mWork ⟨p, d, 1, 0⟩ = 0 ∧ mWaits ⟨p, d, 1, 0⟩ = 0 := by rcases hp with rfl | rfl <;> rcases hd with rfl | rfl <;> decide
    have R1 := Lib.hid (fun W hW => by have := right_of ⟨p, d, 1, 0⟩ ea W hW; rw [hx.1] at this; exact this : ∀ W, Err3 ea W → Calls Tryd.prog 25 #[.agg #[.int .i64 p, .int .i64 d, .int .i64 1, .int .i64 0]] W (Makes (.bool true) W))
    have R2 := Lib.hid (fun W hW => by have := work_of ⟨p, d, 1, 0⟩ ea W hW; rw [hx.2.1] at this; exact this : ∀ W, Err3 ea W → Calls Tryd.prog 16 #[.agg #[.int .i64 p, .int .i64 d, .int .i64 1, .int .i64 0]] W (Makes (.int .i64 0) W))
    have R3 := Lib.hid (fun W hW => by have := mwaits_of ⟨p, d, 1, 0⟩ ea W hW; rw [hx.2.2] at this; exact this : ∀ W, Err3 ea W → Calls Tryd.prog 27 #[.agg #[.int .i64 p, .int .i64 d, .int .i64 1, .int .i64 0]] W (Makes (.int .i64 0) W))
    have n1 : 1 ≤ p ∧ p ≤ 2 ∧ 1 ≤ d ∧ d ≤ 2 := by omega
    obtain ⟨n1, n2, n3, n4⟩ := n1
    have HS := Lib.hid hs; clear hs hx
    have HD := Lib.hid hd; have HP := Lib.hid hp; clear hd hp
    go_enter Tryd.func7, Tryd.ntmps7
    go_wp2_with fail
    refine (alive11 ea _ hE).mono ?_
    rintro e w1 ⟨rfl, hb1⟩
    go_wp2_with fail
    refine (new_yes p d w1 HS.out).mono ?_
    rintro e w2 ⟨rfl, hb2⟩
    have B2 := below_then hb1 hb2
    have B2' := B2.alloc B2.size (.cells #[.int .i64 p, .int .i64 d, .int .i64 1, .int .i64 0] 32)
    go_wp2_with fail
    refine (R1.out _ (hE.below B2').e).mono ?_
    rintro e w3 ⟨rfl, hb3⟩
    have B3 := below_then B2' hb3
    have K3 := (Blk.fresh w2 #[.int .i64 p, .int .i64 d, .int .i64 1, .int .i64 0] 32 _ rfl).below hb3
    have q3 := K3.cell
    go_wp2_with fail
    refine (R2.out _ (hE.below B3).e).mono ?_
    rintro e w4 ⟨rfl, hb4⟩
    have B4 := below_then B3 hb4
    have K4 := K3.below hb4
    have q4 := K4.cell
    clear q3
    go_wp2_with fail
    refine (R3.out _ (hE.below B4).e).mono ?_
    rintro e w5 ⟨rfl, hb5⟩
    have B5 := below_then B4 hb5
    clear q4 K3 K4
    go_wp2_with fail
    refine (newPair_yes p HP.out w5).mono ?_
    rintro e w6 ⟨g, v, rfl, hP, hb6⟩
    have HP2 := Lib.hid hP; clear hP
    have B6 := below_then B5 hb6
    go_wp2_with fail
    go_loopw [82] (fun i wr => ∃ k P v, k ≤ n ∧ i = .int .i64 (k : Nat) ∧ Ok P ∧ PairIn w5.heap.size g v P wr ∧ Below w5.heap.size w5 wr) (fun i _ => n - (intOf i).toNat)
    case atStart => exact ⟨0, newPair p, v, by omega, by go_num, Ok.new HP.out, HP2.out, hb6⟩
    case round =>
      obtain ⟨k, P, v, hk, rfl, hO, hP, hB⟩ := hrel
      have HPr := Lib.hid hP; clear hP
      have OK := Lib.hid hO; clear hO
      have hB0 : Below w.heap.size w wr := below_then B5 hB
      by_cases hlt : k < n
      · have hlo : k < ops.length := by rw [← HN.out]; exact hlt
        obtain ⟨b, off, rfl, hbl, hops⟩ := HC.out (by intro e; rw [e] at hlo; simp at hlo)
        obtain ⟨o, ho⟩ : ∃ o, o = ops[k] := ⟨_, rfl⟩
        have hoa := (hops k hlo).below hB0 hbl
        rw [← ho] at hoa
        obtain ⟨a0, a1, a2, a3, a4⟩ := hoa
        clear hops ho hlo
        have hki : (k : Int) < (n : Int) := by omega
        have hk0 : (0 : Int) ≤ (k : Int) := by omega
        have hz0 := hB0.size; have hzB := hB.size
        go_wp2_with fail
        refine (ldo_of w5.heap.size g v P o ea _ (hE.below (by go_grown)) (HPr.out.rel (by go_grown)) OK.out (by simp only [World.size_alloc]; omega)).mono ?_
        rintro e w7 ⟨rfl, v2, hP3, hs3, hf3⟩
        have hB3 : Below w5.heap.size w5 w7 := ((hB.alloc hB.size _).trans (hs3.below (HPr.out.rel (by go_grown))))
        have HP3 := Lib.hid hP3; clear hP3 hs3 hf3 a0 a1 a2 a3 a4 hB
        have OK2 := Lib.hid (OK.out.step o)
        go_wp2_with fail
        all_goals (go_roundw <;> first | exact ⟨k + 1, _, v2, by omega, by go_num, OK2.out, HP3.out, hB3⟩ | (simp [intOf]; omega))
      · obtain rfl : k = n := by omega
        obtain ⟨x, hx⟩ : ∃ x, x = P.seat d := ⟨_, rfl⟩
        obtain ⟨y, hy⟩ : ∃ y, y = P.seat (3 - d) := ⟨_, rfl⟩
        have hdm : mSide d = true := by simp only [mSide, decide_eq_true_eq]; exact HD.out
        have hdm3 : mSide (3 - d) = true := by simp only [mSide, decide_eq_true_eq]; have := HD.out; omega
        have S1 := Lib.hid (fun W h => by have := seat_of w5.heap.size g v P d W h; rw [if_pos hdm, ← hx] at this; exact this : ∀ W, PairIn w5.heap.size g v P W → Calls Tryd.prog 12 #[.pointer (some ⟨g, 0, none⟩), .int .i64 d] W (Makes (seatV x) W))
        have S2 := Lib.hid (fun W h => by have := seat_of w5.heap.size g v P (3 - d) W h; rw [if_pos hdm3, ← hy] at this; exact this : ∀ W, PairIn w5.heap.size g v P W → Calls Tryd.prog 12 #[.pointer (some ⟨g, 0, none⟩), .int .i64 (3 - d)] W (Makes (seatV y) W))
        have W1 := Lib.hid (fun W hW => mwaits_of x ea W hW)
        obtain ⟨kk, hkk⟩ : ∃ kk, kk = mWaits x := ⟨_, rfl⟩
        rw [← hkk] at W1
        by_cases h0 : kk = 0
        · subst h0
          clear hkk hx hy hdm hdm3
          go_wp2_with fail
          refine (S1.out _ HPr.out).mono ?_
          rintro e w7 ⟨rfl, hb7⟩
          have B7 := below_then hB0 hb7
          go_wp2_with fail
          refine (W1.out _ (hE.below B7).e).mono ?_
          rintro e w8 ⟨rfl, hb8⟩
          have B8 := below_then B7 hb8
          go_wp2_with fail
          go_ret
          exact ⟨rfl, B8⟩
        · obtain ⟨ea1, eb1, t1, t2, t3, t4, t5⟩ := OK.out.good.new2 d HD.out kk (by rw [hkk, hx]) h0
          rw [← hy] at t1
          have T1 := Lib.hid (fun W hW => by have := tell_of y kk ea W hW; rw [t1] at this; exact this : ∀ W, Err3 ea W → Calls Tryd.prog 19 #[seatV y, .int .i64 kk] W (Makes (.tuple #[effV ea1, .nilIface]) W))
          have T2 := Lib.hid (fun W hW => by have := tell_of ea1.seat kk ea W hW; rw [t2] at this; exact this : ∀ W, Err3 ea W → Calls Tryd.prog 19 #[seatV ea1.seat, .int .i64 kk] W (Makes (.tuple #[effV eb1, .nilIface]) W))
          obtain ⟨bs, bsend, bf, bw, bch⟩ := eb1
          dsimp only at t3 t4 t5
          subst t3 t4 t5
          have h0' : (kk == 0) = false := by simpa using h0
          have hw3 : IntKind.i64.wrap (3 - d) = 3 - d := IntWalk.i64_in _ (by omega)
          clear t1 t2 hkk hx hy hdm hdm3 h0
          dsimp only [seatV, effV] at *
          go_wp2_with fail
          refine (S1.out _ HPr.out).mono ?_
          rintro e w7 ⟨rfl, hb7⟩
          have B7 := below_then hB0 hb7
          have P7 := Lib.hid (HPr.out.rel hb7)
          go_wp2_with fail
          refine (W1.out _ (hE.below B7).e).mono ?_
          rintro e w8 ⟨rfl, hb8⟩
          have B8 := below_then B7 hb8
          have P8 := Lib.hid (P7.out.rel hb8)
          go_wp2_with fail
          refine (S2.out _ P8.out).mono ?_
          rintro e w9 ⟨rfl, hb9⟩
          have B9 := below_then B8 hb9
          have B9' := B9.alloc B9.size (.cells #[.int .i64 y.p, .int .i64 y.d, .int .i64 y.s, .int .i64 y.h] 32)
          go_wp2_with fail
          refine (T1.out _ (hE.below B9').e).mono ?_
          rintro e w10 ⟨rfl, hb10⟩
          have B10 := below_then B9' hb10
          have B10' := B10.alloc B10.size (.cells #[.int .i64 ea1.seat.p, .int .i64 ea1.seat.d, .int .i64 ea1.seat.s, .int .i64 ea1.seat.h, .int .i64 ea1.send, .int .i64 ea1.fault, .int .i64 ea1.work, .bool ea1.ch] 34)
          go_wp2_with fail
          refine (T2.out _ (hE.below B10').e).mono ?_
          rintro e w11 ⟨rfl, hb11⟩
          have B11 := below_then B10' hb11
          have K := (Blk.fresh w10 #[.int .i64 ea1.seat.p, .int .i64 ea1.seat.d, .int .i64 ea1.seat.s, .int .i64 ea1.seat.h, .int .i64 ea1.send, .int .i64 ea1.fault, .int .i64 ea1.work, .bool ea1.ch] 34 _ rfl).below hb11
          have q11 := K.cell
          have r11 := fun o => (K.alloc o).cell
          have hkl := K.lt; have hz11 := B11.size
          go_wp2_with fail
          go_ret
          exact ⟨ret_bool (by simp), by go_grown⟩
  · have n1 : ¬ (1 ≤ p ∧ p ≤ 2 ∧ 1 ≤ d ∧ d ≤ 2) := by simpa only [rSide, decide_eq_true_eq] using hs
    have hs' : rSide p d = false := by simpa using hs
    have HS := Lib.hid hs'; clear hs hs'
    have hN := Lib.hid (fun W hW => num_some 14 (by omega) ea W hW)
    by_cases m1 : p < 1
    · go_enter Tryd.func7, Tryd.ntmps7; go_wp2_with fail; refine (alive11 ea _ hE).mono ?_; rintro e w1 ⟨rfl, hb1⟩; go_wp2_with fail; refine (new_no p d (ea 14) w1 (hE.below hb1).e.e14 HS.out).mono ?_; rintro e w2 ⟨rfl, hb2⟩; have B2 := below_then hb1 hb2; have B2' := B2.alloc B2.size (.cells #[.int .i64 0, .int .i64 0, .int .i64 0, .int .i64 0] 32); go_wp2_with fail; refine (hN.out _ (hEs.below B2')).mono ?_; rintro e w3 ⟨rfl, hb3⟩; have B3 := below_then B2' hb3; go_wp2_with fail; go_ret; exact ⟨ret_bool (by simp), B3⟩
    by_cases m2 : 2 < p
    · go_enter Tryd.func7, Tryd.ntmps7; go_wp2_with fail; refine (alive11 ea _ hE).mono ?_; rintro e w1 ⟨rfl, hb1⟩; go_wp2_with fail; refine (new_no p d (ea 14) w1 (hE.below hb1).e.e14 HS.out).mono ?_; rintro e w2 ⟨rfl, hb2⟩; have B2 := below_then hb1 hb2; have B2' := B2.alloc B2.size (.cells #[.int .i64 0, .int .i64 0, .int .i64 0, .int .i64 0] 32); go_wp2_with fail; refine (hN.out _ (hEs.below B2')).mono ?_; rintro e w3 ⟨rfl, hb3⟩; have B3 := below_then B2' hb3; go_wp2_with fail; go_ret; exact ⟨ret_bool (by simp), B3⟩
    by_cases m3 : d < 1
    · go_enter Tryd.func7, Tryd.ntmps7; go_wp2_with fail; refine (alive11 ea _ hE).mono ?_; rintro e w1 ⟨rfl, hb1⟩; go_wp2_with fail; refine (new_no p d (ea 14) w1 (hE.below hb1).e.e14 HS.out).mono ?_; rintro e w2 ⟨rfl, hb2⟩; have B2 := below_then hb1 hb2; have B2' := B2.alloc B2.size (.cells #[.int .i64 0, .int .i64 0, .int .i64 0, .int .i64 0] 32); go_wp2_with fail; refine (hN.out _ (hEs.below B2')).mono ?_; rintro e w3 ⟨rfl, hb3⟩; have B3 := below_then B2' hb3; go_wp2_with fail; go_ret; exact ⟨ret_bool (by simp), B3⟩
    have m4 : 2 < d := by omega
    go_enter Tryd.func7, Tryd.ntmps7; go_wp2_with fail; refine (alive11 ea _ hE).mono ?_; rintro e w1 ⟨rfl, hb1⟩; go_wp2_with fail; refine (new_no p d (ea 14) w1 (hE.below hb1).e.e14 HS.out).mono ?_; rintro e w2 ⟨rfl, hb2⟩; have B2 := below_then hb1 hb2; have B2' := B2.alloc B2.size (.cells #[.int .i64 0, .int .i64 0, .int .i64 0, .int .i64 0] 32); go_wp2_with fail; refine (hN.out _ (hEs.below B2')).mono ?_; rintro e w3 ⟨rfl, hb3⟩; have B3 := below_then B2' hb3; go_wp2_with fail; go_ret; exact ⟨ret_bool (by simp), B3⟩
end Go.Proofs.YtkanakhlmmpapaaDoor
