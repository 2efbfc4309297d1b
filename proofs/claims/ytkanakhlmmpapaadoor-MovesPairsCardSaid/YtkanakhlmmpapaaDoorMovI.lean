/- A pair in memory: a side does a kind. -/
import Derived.Test.YtkanakhlmmpapaaDoorRows
import Derived.WalkKit
import Derived.WalkSpells
import Derived.WalkLawsBesides
import Derived.BigQuiet
import Derived.Deep.QuietTactic
import Derived.StillTailTactics
import Derived.Handy
import Derived.Lib.Hide
import Derived.Test.YtkanakhlmmpapaaDoorMovH
set_option linter.unusedSimpArgs false
set_option linter.unusedVariables false
namespace Go.Proofs.YtkanakhlmmpapaaDoor
open Go.RowKit

/-- the errors that a pair may answer -/
structure Err5 (ea : Int → Addr) (w : World) : Prop where
  e : Err3 ea w
  e6 : ErrIs w 1 (ea 6)
  e9 : ErrIs w 8 (ea 9)
theorem Err5.below {ea : Int → Addr} {w w' : World} (h : Err5 ea w) (hb : Below w.heap.size w w') : Err5 ea w' := ⟨h.e.below hb, h.e6.below hb, h.e9.below hb⟩
theorem PairGoes.after {B g : Nat} {v : Value} {P : MPair} {w W w' : World} (hb : Beside w W g v) (h : PairGoes B g v P W w') : PairGoes B g v P w w' := by
  obtain ⟨v', h1, h2, h3⟩ := h
  exact ⟨v', h1, hb.trans h2 (.inl rfl), FreshOr.trans (.inl rfl) h3 hb.size⟩
theorem PairGoes.same {B g : Nat} {v : Value} {P : MPair} {w w' : World} (h : PairIn B g v P w) (hb : Below w.heap.size w w') : PairGoes B g v P w w' := ⟨v, h.rel hb, Beside.of_below hb g v, .inl rfl⟩

set_option maxRecDepth 100000 in
set_option maxHeartbeats 4000000 in
theorem pdo_of (B g : Nat) (v : Value) (P : MPair) (d k : Int) (ea : Int → Addr) (w : World) (hE : Err5 ea w) (h : PairIn B g v P w) (hl : P.fl.length ≤ 1000) (hB : B ≤ w.heap.size) :
    Calls Tryd.prog 17 #[.pointer (some ⟨g, 0, none⟩), .int .i64 d, .int .i64 k] w fun e w' => e = .returned (errOf ea (mPDo P d k).2) ∧ PairGoes B g v (mPDo P d k).1 w w' := by
  have he : ∀ (p : Prop) [Decidable p] (a b : MPair × Int), (if p then a else b).2 = (if p then a.2 else b.2) := fun p _ a b => by split <;> rfl
  have he' : ∀ (p : Prop) [Decidable p] (a b : MPair × Int), (if p then a else b).1 = (if p then a.1 else b.1) := fun p _ a b => by split <;> rfl
  clear he he'
  unfold mPDo
  by_cases hd1 : d = 1
  · -- side 1
    subst hd1
    have hms : mSide 1 = true := by decide
    rw [if_neg (by rw [hms]; simp)]
    by_cases hf : mFull P = true
    · rw [if_pos hf]
      have hF := full_of B g v P w h hl
      rw [hf] at hF
      have hS := isSide_of 1 w
      rw [hms] at hS
      have k6 : w.cell? ⟨1, 0, none⟩ = some (errV (ea 6)) := hE.e6
      have H := Lib.hid h; have HS := Lib.hid hS; have HF := Lib.hid hF; clear h hS hF hms hf
      rw [show errOf ea 6 = errV (ea 6) from rfl]
      go_enter Tryd.func17, Tryd.ntmps17
      go_wp2_with (first
        | (go_at_call 33; refine (HS.out).mono ?_; rintro e w1 ⟨rfl, rfl⟩)
        | (go_at_call 35; refine (HF.out).mono ?_; rintro e w1 ⟨rfl, rfl⟩))
      go_ret
      exact ⟨rfl, v, H.out, Beside.of_below (Below.refl _ _) g v, .inl rfl⟩
    · rw [if_neg hf]
      have hf' : mFull P = false := by simpa using hf
      have hF := full_of B g v P w h hl
      rw [hf'] at hF
      have hS := isSide_of 1 w
      rw [hms] at hS
      obtain ⟨n, hn⟩ : ∃ n, n = (mDo (P.seat 1) k).2 := ⟨_, rfl⟩
      obtain ⟨e, he⟩ : ∃ e, e = (mDo (P.seat 1) k).1 := ⟨_, rfl⟩
      have hD := do_of (P.seat 1) k ea w hE.e hE.e9
      rw [← hn, ← he] at hD
      rw [← hn, ← he]
      have hx : P.seat 1 = P.c := rfl
      rw [hx] at hD
      have hset : P.set 1 e.seat = ⟨e.seat, P.x, P.fl⟩ := rfl
      rw [hset]
      have q1 := h.blk.cell
      have H := Lib.hid h; have HS := Lib.hid hS; have HF := Lib.hid hF; clear h hS hF hms hf hf' hn he hx hset
      obtain ⟨c, x, fl⟩ := P
      dsimp only at q1 H hl
      dsimp only [seatV, effV] at hD
      by_cases h0 : n = 0
      · subst h0
        rw [if_neg (by simp)]
        simp only [errOf, if_true] at hD ⊢
        have HD := Lib.hid hD; clear hD
        go_enter Tryd.func17, Tryd.ntmps17
        go_wp2_with (first
          | (go_at_call 33; refine (HS.out).mono ?_; rintro e w1 ⟨rfl, rfl⟩)
          | (go_at_call 35; refine (HF.out).mono ?_; rintro e w1 ⟨rfl, rfl⟩)
          | (go_at_call 21; refine (HD.out).mono ?_; rintro e w1 ⟨rfl, hb1⟩; clear q1; have HC := Lib.hid (H.out.rel hb1); have q1 := HC.out.blk.cell; have f1 := HC.out.blk.free; have hz1 := hb1.size; have hgl := HC.out.blk.lt))
        go_region
        all_goals (go_wp2_with (go_at_call 37; refine (put_of B g v ⟨e.seat, x, fl⟩ 1 e.send _ (((HC.out.seat1 e.seat).rel ((Below.refl _ _).alloc (Nat.le_refl _) _)).rel (Below.refl _ _).drew) hl (by decide) ?_).mono ?_; (simp [putSeat]; omega); rintro e w2 ⟨rfl, hg2⟩; have HG := Lib.hid (PairGoes.after ((((Beside.of_below hb1 g v).seat _ _).alloc _).drew) hg2)))
        all_goals go_ret
        all_goals exact ⟨rfl, HG.out⟩
      · rw [if_pos h0]
        simp only [errOf, if_neg h0] at hD ⊢
        have HD := Lib.hid hD; clear hD
        go_enter Tryd.func17, Tryd.ntmps17
        go_wp2_with (first
          | (go_at_call 33; refine (HS.out).mono ?_; rintro e w1 ⟨rfl, rfl⟩)
          | (go_at_call 35; refine (HF.out).mono ?_; rintro e w1 ⟨rfl, rfl⟩)
          | (go_at_call 21; refine (HD.out).mono ?_; rintro e w1 ⟨rfl, hb1⟩; clear q1))
        go_ret
        have hb2 := (Below.alloc hb1 hb1.size (.cells #[.int .i64 e.seat.p, .int .i64 e.seat.d, .int .i64 e.seat.s, .int .i64 e.seat.h, .int .i64 e.send, .int .i64 e.fault, .int .i64 e.work, .bool e.ch] 34))
        exact ⟨rfl, v, H.out.rel hb2, Beside.of_below hb2 g v, .inl rfl⟩
  by_cases hd2 : d = 2
  · -- side 2
    subst hd2
    have hms : mSide 2 = true := by decide
    rw [if_neg (by rw [hms]; simp)]
    by_cases hf : mFull P = true
    · rw [if_pos hf]
      have hF := full_of B g v P w h hl
      rw [hf] at hF
      have hS := isSide_of 2 w
      rw [hms] at hS
      have k6 : w.cell? ⟨1, 0, none⟩ = some (errV (ea 6)) := hE.e6
      have H := Lib.hid h; have HS := Lib.hid hS; have HF := Lib.hid hF; clear h hS hF hms hf
      rw [show errOf ea 6 = errV (ea 6) from rfl]
      go_enter Tryd.func17, Tryd.ntmps17
      go_wp2_with (first
        | (go_at_call 33; refine (HS.out).mono ?_; rintro e w1 ⟨rfl, rfl⟩)
        | (go_at_call 35; refine (HF.out).mono ?_; rintro e w1 ⟨rfl, rfl⟩))
      go_ret
      exact ⟨rfl, v, H.out, Beside.of_below (Below.refl _ _) g v, .inl rfl⟩
    · rw [if_neg hf]
      have hf' : mFull P = false := by simpa using hf
      have hF := full_of B g v P w h hl
      rw [hf'] at hF
      have hS := isSide_of 2 w
      rw [hms] at hS
      obtain ⟨n, hn⟩ : ∃ n, n = (mDo (P.seat 2) k).2 := ⟨_, rfl⟩
      obtain ⟨e, he⟩ : ∃ e, e = (mDo (P.seat 2) k).1 := ⟨_, rfl⟩
      have hD := do_of (P.seat 2) k ea w hE.e hE.e9
      rw [← hn, ← he] at hD
      rw [← hn, ← he]
      have hx : P.seat 2 = P.x := rfl
      rw [hx] at hD
      have hset : P.set 2 e.seat = ⟨P.c, e.seat, P.fl⟩ := rfl
      rw [hset]
      have q1 := h.blk.cell
      have H := Lib.hid h; have HS := Lib.hid hS; have HF := Lib.hid hF; clear h hS hF hms hf hf' hn he hx hset
      obtain ⟨c, x, fl⟩ := P
      dsimp only at q1 H hl
      dsimp only [seatV, effV] at hD
      by_cases h0 : n = 0
      · subst h0
        rw [if_neg (by simp)]
        simp only [errOf, if_true] at hD ⊢
        have HD := Lib.hid hD; clear hD
        go_enter Tryd.func17, Tryd.ntmps17
        go_wp2_with (first
          | (go_at_call 33; refine (HS.out).mono ?_; rintro e w1 ⟨rfl, rfl⟩)
          | (go_at_call 35; refine (HF.out).mono ?_; rintro e w1 ⟨rfl, rfl⟩)
          | (go_at_call 21; refine (HD.out).mono ?_; rintro e w1 ⟨rfl, hb1⟩; clear q1; have HC := Lib.hid (H.out.rel hb1); have q1 := HC.out.blk.cell; have f1 := HC.out.blk.free; have hz1 := hb1.size; have hgl := HC.out.blk.lt))
        go_region
        all_goals (go_wp2_with (go_at_call 37; refine (put_of B g v ⟨c, e.seat, fl⟩ 2 e.send _ (((HC.out.seat2 e.seat).rel ((Below.refl _ _).alloc (Nat.le_refl _) _)).rel (Below.refl _ _).drew) hl (by decide) ?_).mono ?_; (simp [putSeat]; omega); rintro e w2 ⟨rfl, hg2⟩; have HG := Lib.hid (PairGoes.after ((((Beside.of_below hb1 g v).seat _ _).alloc _).drew) hg2)))
        all_goals go_ret
        all_goals exact ⟨rfl, HG.out⟩
      · rw [if_pos h0]
        simp only [errOf, if_neg h0] at hD ⊢
        have HD := Lib.hid hD; clear hD
        go_enter Tryd.func17, Tryd.ntmps17
        go_wp2_with (first
          | (go_at_call 33; refine (HS.out).mono ?_; rintro e w1 ⟨rfl, rfl⟩)
          | (go_at_call 35; refine (HF.out).mono ?_; rintro e w1 ⟨rfl, rfl⟩)
          | (go_at_call 21; refine (HD.out).mono ?_; rintro e w1 ⟨rfl, hb1⟩; clear q1))
        go_ret
        have hb2 := (Below.alloc hb1 hb1.size (.cells #[.int .i64 e.seat.p, .int .i64 e.seat.d, .int .i64 e.seat.s, .int .i64 e.seat.h, .int .i64 e.send, .int .i64 e.fault, .int .i64 e.work, .bool e.ch] 34))
        exact ⟨rfl, v, H.out.rel hb2, Beside.of_below hb2 g v, .inl rfl⟩
  · have hms : mSide d = false := by simp [mSide, hd1, hd2]
    rw [if_pos hms]
    have hS := isSide_of d w
    rw [hms] at hS
    have k1 : w.cell? ⟨0, 0, none⟩ = some (errV (ea 1)) := hE.e.e1
    have H := Lib.hid h; have HS := Lib.hid hS; clear h hS hms
    rw [show errOf ea 1 = errV (ea 1) from rfl]
    go_enter Tryd.func17, Tryd.ntmps17
    go_wp2_with (first
      | (go_at_call 33; refine (HS.out).mono ?_; rintro e w1 ⟨rfl, rfl⟩))
    go_ret
    exact ⟨rfl, v, H.out, Beside.of_below (Below.refl _ _) g v, .inl rfl⟩
end Go.Proofs.YtkanakhlmmpapaaDoor
