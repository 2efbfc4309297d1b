/- The reference's pair in memory (liaisonref11): put, Do. -/
import Derived.Test.YtkanakhlmmpapaaDoorRows
import Derived.WalkKit
import Derived.WalkSpells
import Derived.WalkLawsBesides
import Derived.BigQuiet
import Derived.Deep.QuietTactic
import Derived.StillTailTactics
import Derived.Handy
import Derived.Lib.Hide
import Derived.Test.YtkanakhlmmpapaaDoorMovT
import Derived.Test.YtkanakhlmmpapaaDoorMovEq
set_option linter.unusedSimpArgs false
set_option linter.unusedVariables false
namespace Go.Proofs.YtkanakhlmmpapaaDoor
open Go.RowKit

theorem BesideR.then_below {w w' w'' : World} {g sb : Nat} {v : Value} (h : BesideR w w' g sb v) (hb : Below w'.heap.size w' w'') : BesideR w w'' g sb v :=
  ⟨hb.os.trans h.os, hb.tape.trans h.tape, hb.output.trans h.output, Nat.le_trans h.size hb.size, fun k hk hg hs hr => (hb.block k (Nat.lt_of_lt_of_le hk h.size)).trans (h.block k hk hg hs hr)⟩
set_option maxRecDepth 100000 in
set_option maxHeartbeats 2000000 in
theorem gput_of (B g sb : Nat) (v : Value) (P : MPair) (d k : Int) (w : World) (h : RefIn B g sb v P w) (hl : P.fl.length ≤ 1000) (hd : d = 1 ∨ d = 2) (hB : B ≤ w.heap.size) :
    Calls Tryd.prog 75 #[.pointer (some ⟨g, 0, none⟩), .int .i64 d, .int .i64 k] w fun e w' => e = .returned (.tuple #[]) ∧ RefGoes B g sb v (P.put d k) w w' := by
  by_cases hk : k = 0
  · subst hk
    have hp : P.put d 0 = P := by unfold MPair.put; rw [if_pos rfl]
    rw [hp]
    have H := Lib.hid h; clear h hp
    go_enter Tryd.func75, Tryd.ntmps75
    go_wp2
    exact bodyPost_end (results_none rfl _ _ _) rfl ⟨rfl, RefGoes.same H.out (Below.refl _ _)⟩
  · have hp : P.put d k = ⟨P.c, P.x, P.fl ++ [(3 - d, k)]⟩ := by unfold MPair.put; rw [if_neg hk]
    rw [hp]
    have hk' : (k != 0) = true := by simpa using hk
    have a8 : w.cell? ⟨g, 1, none⟩ = some v := h.blk.cell 1
    have hlt := h.blk.lt
    have H := Lib.hid h
    have hown := h.own
    have hap := h.apart
    obtain ⟨i0, ei, ez, es, eb⟩ := info_parts infoFlyR
    clear h hp hk
    go_enter Tryd.func75, Tryd.ntmps75
    rcases hd with rfl | rfl
    · go_wp2_with (at_builtin; go_loud (refine wpList_append_own_at _ rfl _ _ 63 rfl B 67 i0 (.agg #[.int .i64 0, .int .i64 0]) 2 16 Tryd.underlying63 ei ez es eb rfl (by decide) _ _ _ rfl (hown.alloc _) ⟨w.heap.size, 0, none⟩ 1 1 [.int .i64 2, .int .i64 k] rfl rfl (two_new _ _ _ _) (two_cells _ _) ?c3 ?c4 ?c5 ?_))
      case c3 => unfold maxLen; omega
      case c4 => omega
      case c5 => simp; omega
      · intro v' w1 hown1 hgrow _ hat
        have hz := hgrow.size
        simp only [World.size_alloc] at hz
        have b1 : w1.cell? ⟨g, 1, none⟩ = some v := (hgrow.cell_far ⟨g, 1, none⟩ (by simp; omega) (fun e => hap e.symm)).trans (((H.out.blk.alloc _).cell 1))
        have bf : w1.frozen? ⟨g, 1, none⟩ = false := (hgrow.frozen_far ⟨g, 1, none⟩ (by simp; omega) (fun e => hap e.symm)).trans ((H.out.blk.alloc _).free 1)
        have hne : ∀ m, m < w.heap.size → v.ownBlock ≠ some m → v'.ownBlock ≠ some m := by
          intro m hm hv
          rcases hat with e | e
          · rw [e]; exact hv
          · rw [e]; intro e'; injection e' with e'; omega
        have hfr : FreshOr w v v' := by
          rcases hat with e | e
          · exact .inl e
          · exact .inr ⟨w.heap.size + 1, by omega, e⟩
        have hW : Below w.heap.size w (w.alloc (.cells #[.int .i64 2, .int .i64 k] 67)) := (Below.refl _ _).alloc (Nat.le_refl _) _
        have hR1 := H.out.rel hW
        have HP := Lib.hid (hR1.swap (P.fl ++ [(2, k)]) hgrow.size (hgrow.block g hR1.blk.lt (fun e => hap e.symm)) (hgrow.block sb hR1.sblk.lt (fun e => H.out.aparts e.symm)) (by rw [flV_append, List.length_append]; exact hown1) (hne g hlt hap) (hne sb H.out.sblk.lt H.out.aparts))
        have HB := Lib.hid ((BesideR.of_below hW g sb v).trans (BesideR.of_grown g sb v hgrow) (.inl rfl))
        have HF := Lib.hid hfr
        obtain ⟨a', cap', rfl⟩ := own_slice hown1
        clear hown1 hgrow hat hown hfr hR1 hW hne
        go_wp2
        exact bodyPost_end (results_none rfl _ _ _) rfl ⟨rfl, _, HP.out, HB.out.setCell 1 _, HF.out⟩
    · go_wp2_with (at_builtin; go_loud (refine wpList_append_own_at _ rfl _ _ 63 rfl B 67 i0 (.agg #[.int .i64 0, .int .i64 0]) 2 16 Tryd.underlying63 ei ez es eb rfl (by decide) _ _ _ rfl (hown.alloc _) ⟨w.heap.size, 0, none⟩ 1 1 [.int .i64 1, .int .i64 k] rfl rfl (two_new _ _ _ _) (two_cells _ _) ?c3 ?c4 ?c5 ?_))
      case c3 => unfold maxLen; omega
      case c4 => omega
      case c5 => simp; omega
      · intro v' w1 hown1 hgrow _ hat
        have hz := hgrow.size
        simp only [World.size_alloc] at hz
        have b1 : w1.cell? ⟨g, 1, none⟩ = some v := (hgrow.cell_far ⟨g, 1, none⟩ (by simp; omega) (fun e => hap e.symm)).trans (((H.out.blk.alloc _).cell 1))
        have bf : w1.frozen? ⟨g, 1, none⟩ = false := (hgrow.frozen_far ⟨g, 1, none⟩ (by simp; omega) (fun e => hap e.symm)).trans ((H.out.blk.alloc _).free 1)
        have hne : ∀ m, m < w.heap.size → v.ownBlock ≠ some m → v'.ownBlock ≠ some m := by
          intro m hm hv
          rcases hat with e | e
          · rw [e]; exact hv
          · rw [e]; intro e'; injection e' with e'; omega
        have hfr : FreshOr w v v' := by
          rcases hat with e | e
          · exact .inl e
          · exact .inr ⟨w.heap.size + 1, by omega, e⟩
        have hW : Below w.heap.size w (w.alloc (.cells #[.int .i64 1, .int .i64 k] 67)) := (Below.refl _ _).alloc (Nat.le_refl _) _
        have hR1 := H.out.rel hW
        have HP := Lib.hid (hR1.swap (P.fl ++ [(1, k)]) hgrow.size (hgrow.block g hR1.blk.lt (fun e => hap e.symm)) (hgrow.block sb hR1.sblk.lt (fun e => H.out.aparts e.symm)) (by rw [flV_append, List.length_append]; exact hown1) (hne g hlt hap) (hne sb H.out.sblk.lt H.out.aparts))
        have HB := Lib.hid ((BesideR.of_below hW g sb v).trans (BesideR.of_grown g sb v hgrow) (.inl rfl))
        have HF := Lib.hid hfr
        obtain ⟨a', cap', rfl⟩ := own_slice hown1
        clear hown1 hgrow hat hown hfr hR1 hW hne
        go_wp2
        exact bodyPost_end (results_none rfl _ _ _) rfl ⟨rfl, _, HP.out, HB.out.setCell 1 _, HF.out⟩

set_option maxRecDepth 100000 in
set_option maxHeartbeats 4000000 in
theorem gpdo_of (B g sb : Nat) (v : Value) (P : MPair) (d k : Int) (w : World) (h : RefIn B g sb v P w) (hl : P.fl.length ≤ 1000) (hB : B ≤ w.heap.size) :
    Calls Tryd.prog 52 #[.pointer (some ⟨g, 0, none⟩), .int .i64 d, .int .i64 k] w fun e w' => e = .returned (.int .i64 (mPDo P d k).2) ∧ RefGoes B g sb v (mPDo P d k).1 w w' := by
  unfold mPDo
  by_cases hd1 : d = 1
  · -- side 1
    subst hd1
    have hms : mSide 1 = true := by decide
    rw [if_neg (by rw [hms]; simp)]
    have q8 := h.blk.cell
    have hfull : mFull P = decide ((63 : Int) < (P.fl.length : Int)) := by unfold mFull; rw [Bool.eq_iff_iff]; simp; omega
    obtain ⟨av, cv, rfl⟩ := own_slice h.own
    by_cases hf : mFull P = true
    · rw [if_pos hf]
      have hlen : (63 : Int) < (P.fl.length : Int) := by rw [hfull] at hf; simpa using hf
      have H := Lib.hid h; clear h hms hf hfull
      obtain ⟨m, hm⟩ : ∃ m, m = P.fl.length := ⟨_, rfl⟩
      rw [← hm] at hlen q8 H ⊢
      clear hm
      go_enter Tryd.func52, Tryd.ntmps52
      go_wp2_with fail
      go_ret
      exact ⟨rfl, RefGoes.same H.out (Below.refl _ _)⟩
    · rw [if_neg hf]
      have hlen : (P.fl.length : Int) ≤ 63 := by rw [hfull] at hf; simp at hf; omega
      have q1 := h.sblk.cell
      have hD := gdo_of (P.seat 1) k w
      rw [← (eq_any (P.seat 1) k).2] at hD
      obtain ⟨n, hn⟩ : ∃ n, n = (mDo (P.seat 1) k).2 := ⟨_, rfl⟩
      obtain ⟨e, he⟩ : ∃ e, e = (mDo (P.seat 1) k).1 := ⟨_, rfl⟩
      rw [← hn, ← he] at hD
      rw [← hn, ← he]
      have hx : P.seat 1 = P.c := rfl
      rw [hx] at hD
      have hset : P.set 1 e.seat = ⟨e.seat, P.x, P.fl⟩ := rfl
      rw [hset]
      have hne := h.ne
      have H := Lib.hid h; clear h hms hf hn he hx hset hfull
      obtain ⟨c, x, fl⟩ := P
      dsimp only at q1 q8 H hl hlen
      dsimp only [seatV, effV] at hD
      obtain ⟨m, hm⟩ : ∃ m, m = fl.length := ⟨_, rfl⟩
      rw [← hm] at hlen q8 H hl ⊢
      have HM := Lib.hid hm; clear hm
      have HD := Lib.hid hD; clear hD
      by_cases h0 : n = 0
      · subst h0
        rw [if_neg (by simp)]
        go_enter Tryd.func52, Tryd.ntmps52
        go_wp2_with fail
        refine (HD.out).mono ?_
        rintro en w1 ⟨rfl, hb1⟩
        clear q1 q8
        have HC := Lib.hid (H.out.rel hb1)
        have q8 := HC.out.blk.cell
        have q1 := HC.out.sblk.cell; have f1 := HC.out.sblk.free; have hz1 := hb1.size; have hgl := HC.out.sblk.lt; have hg2 := HC.out.blk.lt
        go_wp2_with fail
        go_region
        all_goals go_wp2_with fail
        all_goals (refine (gput_of B g sb (.slice av m cv) ⟨e.seat, x, fl⟩ 1 e.send _ (((HC.out.seat1 e.seat).rel ((Below.refl _ _).alloc (Nat.le_refl _) _)).rel (Below.refl _ _).drew) (by rw [← HM.out]; exact hl) (by decide) (by simp [putSeat]; omega)).mono ?_)
        all_goals (rintro en w2 ⟨rfl, hgo⟩)
        all_goals (have HG := Lib.hid (RefGoes.after ((((BesideR.of_below hb1 g sb (.slice av m cv)).setSeat _ _).setSeat _ _).setSeat _ _ |>.setSeat _ _ |>.then_below ((Below.refl _ _).alloc (Nat.le_refl _) _) |>.then_below (Below.refl _ _).drew) hgo))
        all_goals go_wp2_with fail
        all_goals go_ret
        all_goals exact ⟨rfl, HG.out⟩
      · rw [if_pos h0]
        have h0' : (n == 0) = false := by simpa using h0
        go_enter Tryd.func52, Tryd.ntmps52
        go_wp2_with fail
        refine (HD.out).mono ?_
        rintro en w1 ⟨rfl, hb1⟩
        go_wp2_with fail
        go_ret
        exact ⟨rfl, RefGoes.same H.out (hb1.alloc hb1.size _)⟩
  by_cases hd2 : d = 2
  · -- side 2
    subst hd2
    have hms : mSide 2 = true := by decide
    rw [if_neg (by rw [hms]; simp)]
    have q8 := h.blk.cell
    have hfull : mFull P = decide ((63 : Int) < (P.fl.length : Int)) := by unfold mFull; rw [Bool.eq_iff_iff]; simp; omega
    obtain ⟨av, cv, rfl⟩ := own_slice h.own
    by_cases hf : mFull P = true
    · rw [if_pos hf]
      have hlen : (63 : Int) < (P.fl.length : Int) := by rw [hfull] at hf; simpa using hf
      have H := Lib.hid h; clear h hms hf hfull
      obtain ⟨m, hm⟩ : ∃ m, m = P.fl.length := ⟨_, rfl⟩
      rw [← hm] at hlen q8 H ⊢
      clear hm
      go_enter Tryd.func52, Tryd.ntmps52
      go_wp2_with fail
      go_ret
      exact ⟨rfl, RefGoes.same H.out (Below.refl _ _)⟩
    · rw [if_neg hf]
      have hlen : (P.fl.length : Int) ≤ 63 := by rw [hfull] at hf; simp at hf; omega
      have q1 := h.sblk.cell
      have hD := gdo_of (P.seat 2) k w
      rw [← (eq_any (P.seat 2) k).2] at hD
      obtain ⟨n, hn⟩ : ∃ n, n = (mDo (P.seat 2) k).2 := ⟨_, rfl⟩
      obtain ⟨e, he⟩ : ∃ e, e = (mDo (P.seat 2) k).1 := ⟨_, rfl⟩
      rw [← hn, ← he] at hD
      rw [← hn, ← he]
      have hx : P.seat 2 = P.x := rfl
      rw [hx] at hD
      have hset : P.set 2 e.seat = ⟨P.c, e.seat, P.fl⟩ := rfl
      rw [hset]
      have hne := h.ne
      have H := Lib.hid h; clear h hms hf hn he hx hset hfull
      obtain ⟨c, x, fl⟩ := P
      dsimp only at q1 q8 H hl hlen
      dsimp only [seatV, effV] at hD
      obtain ⟨m, hm⟩ : ∃ m, m = fl.length := ⟨_, rfl⟩
      rw [← hm] at hlen q8 H hl ⊢
      have HM := Lib.hid hm; clear hm
      have HD := Lib.hid hD; clear hD
      by_cases h0 : n = 0
      · subst h0
        rw [if_neg (by simp)]
        go_enter Tryd.func52, Tryd.ntmps52
        go_wp2_with fail
        refine (HD.out).mono ?_
        rintro en w1 ⟨rfl, hb1⟩
        clear q1 q8
        have HC := Lib.hid (H.out.rel hb1)
        have q8 := HC.out.blk.cell
        have q1 := HC.out.sblk.cell; have f1 := HC.out.sblk.free; have hz1 := hb1.size; have hgl := HC.out.sblk.lt; have hg2 := HC.out.blk.lt
        go_wp2_with fail
        go_region
        all_goals go_wp2_with fail
        all_goals (refine (gput_of B g sb (.slice av m cv) ⟨c, e.seat, fl⟩ 2 e.send _ (((HC.out.seat2 e.seat).rel ((Below.refl _ _).alloc (Nat.le_refl _) _)).rel (Below.refl _ _).drew) (by rw [← HM.out]; exact hl) (by decide) (by simp [putSeat]; omega)).mono ?_)
        all_goals (rintro en w2 ⟨rfl, hgo⟩)
        all_goals (have HG := Lib.hid (RefGoes.after ((((BesideR.of_below hb1 g sb (.slice av m cv)).setSeat _ _).setSeat _ _).setSeat _ _ |>.setSeat _ _ |>.then_below ((Below.refl _ _).alloc (Nat.le_refl _) _) |>.then_below (Below.refl _ _).drew) hgo))
        all_goals go_wp2_with fail
        all_goals go_ret
        all_goals exact ⟨rfl, HG.out⟩
      · rw [if_pos h0]
        have h0' : (n == 0) = false := by simpa using h0
        go_enter Tryd.func52, Tryd.ntmps52
        go_wp2_with fail
        refine (HD.out).mono ?_
        rintro en w1 ⟨rfl, hb1⟩
        go_wp2_with fail
        go_ret
        exact ⟨rfl, RefGoes.same H.out (hb1.alloc hb1.size _)⟩
  · have hms : mSide d = false := by simp [mSide, hd1, hd2]
    rw [if_pos hms]
    have t1 : (d != 1) = true := by simpa using hd1
    have t2 : (d != 2) = true := by simpa using hd2
    have H := Lib.hid h; clear h hms hd1 hd2
    go_enter Tryd.func52, Tryd.ntmps52
    go_wp2_with fail
    go_ret
    exact ⟨rfl, RefGoes.same H.out (Below.refl _ _)⟩
end Go.Proofs.YtkanakhlmmpapaaDoor
