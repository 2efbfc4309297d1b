/- The reference's pair in memory (liaisonref11): Again. -/
import Derived.Test.YtkanakhlmmpapaaDoorRows
import Derived.WalkKit
import Derived.WalkSpells
import Derived.WalkLawsBesides
import Derived.BigQuiet
import Derived.Deep.QuietTactic
import Derived.StillTailTactics
import Derived.Handy
import Derived.Lib.Hide
import Derived.Test.YtkanakhlmmpapaaDoorMovU
set_option linter.unusedSimpArgs false
set_option linter.unusedVariables false
namespace Go.Proofs.YtkanakhlmmpapaaDoor
open Go.RowKit

set_option maxRecDepth 100000 in
theorem waits_good_all : goodL.all (fun r => decide (mWaits (r.seat 1) = rWaits 1 (r.seat 1).s) && decide (mWaits (r.seat 2) = rWaits 2 (r.seat 2).s)) = true := by decide +kernel
theorem Good.waits {P : MPair} (h : Good P) (d : Int) (hd : d = 1 ∨ d = 2) : mWaits (P.seat d) = rWaits d (P.seat d).s := by
  obtain ⟨r, hr, hF⟩ := h
  have h1 := List.all_eq_true.1 waits_good_all r hr
  simp only [Bool.and_eq_true, decide_eq_true_eq] at h1
  rcases hd with rfl | rfl
  · have := h1.1; rw [hF.seat] at this; exact this
  · have := h1.2; rw [hF.seat] at this; exact this
set_option maxRecDepth 100000 in
set_option maxHeartbeats 4000000 in
theorem gpagain_of (B g sb : Nat) (v : Value) (P : MPair) (d : Int) (w : World) (h : RefIn B g sb v P w) (hl : P.fl.length ≤ 1000) (hB : B ≤ w.heap.size) (hw : d = 1 ∨ d = 2 → mWaits (P.seat d) = rWaits d (P.seat d).s) :
    Calls Tryd.prog 53 #[.pointer (some ⟨g, 0, none⟩), .int .i64 d] w fun e w' => e = .returned (.bool (mPAgain P d).2) ∧ RefGoes B g sb v (mPAgain P d).1 w w' := by
  unfold mPAgain
  by_cases hd1 : d = 1
  · -- side 1
    subst hd1; replace hw := hw (.inl rfl)
    have hms : mSide 1 = true := by decide
    have q8 := h.blk.cell
    have hfull : mFull P = decide ((63 : Int) < (P.fl.length : Int)) := by unfold mFull; rw [Bool.eq_iff_iff]; simp; omega
    obtain ⟨av, cv, rfl⟩ := own_slice h.own
    by_cases hf : mFull P = true
    · rw [if_pos (.inr (.inl hf))]
      have hlen : (63 : Int) < (P.fl.length : Int) := by rw [hfull] at hf; simpa using hf
      have H := Lib.hid h; clear h hms hf hfull hw
      obtain ⟨m, hm⟩ : ∃ m, m = P.fl.length := ⟨_, rfl⟩
      rw [← hm] at hlen q8 H ⊢
      clear hm
      go_enter Tryd.func53, Tryd.ntmps53
      go_wp2_with fail
      go_ret
      exact ⟨rfl, RefGoes.same H.out (Below.refl _ _)⟩
    · have hlen : (P.fl.length : Int) ≤ 63 := by rw [hfull] at hf; simp at hf; omega
      have q1 := h.sblk.cell
      have hx : P.seat 1 = P.c := rfl
      rw [hx] at hw ⊢
      obtain ⟨kk, hkk⟩ : ∃ kk, kk = mWaits P.c := ⟨_, rfl⟩
      rw [← hkk] at hw ⊢
      have hW := fun W => rwaits_any 1 P.c.s W
      rw [← hw] at hW
      have HW := Lib.hid hW; clear hW
      have hgoal : (if mSide 1 = false ∨ mFull P = true ∨ kk = 0 then ((P, false) : MPair × Bool) else (P.put 1 kk, true)) = (P.put 1 kk, decide (kk ≠ 0)) := by
        by_cases h0 : kk = 0
        · rw [if_pos (.inr (.inr h0))]; subst h0; unfold MPair.put; rw [if_pos rfl]; simp
        · rw [if_neg (by rintro (h' | h' | h'); rw [hms] at h'; cases h'; exact hf h'; exact h0 h')]; simp [h0]
      rw [hgoal]
      have H := Lib.hid h; clear h hms hf hfull hgoal hw hkk hx
      obtain ⟨c, x, fl⟩ := P
      dsimp only at q1 q8 H hl hlen HW
      obtain ⟨m, hm⟩ : ∃ m, m = fl.length := ⟨_, rfl⟩
      rw [← hm] at hlen q8 H hl ⊢
      have HM := Lib.hid hm; clear hm
      go_enter Tryd.func53, Tryd.ntmps53
      go_wp2_with fail
      refine (HW.out _).mono ?_
      rintro en w1 ⟨rfl, rfl⟩
      go_wp2_with fail
      refine (gput_of B g sb (.slice av m cv) ⟨c, x, fl⟩ 1 kk _ H.out (by rw [← HM.out]; exact hl) (by decide) hB).mono ?_
      rintro en w2 ⟨rfl, hgo⟩
      have HG := Lib.hid hgo; clear hgo
      go_wp2_with fail
      go_ret
      exact ⟨ret_bool (by rw [Bool.eq_iff_iff]; simp), HG.out⟩
  by_cases hd2 : d = 2
  · -- side 2
    subst hd2; replace hw := hw (.inr rfl)
    have hms : mSide 2 = true := by decide
    have q8 := h.blk.cell
    have hfull : mFull P = decide ((63 : Int) < (P.fl.length : Int)) := by unfold mFull; rw [Bool.eq_iff_iff]; simp; omega
    obtain ⟨av, cv, rfl⟩ := own_slice h.own
    by_cases hf : mFull P = true
    · rw [if_pos (.inr (.inl hf))]
      have hlen : (63 : Int) < (P.fl.length : Int) := by rw [hfull] at hf; simpa using hf
      have H := Lib.hid h; clear h hms hf hfull hw
      obtain ⟨m, hm⟩ : ∃ m, m = P.fl.length := ⟨_, rfl⟩
      rw [← hm] at hlen q8 H ⊢
      clear hm
      go_enter Tryd.func53, Tryd.ntmps53
      go_wp2_with fail
      go_ret
      exact ⟨rfl, RefGoes.same H.out (Below.refl _ _)⟩
    · have hlen : (P.fl.length : Int) ≤ 63 := by rw [hfull] at hf; simp at hf; omega
      have q1 := h.sblk.cell
      have hx : P.seat 2 = P.x := rfl
      rw [hx] at hw ⊢
      obtain ⟨kk, hkk⟩ : ∃ kk, kk = mWaits P.x := ⟨_, rfl⟩
      rw [← hkk] at hw ⊢
      have hW := fun W => rwaits_any 2 P.x.s W
      rw [← hw] at hW
      have HW := Lib.hid hW; clear hW
      have hgoal : (if mSide 2 = false ∨ mFull P = true ∨ kk = 0 then ((P, false) : MPair × Bool) else (P.put 2 kk, true)) = (P.put 2 kk, decide (kk ≠ 0)) := by
        by_cases h0 : kk = 0
        · rw [if_pos (.inr (.inr h0))]; subst h0; unfold MPair.put; rw [if_pos rfl]; simp
        · rw [if_neg (by rintro (h' | h' | h'); rw [hms] at h'; cases h'; exact hf h'; exact h0 h')]; simp [h0]
      rw [hgoal]
      have H := Lib.hid h; clear h hms hf hfull hgoal hw hkk hx
      obtain ⟨c, x, fl⟩ := P
      dsimp only at q1 q8 H hl hlen HW
      obtain ⟨m, hm⟩ : ∃ m, m = fl.length := ⟨_, rfl⟩
      rw [← hm] at hlen q8 H hl ⊢
      have HM := Lib.hid hm; clear hm
      go_enter Tryd.func53, Tryd.ntmps53
      go_wp2_with fail
      refine (HW.out _).mono ?_
      rintro en w1 ⟨rfl, rfl⟩
      go_wp2_with fail
      refine (gput_of B g sb (.slice av m cv) ⟨c, x, fl⟩ 2 kk _ H.out (by rw [← HM.out]; exact hl) (by decide) hB).mono ?_
      rintro en w2 ⟨rfl, hgo⟩
      have HG := Lib.hid hgo; clear hgo
      go_wp2_with fail
      go_ret
      exact ⟨ret_bool (by rw [Bool.eq_iff_iff]; simp), HG.out⟩
  · have hms : mSide d = false := by simp [mSide, hd1, hd2]
    rw [if_pos (.inl hms)]
    have t1 : (d != 1) = true := by simpa using hd1
    have t2 : (d != 2) = true := by simpa using hd2
    have H := Lib.hid h; clear h hms hd1 hd2 hw
    go_enter Tryd.func53, Tryd.ntmps53
    go_wp2_with fail
    go_ret
    exact ⟨rfl, RefGoes.same H.out (Below.refl _ _)⟩
end Go.Proofs.YtkanakhlmmpapaaDoor
