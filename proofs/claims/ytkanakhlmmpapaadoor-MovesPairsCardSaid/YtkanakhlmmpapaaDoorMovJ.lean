/- A pair in memory: a side sends again; a kind is lost. -/
import Derived.Test.YtkanakhlmmpapaaDoorRows
import Derived.WalkKit
import Derived.WalkSpells
import Derived.WalkLawsBesides
import Derived.BigQuiet
import Derived.Deep.QuietTactic
import Derived.StillTailTactics
import Derived.Handy
import Derived.Lib.Hide
import Derived.Test.YtkanakhlmmpapaaDoorMovI
set_option linter.unusedSimpArgs false
set_option linter.unusedVariables false
namespace Go.Proofs.YtkanakhlmmpapaaDoor
open Go.RowKit

set_option maxRecDepth 100000 in
set_option maxHeartbeats 4000000 in
theorem pagain_of (B g : Nat) (v : Value) (P : MPair) (d : Int) (ea : Int → Addr) (w : World) (hE : Err5 ea w) (h : PairIn B g v P w) (hl : P.fl.length ≤ 1000) (hB : B ≤ w.heap.size) :
    Calls Tryd.prog 18 #[.pointer (some ⟨g, 0, none⟩), .int .i64 d] w fun e w' => e = .returned (.bool (mPAgain P d).2) ∧ PairGoes B g v (mPAgain P d).1 w w' := by
  unfold mPAgain
  by_cases hd1 : d = 1
  · -- side 1
    subst hd1
    have hms : mSide 1 = true := by decide
    have hS := isSide_of 1 w
    rw [hms] at hS
    have hF := full_of B g v P w h hl
    by_cases hf : mFull P = true
    · rw [if_pos (.inr (.inl hf))]
      rw [hf] at hF
      have H := Lib.hid h; have HS := Lib.hid hS; have HF := Lib.hid hF; clear h hS hF hms hf
      go_enter Tryd.func18, Tryd.ntmps18
      go_wp2_with (first
        | (go_at_call 33; refine (HS.out).mono ?_; rintro e w1 ⟨rfl, rfl⟩)
        | (go_at_call 35; refine (HF.out).mono ?_; rintro e w1 ⟨rfl, rfl⟩))
      go_ret
      exact ⟨rfl, PairGoes.same H.out (Below.refl _ _)⟩
    · have hf' : mFull P = false := by simpa using hf
      rw [hf'] at hF
      have hW := fun W hW => mwaits_of (P.seat 1) ea W hW
      have hx : P.seat 1 = P.c := rfl
      rw [hx] at hW ⊢
      obtain ⟨n, hn⟩ : ∃ n, n = mWaits P.c := ⟨_, rfl⟩
      rw [← hn] at hW ⊢
      have q1 := h.blk.cell
      have H := Lib.hid h; have HS := Lib.hid hS; have HF := Lib.hid hF
      by_cases h0 : n = 0
      · rw [if_pos (.inr (.inr h0))]
        subst h0
        have HW := Lib.hid hW; clear hW h hS hF hms hf hf' hn hx
        obtain ⟨c, x, fl⟩ := P
        dsimp only [seatV] at q1 H hl HW
        go_enter Tryd.func18, Tryd.ntmps18
        go_wp2_with (first
        | (go_at_call 33; refine (HS.out).mono ?_; rintro e w1 ⟨rfl, rfl⟩)
        | (go_at_call 35; refine (HF.out).mono ?_; rintro e w1 ⟨rfl, rfl⟩)
        | (go_at_call 27; refine (HW.out _ hE.e).mono ?_; rintro e w1 ⟨rfl, hb1⟩))
        go_ret
        exact ⟨rfl, PairGoes.same H.out hb1⟩
      · rw [if_neg (by rintro (h' | h' | h'); rw [hms] at h'; cases h'; exact hf h'; exact h0 h')]
        have h0' : (n == 0) = false := by simpa using h0
        have HW := Lib.hid hW; clear hW h hS hF hms hf hf' hn hx h0
        obtain ⟨c, x, fl⟩ := P
        dsimp only [seatV] at q1 H hl HW
        go_enter Tryd.func18, Tryd.ntmps18
        go_wp2_with (first
        | (go_at_call 33; refine (HS.out).mono ?_; rintro e w1 ⟨rfl, rfl⟩)
        | (go_at_call 35; refine (HF.out).mono ?_; rintro e w1 ⟨rfl, rfl⟩))
        refine (HW.out _ hE.e).mono ?_
        rintro e w1 ⟨rfl, hb1⟩
        have HP1 := Lib.hid (H.out.rel hb1)
        clear q1
        have q1 := HP1.out.blk.cell
        go_wp2_with fail
        refine (HW.out _ (hE.e.below hb1)).mono ?_
        rintro e w2 ⟨rfl, hb2⟩
        have hb3 : Below w.heap.size w w2 := below_then hb1 hb2
        have hz2 := hb3.size
        go_wp2_with fail
        refine (put_of B g v ⟨c, x, fl⟩ 1 n _ (H.out.rel hb3) hl (by decide) (by omega)).mono ?_
        rintro e w3 ⟨rfl, hg3⟩
        have HG := Lib.hid (PairGoes.after (Beside.of_below hb3 g v) hg3)
        go_wp2_with fail
        go_ret
        exact ⟨rfl, HG.out⟩
  by_cases hd2 : d = 2
  · -- side 2
    subst hd2
    have hms : mSide 2 = true := by decide
    have hS := isSide_of 2 w
    rw [hms] at hS
    have hF := full_of B g v P w h hl
    by_cases hf : mFull P = true
    · rw [if_pos (.inr (.inl hf))]
      rw [hf] at hF
      have H := Lib.hid h; have HS := Lib.hid hS; have HF := Lib.hid hF; clear h hS hF hms hf
      go_enter Tryd.func18, Tryd.ntmps18
      go_wp2_with (first
        | (go_at_call 33; refine (HS.out).mono ?_; rintro e w1 ⟨rfl, rfl⟩)
        | (go_at_call 35; refine (HF.out).mono ?_; rintro e w1 ⟨rfl, rfl⟩))
      go_ret
      exact ⟨rfl, PairGoes.same H.out (Below.refl _ _)⟩
    · have hf' : mFull P = false := by simpa using hf
      rw [hf'] at hF
      have hW := fun W hW => mwaits_of (P.seat 2) ea W hW
      have hx : P.seat 2 = P.x := rfl
      rw [hx] at hW ⊢
      obtain ⟨n, hn⟩ : ∃ n, n = mWaits P.x := ⟨_, rfl⟩
      rw [← hn] at hW ⊢
      have q1 := h.blk.cell
      have H := Lib.hid h; have HS := Lib.hid hS; have HF := Lib.hid hF
      by_cases h0 : n = 0
      · rw [if_pos (.inr (.inr h0))]
        subst h0
        have HW := Lib.hid hW; clear hW h hS hF hms hf hf' hn hx
        obtain ⟨c, x, fl⟩ := P
        dsimp only [seatV] at q1 H hl HW
        go_enter Tryd.func18, Tryd.ntmps18
        go_wp2_with (first
        | (go_at_call 33; refine (HS.out).mono ?_; rintro e w1 ⟨rfl, rfl⟩)
        | (go_at_call 35; refine (HF.out).mono ?_; rintro e w1 ⟨rfl, rfl⟩)
        | (go_at_call 27; refine (HW.out _ hE.e).mono ?_; rintro e w1 ⟨rfl, hb1⟩))
        go_ret
        exact ⟨rfl, PairGoes.same H.out hb1⟩
      · rw [if_neg (by rintro (h' | h' | h'); rw [hms] at h'; cases h'; exact hf h'; exact h0 h')]
        have h0' : (n == 0) = false := by simpa using h0
        have HW := Lib.hid hW; clear hW h hS hF hms hf hf' hn hx h0
        obtain ⟨c, x, fl⟩ := P
        dsimp only [seatV] at q1 H hl HW
        go_enter Tryd.func18, Tryd.ntmps18
        go_wp2_with (first
        | (go_at_call 33; refine (HS.out).mono ?_; rintro e w1 ⟨rfl, rfl⟩)
        | (go_at_call 35; refine (HF.out).mono ?_; rintro e w1 ⟨rfl, rfl⟩))
        refine (HW.out _ hE.e).mono ?_
        rintro e w1 ⟨rfl, hb1⟩
        have HP1 := Lib.hid (H.out.rel hb1)
        clear q1
        have q1 := HP1.out.blk.cell
        go_wp2_with fail
        refine (HW.out _ (hE.e.below hb1)).mono ?_
        rintro e w2 ⟨rfl, hb2⟩
        have hb3 : Below w.heap.size w w2 := below_then hb1 hb2
        have hz2 := hb3.size
        go_wp2_with fail
        refine (put_of B g v ⟨c, x, fl⟩ 2 n _ (H.out.rel hb3) hl (by decide) (by omega)).mono ?_
        rintro e w3 ⟨rfl, hg3⟩
        have HG := Lib.hid (PairGoes.after (Beside.of_below hb3 g v) hg3)
        go_wp2_with fail
        go_ret
        exact ⟨rfl, HG.out⟩
  · have hms : mSide d = false := by simp [mSide, hd1, hd2]
    rw [if_pos (.inl hms)]
    have hS := isSide_of d w
    rw [hms] at hS
    have H := Lib.hid h; have HS := Lib.hid hS; clear h hS hms
    go_enter Tryd.func18, Tryd.ntmps18
    go_wp2_with (first
      | (go_at_call 33; refine (HS.out).mono ?_; rintro e w1 ⟨rfl, rfl⟩))
    go_ret
    exact ⟨rfl, PairGoes.same H.out (Below.refl _ _)⟩

theorem Beside.of_grown {w w' : World} (g : Nat) (v : Value) (h : w.grownBy w' v.ownBlock) : Beside w w' g v := ⟨h.os, h.tape, h.output, h.size, fun k hk _ hr => h.block k hk (fun e => hr e.symm)⟩
/-- the shape of the slice of what is on its way, where something is -/
theorem PairIn.slice {B g : Nat} {v : Value} {P : MPair} {w : World} (h : PairIn B g v P w) : ∃ a cap, v = .slice a P.fl.length cap := own_slice h.own
theorem PairIn.some {B g : Nat} {v : Value} {P : MPair} {w : World} (h : PairIn B g v P w) (hn : 0 < P.fl.length) : ∃ b cap, v = .slice (some ⟨b, 0, none⟩) P.fl.length cap ∧ P.fl.length ≤ cap := by
  rcases h.own.2 with ⟨_, h0⟩ | ⟨b, cap, cur, rfl, _, _, hc, _⟩
  · omega
  · exact ⟨b, cap, rfl, hc⟩

set_option maxRecDepth 100000 in
set_option maxHeartbeats 4000000 in
theorem pdrop_of (B g : Nat) (v : Value) (P : MPair) (i : Int) (ea : Int → Addr) (w : World) (hE : Err5 ea w) (h : PairIn B g v P w) (hl : P.fl.length ≤ 1000) (hB : B ≤ w.heap.size) :
    Calls Tryd.prog 32 #[.pointer (some ⟨g, 0, none⟩), .int .i64 i] w fun e w' => e = .returned (errOf ea (mPDrop P i).2) ∧ PairGoes B g v (mPDrop P i).1 w w' := by
  unfold mPDrop
  have a8 : w.cell? ⟨g, 8, none⟩ = some v := h.blk.cell 8
  have k1 : w.cell? ⟨0, 0, none⟩ = some (errV (ea 1)) := hE.e.e1
  by_cases hi : i < 0 ∨ (P.fl.length : Int) ≤ i
  · rw [if_pos hi, show errOf ea 1 = errV (ea 1) from rfl]
    obtain ⟨a, cap, rfl⟩ := h.slice
    have H := Lib.hid h; clear h
    obtain ⟨n, hn⟩ : ∃ n, n = P.fl.length := ⟨_, rfl⟩
    rw [← hn] at hl a8 hi H ⊢
    clear hn
    by_cases h0 : i < 0
    · go_enter Tryd.func32, Tryd.ntmps32
      go_wp2
      go_ret
      exact ⟨rfl, PairGoes.same H.out (Below.refl _ _)⟩
    · have h1 : (n : Int) ≤ i := by omega
      have h2 : 0 ≤ i := by omega
      clear hi
      go_enter Tryd.func32, Tryd.ntmps32
      go_wp2
      go_ret
      exact ⟨rfl, PairGoes.same H.out (Below.refl _ _)⟩
  · rw [if_neg hi]
    obtain ⟨j, rfl⟩ : ∃ j : Nat, i = j := ⟨i.toNat, by omega⟩
    have hj : j < P.fl.length := by omega
    obtain ⟨b, cap, rfl, hc⟩ := h.some (by omega)
    have hD := delete_of B b cap j P.fl w h.own hj hl
    have hne := h.apart
    have hc' : mCut P (j : Int).toNat false = ⟨P.c, P.x, P.fl.eraseIdx j⟩ := by unfold mCut; rw [if_neg (by simp)]; simp
    rw [hc']
    have H := Lib.hid h; clear h hc'
    obtain ⟨n, hn⟩ : ∃ n, n = P.fl.length := ⟨_, rfl⟩
    have hgl := H.out.blk.lt
    rw [← hn] at hl a8 hi hD H hj ⊢
    have HN := Lib.hid hn
    have HD := Lib.hid hD; clear hD hn hc
    go_enter Tryd.func32, Tryd.ntmps32
    go_wp2_with (go_at_call 36; refine (HD.out).mono ?_; rintro e w1 ⟨rfl, ho1, hg1⟩; clear a8; have a8 : w1.cell? ⟨g, 8, none⟩ = some (.slice (some ⟨b, 0, none⟩) n cap) := (hg1.cell_far ⟨g, 8, none⟩ hgl (fun e => hne e.symm)).trans (H.out.blk.cell 8); have f8 : w1.frozen? ⟨g, 8, none⟩ = false := (hg1.frozen_far ⟨g, 8, none⟩ hgl (fun e => hne e.symm)).trans (H.out.blk.free 8); have HO := Lib.hid ho1; have HG := Lib.hid hg1; clear ho1 hg1)
    go_ret
    refine ⟨rfl, _, H.out.swap (P.fl.eraseIdx j) HG.out HO.out hne, ?_, .inl rfl⟩
    exact (Beside.of_grown g (.slice (some ⟨b, 0, none⟩) n cap) HG.out).setCell 8 _
end Go.Proofs.YtkanakhlmmpapaaDoor
