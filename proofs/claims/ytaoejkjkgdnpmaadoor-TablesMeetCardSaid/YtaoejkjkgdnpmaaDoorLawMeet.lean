/- TablesMeet, walked. -/
import Derived.Test.YtaoejkjkgdnpmaaDoorRows
import Derived.WalkKit
import Derived.WalkSpells
import Derived.WalkLawsBesides
import Derived.BigQuiet
import Derived.Deep.QuietTactic
import Derived.StillTailTactics
import Derived.Handy
import Derived.Lib.Hide
import Derived.Test.YtaoejkjkgdnpmaaDoorTabN
import Derived.Test.YtaoejkjkgdnpmaaDoorTabI
set_option linter.unusedSimpArgs false
set_option linter.unusedVariables false
namespace Go.Proofs.YtaoejkjkgdnpmaaDoor
open Go.RowKit

theorem side_iff (p d : Int) (hd : 1 ≤ d ∧ d ≤ 2) : rSide p d = decide (1 ≤ p ∧ p ≤ 2) := by
  rw [Bool.eq_iff_iff]; simp [rSide]; omega
theorem meet_lists (p : Int) (hp : 1 ≤ p ∧ p ≤ 2) : upto (rTakes p 2) = upto (rSends p 1) ∧ upto (rTakes p 1) = upto (rSends p 2) := by
  have : p = 1 ∨ p = 2 := by omega
  rcases this with rfl | rfl <;> decide +kernel
theorem upto_len (f : Int → Bool) : (upto f).length ≤ 1000 := by
  have : (upto f).length ≤ 19 := by
    unfold upto
    have := List.length_filter_le f ((List.range 19).map fun i : Nat => (i : Int) + 1)
    simpa using this
  omega
theorem waits_in (p d s : Int) (hp : 1 ≤ p ∧ p ≤ 2) (hd : 1 ≤ d ∧ d ≤ 2) (hh : rHas p d s = true) (h0 : rWaits d s ≠ 0) : (upto (rSends p d)).contains (rWaits d s) = true := by
  have hs : 1 ≤ s ∧ s ≤ 14 := by
    refine Decidable.byContradiction fun hs => ?_
    rw [rHas_out hs] at hh; cases hh
  obtain ⟨m, rfl⟩ := nat14 hs
  have hp' : p = 1 ∨ p = 2 := by omega
  have hd' : d = 1 ∨ d = 2 := by omega
  have key : ∀ m : Fin 15, (rHas 1 1 (m.val : Nat) = true → rWaits 1 (m.val : Nat) ≠ 0 → (upto (rSends 1 1)).contains (rWaits 1 (m.val : Nat)) = true) ∧ (rHas 2 1 (m.val : Nat) = true → rWaits 1 (m.val : Nat) ≠ 0 → (upto (rSends 2 1)).contains (rWaits 1 (m.val : Nat)) = true) ∧ (rHas 1 2 (m.val : Nat) = true → rWaits 2 (m.val : Nat) ≠ 0 → (upto (rSends 1 2)).contains (rWaits 2 (m.val : Nat)) = true) ∧ (rHas 2 2 (m.val : Nat) = true → rWaits 2 (m.val : Nat) ≠ 0 → (upto (rSends 2 2)).contains (rWaits 2 (m.val : Nat)) = true) := by decide +kernel
  rcases hp' with rfl | rfl <;> rcases hd' with rfl | rfl
  · exact (key m).1 hh h0
  · exact (key m).2.2.1 hh h0
  · exact (key m).2.1 hh h0
  · exact (key m).2.2.2 hh h0

set_option maxRecDepth 100000 in
set_option maxHeartbeats 2000000 in
theorem law_meet (p s : Int) (ea : Int → Addr) (w : World) (h : Err3 ea w) : Calls Tryd.prog 7 #[.int .i64 p, .int .i64 s] w (Makes (.bool true) w) := by
  have H := Lib.hid h; clear h
  by_cases hp : 1 ≤ p ∧ p ≤ 2
  · have s1 : rSide p 1 = true := by rw [side_iff p 1 (by omega)]; simpa using hp
    have s2 : rSide p 2 = true := by rw [side_iff p 2 (by omega)]; simpa using hp
    have hml := meet_lists p hp
    have hS1 := fun W => sends_yes p 1 W s1
    have hT2 := fun W => takes_yes p 2 W s2
    have hS2 := fun W => sends_yes p 2 W s2
    have hT1 := fun W => takes_yes p 1 W s1
    rw [hml.1] at hT2
    rw [hml.2] at hT1
    have S1 := Lib.hid hS1; have T2 := Lib.hid hT2; have S2 := Lib.hid hS2; have T1 := Lib.hid hT1
    clear hS1 hT2 hS2 hT1 hml
    have HS1 := Lib.hid s1; have HS2 := Lib.hid s2; clear s1 s2
    go_enter Tryd.func7, Tryd.ntmps7
    go_wp2_with (go_at_call 10; refine (alive10 ea _ H.out).mono ?_; rintro e w0 ⟨rfl, hb0⟩)
    refine (S1.out _).mono ?_
    rintro e w1 ⟨v1, rfl, o1, hb1⟩
    have R1 := Lib.hid o1.read; clear o1
    go_wp2_with fail
    refine (T2.out _).mono ?_
    rintro e w2 ⟨v2, rfl, o2, hb2⟩
    have R2 := Lib.hid o2.read; clear o2
    go_wp2_with fail
    refine (S2.out _).mono ?_
    rintro e w3 ⟨v3, rfl, o3, hb3⟩
    have R3 := Lib.hid o3.read; clear o3
    go_wp2_with fail
    refine (T1.out _).mono ?_
    rintro e w4 ⟨v4, rfl, o4, hb4⟩
    have R4 := Lib.hid o4.read; clear o4
    have B4 : Below w.heap.size w w4 := below_then (below_then (below_then (below_then hb0 hb1) hb2) hb3) hb4
    go_wp2_with fail
    refine (same_yes _ v1 v2 _ (((R1.out.below hb2).below hb3).below hb4) ((R2.out.below hb3).below hb4) (upto_len _)).mono ?_
    rintro e w5 ⟨rfl, hd5⟩
    have B5 : Below w.heap.size w w5 := by obtain ⟨n, rfl⟩ := hd5; exact Below.drewN B4 n
    have hb5 : Below w4.heap.size w4 w5 := by obtain ⟨n, rfl⟩ := hd5; exact Below.drewN (Below.refl _ _) n
    clear hd5
    go_wp2_with fail
    refine (same_yes _ v3 v4 _ ((R3.out.below hb4).below hb5) (R4.out.below hb5) (upto_len _)).mono ?_
    rintro e w6 ⟨rfl, hd6⟩
    have B6 : Below w.heap.size w w6 := by obtain ⟨n, rfl⟩ := hd6; exact Below.drewN B5 n
    clear hd6 R1 R2 R3 R4 hb1 hb2 hb3 hb4 hb5 hb0 B4 B5
    go_wp2_with fail
    go_loopw [13] (fun i wr => ∃ k : Nat, 1 ≤ k ∧ k ≤ 3 ∧ i = .int .i64 k ∧ Below w.heap.size w wr) (fun i _ => 3 - (intOf i).toNat)
    case atStart => exact ⟨1, by omega, by omega, by go_num, B6⟩
    case round =>
      obtain ⟨k, hk1, hk3, rfl, hB⟩ := hrel
      by_cases hlt : k ≤ 2
      · have hsd : rSide p k = true := by rw [side_iff p k (by omega)]; simpa using hp
        have hW := waits_any p k s ea wr (H.out.below hB)
        by_cases hh : rHas p k s = true
        · rw [show rWait p k s = (rWaits k s, 0) by simp [rWait, hsd, hh]] at hW
          simp only [errOf, if_true] at hW
          obtain ⟨g, hg⟩ : ∃ g, g = rWaits k s := ⟨_, rfl⟩
          rw [← hg] at hW
          by_cases h0 : g = 0
          · have h0' : (g == 0) = true := by simpa using h0
            have HW := Lib.hid hW; clear hW hg h0
            go_wp2_with (go_at_call 14; refine (HW.out).mono ?_; rintro e w7 ⟨rfl, hb7⟩)
            go_roundw
            case rel => exact ⟨k + 1, by omega, by omega, by go_num, below_then hB hb7⟩
            case measure => simp [intOf]; omega
          · have hin := waits_in p k s hp (by omega) hh (by rw [← hg]; exact h0)
            rw [← hg] at hin
            have h0' : (g == 0) = false := by simpa using h0
            have HW := Lib.hid hW; clear hW hg h0
            have HIN := Lib.hid hin; clear hin
            have hS := fun W => sends_yes p k W hsd
            have HS := Lib.hid hS; clear hS hh
            go_wp2_with fail
            refine (HW.out).mono ?_
            rintro e w7 ⟨rfl, hb7⟩
            go_wp2_with fail
            refine (HS.out _).mono ?_
            rintro e w8 ⟨v8, rfl, o8, hb8⟩
            have R8 := Lib.hid o8.read; clear o8
            go_wp2_with fail
            refine (in_any _ g v8 _ R8.out (upto_len _)).mono ?_
            rw [HIN.out]
            rintro e w9 ⟨rfl, rfl⟩
            go_wp2_with fail
            go_roundw
            case rel => exact ⟨k + 1, by omega, by omega, by go_num, below_then (below_then hB hb7) hb8⟩
            case measure => simp [intOf]; omega
        · have hh' : rHas p k s = false := by simpa using hh
          rw [show rWait p k s = (0, 1) by simp [rWait, hsd, hh']] at hW
          have hW' : Calls Tryd.prog 14 #[.int .i64 p, .int .i64 k, .int .i64 s] wr (Makes (.tuple #[.int .i64 0, errV (ea 1)]) wr) := hW
          have HW := Lib.hid hW'; clear hW hW' hh hh'
          go_wp2_with (go_at_call 14; refine (HW.out).mono ?_; rintro e w7 ⟨rfl, hb7⟩)
          go_roundw
          case rel => exact ⟨k + 1, by omega, by omega, by go_num, below_then hB hb7⟩
          case measure => simp [intOf]; omega
      · obtain rfl : k = 3 := by omega
        go_wp2_with fail
        go_ret
        exact ⟨rfl, hB⟩
  · have s1 : rSide p 1 = false := by rw [side_iff p 1 (by omega)]; simpa using hp
    have s2 : rSide p 2 = false := by rw [side_iff p 2 (by omega)]; simpa using hp
    have hS1 := fun W hW => sends_no p 1 (ea 14) W hW s1
    have hT2 := fun W hW => takes_no p 2 (ea 14) W hW s2
    have hS2 := fun W hW => sends_no p 2 (ea 14) W hW s2
    have hT1 := fun W hW => takes_no p 1 (ea 14) W hW s1
    have S1 := Lib.hid hS1; have T2 := Lib.hid hT2; have S2 := Lib.hid hS2; have T1 := Lib.hid hT1
    clear hS1 hT2 hS2 hT1 s1 s2 hp
    go_enter Tryd.func7, Tryd.ntmps7
    go_wp2_with (go_at_call 10; refine (alive10 ea _ H.out).mono ?_; rintro e w0 ⟨rfl, hb0⟩)
    refine (S1.out _ (H.out.below hb0).e14).mono ?_
    rintro e w1 ⟨rfl, hb1⟩
    have B1 : Below w.heap.size w w1 := below_then hb0 hb1
    go_wp2_with fail
    refine (T2.out _ (H.out.below B1).e14).mono ?_
    rintro e w2 ⟨rfl, hb2⟩
    have B2 : Below w.heap.size w w2 := below_then B1 hb2
    go_wp2_with fail
    refine (S2.out _ (H.out.below B2).e14).mono ?_
    rintro e w3 ⟨rfl, hb3⟩
    have B3 : Below w.heap.size w w3 := below_then B2 hb3
    go_wp2_with fail
    refine (T1.out _ (H.out.below B3).e14).mono ?_
    rintro e w4 ⟨rfl, hb4⟩
    have B4 : Below w.heap.size w w4 := below_then B3 hb4
    go_wp2_with fail
    go_ret
    exact ⟨rfl, B4⟩
end Go.Proofs.YtaoejkjkgdnpmaaDoor
