/- The laws of the tables, walked: TablesLook, TablesSteps, TablesWaits, TablesAlike. -/
import Derived.Test.YtaoejkjkgdnpmaaDoorRows
import Derived.WalkKit
import Derived.WalkSpells
import Derived.WalkLawsBesides
import Derived.BigQuiet
import Derived.Deep.QuietTactic
import Derived.StillTailTactics
import Derived.Handy
import Derived.Lib.Hide
import Derived.Test.YtaoejkjkgdnpmaaDoorTabI
import Derived.Test.YtaoejkjkgdnpmaaDoorNum
set_option linter.unusedSimpArgs false
set_option linter.unusedVariables false
namespace Go.Proofs.YtaoejkjkgdnpmaaDoor
open Go.RowKit

theorem Errs.three {ea : Int → Addr} {w : World} (h : Errs ea w) : Err3 ea w := ⟨h.e1, h.e4, h.e14⟩
theorem num_any (n : Int) (hn : 0 ≤ n ∧ n ≤ 14) (ea : Int → Addr) (w : World) (h : Errs ea w) : Calls Tryd.prog 13 #[errOf ea n] w (Makes (.int .i64 n) w) := by
  unfold errOf
  split
  · rename_i h0; subst h0; exact num_nil w
  · exact num_some n (by omega) ea w h
theorem rLook_err (p d k s : Int) : 0 ≤ (rLook p d k s).2 ∧ (rLook p d k s).2 ≤ 14 := by
  unfold rLook; repeat' split
  all_goals (constructor <;> simp only <;> omega)
theorem rStep_err (p d k s : Int) : 0 ≤ (rStep p d k s).2 ∧ (rStep p d k s).2 ≤ 14 := by
  unfold rStep; repeat' split
  all_goals (constructor <;> simp only <;> omega)

set_option maxHeartbeats 1000000 in
theorem law_look (p d k s : Int) (ea : Int → Addr) (w : World) (h : Errs ea w) : Calls Tryd.prog 4 #[.agg #[.int .i64 p, .int .i64 d], .int .i64 k, .int .i64 s] w (Makes (.bool true) w) := by
  obtain ⟨x1, x2, x3, n, hx⟩ : ∃ x1 x2 x3 n, rLook p d k s = ((x1, x2, x3), n) := ⟨_, _, _, _, rfl⟩
  have hn := rLook_err p d k s
  have hL : ∀ W, Err3 ea W → Calls Tryd.prog 11 #[.int .i64 p, .int .i64 d, .int .i64 k, .int .i64 s] W (Makes (.tuple #[.agg #[.int .i64 x1, .int .i64 x2, .int .i64 x3], errOf ea n]) W) := fun W hW => by
    have := look_any p d k s ea W hW
    rw [hx] at this; exact this
  have hR : ∀ W, Calls Tryd.prog 12 #[.int .i64 p, .int .i64 d, .int .i64 k, .int .i64 s] W (Makes (.tuple #[.agg #[.int .i64 x1, .int .i64 x2, .int .i64 x3], .int .i64 n]) W) := fun W => by
    have := rlook_any p d k s W
    rw [hx] at this; exact this
  rw [hx] at hn
  simp only at hn
  clear hx
  have HL := Lib.hid hL; clear hL
  have HR := Lib.hid hR; clear hR
  have H := Lib.hid h; clear h
  go_enter Tryd.func4, Tryd.ntmps4
  go_wp2_with (first
    | (go_at_call 10; refine (alive10 ea _ (H.out.three.below (by go_grown))).mono ?_; rintro e w1 ⟨rfl, hb1⟩; have HK1 := Lib.hid ((Blk.fresh w _ _ _ rfl).below hb1); obtain ⟨q1, f1⟩ := HK1.out.out; have hz1 := hb1.size; simp only [World.size_alloc] at hz1; have B1 : Below w.heap.size w w1 := below_then (by go_grown) hb1)
    | (go_at_call 11; refine (HL.out _ (H.out.three.below B1)).mono ?_; rintro e w2 ⟨rfl, hb2⟩; clear q1 f1; have HK2 := Lib.hid ((HK1.out.below hb2).alloc (.cells #[.int .i64 x1, .int .i64 x2, .int .i64 x3] 24)); obtain ⟨q1, f1⟩ := HK2.out.out; have hz2 := hb2.size; have B2 : Below w.heap.size w w2 := below_then B1 hb2)
    | (go_at_call 12; refine (HR.out _).mono ?_; rintro e w3 ⟨rfl, hb3⟩; obtain ⟨q2, f2⟩ := (((Blk.fresh w2 _ _ _ rfl).below hb3).alloc (.cells #[.int .i64 x1, .int .i64 x2, .int .i64 x3] 32)).out; have hz3 := hb3.size; simp only [World.size_alloc] at hz3; have B3 : Below w.heap.size w w3 := below_then (by go_grown) hb3)
    | (go_at_call 13; refine (num_any n hn ea _ (H.out.below (by go_grown))).mono ?_; rintro e w4 ⟨rfl, hb4⟩; have B4 : Below w.heap.size w w4 := below_then (by go_grown) hb4))
  go_ret
  exact ⟨rfl, B4⟩

set_option maxHeartbeats 1000000 in
theorem law_steps (p d k s : Int) (ea : Int → Addr) (w : World) (h : Errs ea w) : Calls Tryd.prog 6 #[.agg #[.int .i64 p, .int .i64 d], .int .i64 k, .int .i64 s] w (Makes (.bool true) w) := by
  obtain ⟨x, n, hx⟩ : ∃ x n, rStep p d k s = (x, n) := ⟨_, _, rfl⟩
  have hn := rStep_err p d k s
  have hL : ∀ W, Errs ea W → Calls Tryd.prog 18 #[.int .i64 p, .int .i64 d, .int .i64 k, .int .i64 s] W (Makes (.tuple #[.int .i64 x, errOf ea n]) W) := fun W hW => by
    have := step_any p d k s ea W hW.three hW.e9
    rw [hx] at this; exact this
  have hR : ∀ W, Calls Tryd.prog 19 #[.int .i64 p, .int .i64 d, .int .i64 k, .int .i64 s] W (Gives (.tuple #[.int .i64 x, .int .i64 n]) W) := fun W => by
    have := rstep_any p d k s W
    rw [hx] at this; exact this
  rw [hx] at hn
  simp only at hn
  clear hx
  have HL := Lib.hid hL; clear hL
  have HR := Lib.hid hR; clear hR
  have H := Lib.hid h; clear h
  go_enter Tryd.func6, Tryd.ntmps6
  go_wp2_with (first
    | (go_at_call 10; refine (alive10 ea _ (H.out.three.below (by go_grown))).mono ?_; rintro e w1 ⟨rfl, hb1⟩; have HK1 := Lib.hid ((Blk.fresh w _ _ _ rfl).below hb1); obtain ⟨q1, f1⟩ := HK1.out.out; have hz1 := hb1.size; simp only [World.size_alloc] at hz1; have B1 : Below w.heap.size w w1 := below_then (by go_grown) hb1)
    | (go_at_call 18; refine (HL.out _ (H.out.below B1)).mono ?_; rintro e w2 ⟨rfl, hb2⟩; clear q1 f1; obtain ⟨q1, f1⟩ := (HK1.out.below hb2).out; have B2 : Below w.heap.size w w2 := below_then B1 hb2)
    | (go_at_call 19; refine (HR.out _).mono ?_; rintro e w3 ⟨rfl, rfl⟩)
    | (go_at_call 13; refine (num_any n hn ea _ (H.out.below B2)).mono ?_; rintro e w4 ⟨rfl, hb4⟩; have B4 : Below w.heap.size w w4 := below_then B2 hb4))
  go_ret
  exact ⟨rfl, B4⟩

set_option maxHeartbeats 1000000 in
theorem right_any (p d : Int) (w : World) : Calls Tryd.prog 15 #[.agg #[.int .i64 p, .int .i64 d]] w (Makes (.bool (rSide p d)) w) := by
  go_enter Tryd.func15, Tryd.ntmps15
  go_wp2
  all_goals (go_ret; refine ⟨ret_bool ?_, by go_grown⟩; (try (rw [Bool.eq_iff_iff])); simp [rSide]; (try omega))

set_option maxHeartbeats 2000000 in
theorem law_waits (p d s : Int) (ea : Int → Addr) (w : World) (h : Errs ea w) : Calls Tryd.prog 5 #[.agg #[.int .i64 p, .int .i64 d], .int .i64 s] w (Makes (.bool true) w) := by
  have H := Lib.hid h; clear h
  by_cases hs : rSide p d = true
  · by_cases hh : rHas p d s = true
    · have e : rWait p d s = (rWaits d s, 0) := by simp [rWait, hs, hh]
      have hL : ∀ W, Err3 ea W → Calls Tryd.prog 14 #[.int .i64 p, .int .i64 d, .int .i64 s] W (Makes (.tuple #[.int .i64 (rWaits d s), .nilIface]) W) := fun W hW => by
        have := waits_any p d s ea W hW
        rw [e] at this; exact this
      have HL := Lib.hid hL; clear hL e
      have HS := Lib.hid hs; clear hs
      have HH := Lib.hid hh; clear hh
      go_enter Tryd.func5, Tryd.ntmps5
      go_wp2_with (first
        | (go_at_call 10; refine (alive10 ea _ (H.out.three.below (by go_grown))).mono ?_; rintro e w1 ⟨rfl, hb1⟩; have HK1 := Lib.hid ((Blk.fresh w _ _ _ rfl).below hb1); obtain ⟨q1, f1⟩ := HK1.out.out; have hz1 := hb1.size; simp only [World.size_alloc] at hz1; have B1 : Below w.heap.size w w1 := below_then (by go_grown) hb1)
        | (go_at_call 14; refine (HL.out _ (H.out.three.below B1)).mono ?_; rintro e w2 ⟨rfl, hb2⟩; clear q1 f1; have HK2 := Lib.hid (HK1.out.below hb2); obtain ⟨q1, f1⟩ := HK2.out.out; have B2 : Below w.heap.size w w2 := below_then B1 hb2)
        | (go_at_call 15; refine (right_any _ _ _).mono ?_; rw [HS.out]; rintro e w3 ⟨rfl, hb3⟩; clear q1 f1; have HK3 := Lib.hid (HK2.out.below hb3); obtain ⟨q1, f1⟩ := HK3.out.out; have B3 : Below w.heap.size w w3 := below_then B2 hb3)
        | (go_at_call 16; refine (rhas_any _ _ _ _).mono ?_; rw [HH.out]; rintro e w4 ⟨rfl, rfl⟩)
        | (go_at_call 17; refine (rwaits_any _ _ _).mono ?_; rintro e w5 ⟨rfl, rfl⟩))
      go_ret
      exact ⟨ret_bool (by simp), B3⟩
    · have hh' : rHas p d s = false := by simpa using hh
      have e : rWait p d s = (0, 1) := by simp [rWait, hs, hh']
      have hL : ∀ W, Err3 ea W → Calls Tryd.prog 14 #[.int .i64 p, .int .i64 d, .int .i64 s] W (Makes (.tuple #[.int .i64 0, errV (ea 1)]) W) := fun W hW => by
        have := waits_any p d s ea W hW
        rw [e] at this; exact this
      have HL := Lib.hid hL; clear hL e hh
      have HS := Lib.hid hs; clear hs
      have HH := Lib.hid hh'; clear hh'
      go_enter Tryd.func5, Tryd.ntmps5
      go_wp2_with (first
        | (go_at_call 10; refine (alive10 ea _ (H.out.three.below (by go_grown))).mono ?_; rintro e w1 ⟨rfl, hb1⟩; have HK1 := Lib.hid ((Blk.fresh w _ _ _ rfl).below hb1); obtain ⟨q1, f1⟩ := HK1.out.out; have hz1 := hb1.size; simp only [World.size_alloc] at hz1; have B1 : Below w.heap.size w w1 := below_then (by go_grown) hb1)
        | (go_at_call 14; refine (HL.out _ (H.out.three.below B1)).mono ?_; rintro e w2 ⟨rfl, hb2⟩; clear q1 f1; have HK2 := Lib.hid (HK1.out.below hb2); obtain ⟨q1, f1⟩ := HK2.out.out; have B2 : Below w.heap.size w w2 := below_then B1 hb2)
        | (go_at_call 15; refine (right_any _ _ _).mono ?_; rw [HS.out]; rintro e w3 ⟨rfl, hb3⟩; clear q1 f1; have HK3 := Lib.hid (HK2.out.below hb3); obtain ⟨q1, f1⟩ := HK3.out.out; have B3 : Below w.heap.size w w3 := below_then B2 hb3)
        | (go_at_call 16; refine (rhas_any _ _ _ _).mono ?_; rw [HH.out]; rintro e w4 ⟨rfl, rfl⟩)
        | (go_at_call 13; refine (num_some 1 (by omega) ea _ (H.out.below B3)).mono ?_; rintro e w5 ⟨rfl, hb5⟩; have B5 : Below w.heap.size w w5 := below_then B3 hb5))
      go_ret
      exact ⟨rfl, B5⟩
  · have hs' : rSide p d = false := by simpa using hs
    have e : rWait p d s = (0, 14) := by simp [rWait, hs']
    have hL : ∀ W, Err3 ea W → Calls Tryd.prog 14 #[.int .i64 p, .int .i64 d, .int .i64 s] W (Makes (.tuple #[.int .i64 0, errV (ea 14)]) W) := fun W hW => by
      have := waits_any p d s ea W hW
      rw [e] at this; exact this
    have HL := Lib.hid hL; clear hL e hs
    have HS := Lib.hid hs'; clear hs'
    go_enter Tryd.func5, Tryd.ntmps5
    go_wp2_with (first
      | (go_at_call 10; refine (alive10 ea _ (H.out.three.below (by go_grown))).mono ?_; rintro e w1 ⟨rfl, hb1⟩; have HK1 := Lib.hid ((Blk.fresh w _ _ _ rfl).below hb1); obtain ⟨q1, f1⟩ := HK1.out.out; have hz1 := hb1.size; simp only [World.size_alloc] at hz1; have B1 : Below w.heap.size w w1 := below_then (by go_grown) hb1)
      | (go_at_call 14; refine (HL.out _ (H.out.three.below B1)).mono ?_; rintro e w2 ⟨rfl, hb2⟩; clear q1 f1; have HK2 := Lib.hid (HK1.out.below hb2); obtain ⟨q1, f1⟩ := HK2.out.out; have B2 : Below w.heap.size w w2 := below_then B1 hb2)
      | (go_at_call 15; refine (right_any _ _ _).mono ?_; rw [HS.out]; rintro e w3 ⟨rfl, hb3⟩; clear q1 f1; have B3 : Below w.heap.size w w3 := below_then B2 hb3)
      | (go_at_call 13; refine (num_some 14 (by omega) ea _ (H.out.below B3)).mono ?_; rintro e w5 ⟨rfl, hb5⟩; have B5 : Below w.heap.size w w5 := below_then B3 hb5))
    go_ret
    exact ⟨rfl, B5⟩

/-! TablesAlike -/
/-- the cells of both protocols, where both have the state -/
def alikeAt (d k s : Int) : Bool :=
  if (rLook 1 d k s).2 ≠ 0 ∨ (rLook 2 d k s).2 ≠ 0 then decide ((rLook 1 d k s).2 ≠ 0)
  else if d = 1 ∧ k = 3 ∧ (s = 1 ∨ s = 2) then decide ((rLook 1 d k s).1.1 = 1 ∧ (rLook 1 d k s).1.2.1 = 5 ∧ (rLook 2 d k s).1.1 = 4)
  else decide ((rLook 1 d k s).1 = (rLook 2 d k s).1)
theorem alike15 : ∀ d : Fin 3, ∀ k : Fin 15, ∀ s : Fin 15, alikeAt (d.val : Nat) (k.val : Nat) (s.val : Nat) = true := by decide +kernel
theorem alike_all (d k s : Int) : alikeAt d k s = true := by
  by_cases hd : 1 ≤ d ∧ d ≤ 2
  · obtain ⟨d', rfl⟩ : ∃ n : Fin 3, d = ((n.val : Nat) : Int) := ⟨⟨d.toNat, by omega⟩, by simp; omega⟩
    by_cases hk : 1 ≤ k ∧ k ≤ 14
    · obtain ⟨k', rfl⟩ := nat14 hk
      by_cases hs : 1 ≤ s ∧ s ≤ 14
      · obtain ⟨s', rfl⟩ := nat14 hs
        exact alike15 d' k' s'
      · have h1 : (rLook 1 (d'.val : Nat) (k'.val : Nat) s).2 ≠ 0 := by
          unfold rLook; repeat' split
          all_goals first | (simp only; omega) | (exfalso; rename_i h _; exact h (rHas_out hs)) | (exfalso; rename_i h; exact h (rHas_out hs))
        simp [alikeAt, h1]
    · have h1 : (rLook 1 (d'.val : Nat) k s).2 ≠ 0 := by
        unfold rLook
        by_cases hx : rSide 1 (d'.val : Nat) = false
        · rw [if_pos hx]; decide
        · rw [if_neg hx, if_pos (rTakes_out hk)]; decide
      simp [alikeAt, h1]
  · have h1 : (rLook 1 d k s).2 ≠ 0 := by
      unfold rLook
      rw [if_pos (by simp [rSide]; omega)]
      decide
    simp [alikeAt, h1]

set_option maxHeartbeats 2000000 in
theorem law_alike (d k s : Int) (ea : Int → Addr) (w : World) (h : Err3 ea w) : Calls Tryd.prog 3 #[.int .i64 d, .int .i64 k, .int .i64 s] w (Makes (.bool true) w) := by
  have hal := alike_all d k s
  obtain ⟨x1, x2, x3, n, hx⟩ : ∃ x1 x2 x3 n, rLook 1 d k s = ((x1, x2, x3), n) := ⟨_, _, _, _, rfl⟩
  obtain ⟨y1, y2, y3, m, hy⟩ : ∃ x1 x2 x3 n, rLook 2 d k s = ((x1, x2, x3), n) := ⟨_, _, _, _, rfl⟩
  have hL1 : ∀ W, Err3 ea W → Calls Tryd.prog 11 #[.int .i64 1, .int .i64 d, .int .i64 k, .int .i64 s] W (Makes (.tuple #[.agg #[.int .i64 x1, .int .i64 x2, .int .i64 x3], errOf ea n]) W) := fun W hW => by
    have := look_any 1 d k s ea W hW
    rw [hx] at this; exact this
  have hL2 : ∀ W, Err3 ea W → Calls Tryd.prog 11 #[.int .i64 2, .int .i64 d, .int .i64 k, .int .i64 s] W (Makes (.tuple #[.agg #[.int .i64 y1, .int .i64 y2, .int .i64 y3], errOf ea m]) W) := fun W hW => by
    have := look_any 2 d k s ea W hW
    rw [hy] at this; exact this
  simp only [alikeAt, hx, hy] at hal
  clear hx hy
  have H1 := Lib.hid hL1; clear hL1
  have H2 := Lib.hid hL2; clear hL2
  have H := Lib.hid h; clear h
  by_cases hn : n = 0
  · by_cases hm : m = 0
    · subst hn hm
      simp only [ne_eq, not_true_eq_false, or_self, if_false] at hal
      simp only [errOf, if_true] at H1 H2
      by_cases hc : d = 1 ∧ k = 3 ∧ (s = 1 ∨ s = 2)
      · rw [if_pos hc] at hal
        obtain ⟨rfl, rfl, rfl⟩ : x1 = 1 ∧ x2 = 5 ∧ y1 = 4 := by simpa using hal
        clear hal
        obtain ⟨rfl, rfl, hs⟩ := hc
        rcases hs with rfl | rfl
        all_goals
          go_enter Tryd.func3, Tryd.ntmps3
          go_wp2_with (go_at_call 10; refine (alive10 ea _ H.out).mono ?_; rintro e w1 ⟨rfl, hb1⟩; have hz1 := hb1.size)
          refine (H1.out _ (H.out.below hb1)).mono ?_
          rintro e w2 ⟨rfl, hb2⟩
          have B2 : Below w.heap.size w w2 := below_then hb1 hb2
          have hz2 := hb2.size
          go_wp2_with fail
          refine (H2.out _ (H.out.below (by go_grown))).mono ?_
          rintro e w3 ⟨rfl, hb3⟩
          have B3 : Below w.heap.size w w3 := below_then (by go_grown) hb3
          have hz3 := hb3.size
          simp only [World.size_alloc] at hz3
          obtain ⟨q1, f1⟩ := (((Blk.fresh w2 _ _ _ rfl).below hb3).alloc (.cells #[.int .i64 4, .int .i64 y2, .int .i64 y3] 24)).out
          go_wp2_with fail
          go_ret
          exact ⟨rfl, by go_grown⟩
      · rw [if_neg hc] at hal
        obtain ⟨rfl, rfl, rfl⟩ : x1 = y1 ∧ x2 = y2 ∧ x3 = y3 := by simpa using hal
        clear hal
        have hc3 : (d == 1) = false ∨ (k == 3) = false ∨ ((s == 1) = false ∧ (s == 2) = false) := by
          simp only [beq_eq_false_iff_ne, ne_eq]; omega
        clear hc
        rcases hc3 with hc | hc | ⟨hc, hc'⟩
        all_goals
          go_enter Tryd.func3, Tryd.ntmps3
          go_wp2_with (go_at_call 10; refine (alive10 ea _ H.out).mono ?_; rintro e w1 ⟨rfl, hb1⟩; have hz1 := hb1.size)
          refine (H1.out _ (H.out.below hb1)).mono ?_
          rintro e w2 ⟨rfl, hb2⟩
          have B2 : Below w.heap.size w w2 := below_then hb1 hb2
          have hz2 := hb2.size
          go_wp2_with fail
          refine (H2.out _ (H.out.below (by go_grown))).mono ?_
          rintro e w3 ⟨rfl, hb3⟩
          have B3 : Below w.heap.size w w3 := below_then (by go_grown) hb3
          have hz3 := hb3.size
          simp only [World.size_alloc] at hz3
          obtain ⟨q1, f1⟩ := (((Blk.fresh w2 _ _ _ rfl).below hb3).alloc (.cells #[.int .i64 x1, .int .i64 x2, .int .i64 x3] 24)).out
          go_wp2_with fail
          all_goals go_ret
          all_goals exact ⟨rfl, by go_grown⟩
    · exfalso
      subst hn
      simp [hm] at hal
  · have e1 : errOf ea n = errV (ea n) := by simp [errOf, hn]
    rw [e1] at H1
    clear e1 hal hn
    obtain ⟨em, hem⟩ : ∃ v, v = errOf ea m := ⟨_, rfl⟩
    rw [← hem] at H2
    clear hem
    go_enter Tryd.func3, Tryd.ntmps3
    go_wp2_with (go_at_call 10; refine (alive10 ea _ H.out).mono ?_; rintro e w1 ⟨rfl, hb1⟩; have hz1 := hb1.size)
    refine (H1.out _ (H.out.below hb1)).mono ?_
    rintro e w2 ⟨rfl, hb2⟩
    have B2 : Below w.heap.size w w2 := below_then hb1 hb2
    have hz2 := hb2.size
    go_wp2_with fail
    refine (H2.out _ (H.out.below (by go_grown))).mono ?_
    rintro e w3 ⟨rfl, hb3⟩
    have B3 : Below w.heap.size w w3 := below_then (by go_grown) hb3
    have hz3 := hb3.size
    simp only [World.size_alloc] at hz3
    go_wp2_with fail
    go_ret
    exact ⟨rfl, by go_grown⟩
end Go.Proofs.YtaoejkjkgdnpmaaDoor
