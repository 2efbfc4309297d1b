/- The walks of package moves: one seat. -/
import Derived.Test.YtkidljiffeonjaaDoorRows
import Derived.WalkKit
import Derived.WalkSpells
import Derived.WalkLawsBesides
import Derived.BigQuiet
import Derived.Deep.QuietTactic
import Derived.StillTailTactics
import Derived.Handy
import Derived.Lib.Hide
import Derived.Test.YtkidljiffeonjaaDoorTabH
import Derived.Test.YtkidljiffeonjaaDoorMovPlain
import Derived.Test.YtkidljiffeonjaaDoorNum
import Derived.Deep.RegionHeld3
set_option linter.unusedSimpArgs false
set_option linter.unusedVariables false
namespace Go.Proofs.YtkidljiffeonjaaDoor
open Go.RowKit

abbrev seatV (x : MSeat) : Value := .agg #[.int .i64 x.p, .int .i64 x.d, .int .i64 x.s, .int .i64 x.h]
abbrev effV (e : Eff) : Value := .agg #[.int .i64 e.seat.p, .int .i64 e.seat.d, .int .i64 e.seat.s, .int .i64 e.seat.h, .int .i64 e.send, .int .i64 e.fault, .int .i64 e.work, .bool e.ch]
def IntsAtB (w : World) (g : Nat) (xs : List Int) : Prop := ∀ i (h : i < xs.length), w.cell? ⟨g, i, none⟩ = some (.int .i64 xs[i])

set_option maxHeartbeats 400000 in
theorem ends_any (w : World) : Calls Tryd.prog 58 #[] w fun e w' => e = .returned (.slice (some ⟨w.heap.size, 0, none⟩) 6 6) ∧ w' = w.alloc (.cells #[.int .i64 1, .int .i64 4, .int .i64 5, .int .i64 6, .int .i64 7, .int .i64 8] 3) := by
  go_enter Tryd.func58, Tryd.ntmps58
  go_wp2
  go_ret
  exact ⟨rfl, rfl⟩

set_option maxHeartbeats 1000000 in
theorem index_any (xs : List Int) (n : Int) (g cap : Nat) (w : World) (h : IntsAtB w g xs) (hl : xs.length ≤ 1000) :
    Calls Tryd.prog 100 #[.slice (some ⟨g, 0, none⟩) xs.length cap, .int .i64 n] w (Gives (.int .i64 (idxOf xs n)) w) := by
  have I1 := Lib.hid h; clear h
  go_enter Tryd.func100, Tryd.ntmps100
  go_wp2
  go_loop [8] (fun i => ∃ k : Nat, k ≤ xs.length ∧ i = .int .i64 k ∧ Hid (∀ j, (h : j < xs.length) → j < k → xs[j] ≠ n)) (fun i => xs.length - (intOf i).toNat)
  case atStart => exact ⟨0, by omega, rfl, Lib.hid (fun j _ hj => absurd hj (Nat.not_lt_zero _))⟩
  case round =>
    obtain ⟨k, hk, rfl, HN⟩ := hrel
    by_cases hlt : k < xs.length
    · have a1 := I1.out k hlt
      by_cases hx : xs[k] = n
      · have hi := idxOf_at hlt (fun i h hi => HN.out i h hi) hx
        rw [hx] at a1
        have HM := Lib.hid hi; clear hi hx
        go_wp2
        go_ret
        exact ⟨ret_int HM.out.symm, rfl⟩
      · have hx' : (n == xs[k]) = false := by simpa using fun e => hx e.symm
        obtain ⟨x, hxk⟩ : ∃ x, x = xs[k] := ⟨_, rfl⟩
        rw [← hxk] at a1 hx'
        have HX := Lib.hid hx; clear hx hxk
        go_wp2
        go_round
        case rel =>
          refine ⟨k + 1, by omega, by go_num, Lib.hid (fun j h hj => ?_)⟩
          rcases Nat.lt_succ_iff_lt_or_eq.1 hj with h' | rfl
          · exact HN.out j h h'
          · exact HX.out
        case measure => simp [intOf]; omega
    · have hi := idxOf_none (ks := xs) (k := n) (fun i h => HN.out i h (by omega))
      have HM := Lib.hid hi; clear hi
      go_wp2
      go_ret
      exact ⟨ret_int HM.out.symm, rfl⟩
theorem idx_contains (xs : List Int) (n : Int) : decide (0 ≤ idxOf xs n) = xs.contains n := by
  unfold idxOf
  cases h : xs.findIdx? (fun a => a == n) with
  | some i =>
    have := List.findIdx?_eq_some_iff_getElem.1 h
    obtain ⟨hi, he, _⟩ := this
    have hm : n ∈ xs := by
      have : xs[i] = n := by simpa using he
      rw [← this]; exact List.getElem_mem _
    simp [hm]
  | none =>
    have := List.findIdx?_eq_none_iff.1 h
    have hm : ¬ n ∈ xs := fun hm => by simpa using this n hm
    simp [hm]

set_option maxHeartbeats 1000000 in
theorem contains_any (xs : List Int) (n : Int) (g cap : Nat) (w : World) (h : IntsAtB w g xs) (hl : xs.length ≤ 1000) :
    Calls Tryd.prog 57 #[.slice (some ⟨g, 0, none⟩) xs.length cap, .int .i64 n] w (Gives (.bool (xs.contains n)) w) := by
  have hc := idx_contains xs n
  obtain ⟨i, hi⟩ : ∃ i, i = idxOf xs n := ⟨_, rfl⟩
  have hx := index_any xs n g cap w h hl
  rw [← hi] at hx hc
  have HX := Lib.hid hx; clear hx h
  rw [← hc]
  clear hc hi
  go_enter Tryd.func57, Tryd.ntmps57
  go_wp2_with (go_at_call 100; refine (HX.out).mono ?_; rintro e w' ⟨rfl, rfl⟩)
  go_ret
  exact ⟨rfl, rfl⟩

theorem ends_at (w : World) : IntsAtB (World.drew (w.alloc (.cells #[.int .i64 1, .int .i64 4, .int .i64 5, .int .i64 6, .int .i64 7, .int .i64 8] 3))) w.heap.size [1, 4, 5, 6, 7, 8] := by
  intro i h
  have : i < 6 := h
  match i, this with
  | 0, _ => simp
  | 1, _ => simp
  | 2, _ => simp
  | 3, _ => simp
  | 4, _ => simp
  | 5, _ => simp

set_option maxHeartbeats 2000000 in
theorem right_of (x : MSeat) (ea : Int → Addr) (w : World) (h : Err3 ea w) : Calls Tryd.prog 17 #[seatV x] w (Makes (.bool (mRight x)) w) := by
  obtain ⟨p, d, s, h4⟩ := x
  have H := Lib.hid h; clear h
  dsimp only [seatV]
  obtain ⟨k, n, hk⟩ : ∃ k n, rWait p d s = (k, n) := ⟨_, _, rfl⟩
  have hW : ∀ W, Err3 ea W → Calls Tryd.prog 56 #[.int .i64 p, .int .i64 d, .int .i64 s] W (Makes (.tuple #[.int .i64 k, errOf ea n]) W) := fun W hw => by
    have := waits_any p d s ea W hw
    rw [hk] at this; exact this
  have hm : mRight ⟨p, d, s, h4⟩ = (decide (n = 0) && (if s = 14 then [1, 4, 5, 6, 7, 8].contains h4 else decide (h4 = 0))) := by simp only [mRight, hk]
  rw [hm]; clear hm hk
  have HW := Lib.hid hW; clear hW
  by_cases hn : n = 0
  · subst hn
    simp only [errOf, if_true] at HW
    by_cases hs : s = 14
    · subst hs
      simp only [decide_true, Bool.true_and, if_true]
      obtain ⟨c, hc⟩ : ∃ c, c = [1, 4, 5, 6, 7, 8].contains h4 := ⟨_, rfl⟩
      have hcon : ∀ W g, IntsAtB W g [1, 4, 5, 6, 7, 8] → Calls Tryd.prog 57 #[.slice (some ⟨g, 0, none⟩) 6 6, .int .i64 h4] W (Gives (.bool c) W) := fun W g hi => by
        have := contains_any [1, 4, 5, 6, 7, 8] h4 g 6 W hi (by decide)
        rw [← hc] at this; exact this
      rw [← hc]
      have HC := Lib.hid hcon; clear hcon hc
      go_enter Tryd.func17, Tryd.ntmps17
      go_wp2_with (go_at_call 56; refine (HW.out _ (H.out.below (by go_grown))).mono ?_; rintro e w1 ⟨rfl, hb1⟩; have HK1 := Lib.hid ((Blk.fresh w _ _ _ rfl).below hb1); obtain ⟨q1, f1⟩ := HK1.out.out; have hz1 := hb1.size; simp only [World.size_alloc] at hz1; have B1 : Below w.heap.size w w1 := below_then (by go_grown) hb1)
      have a3 : w1.cell? ⟨w.heap.size, 3, none⟩ = some (.int .i64 h4) := q1 3
      clear q1 f1
      go_region_held3 (fun w' => w'.cell? ⟨w.heap.size, 3, none⟩ = some (.int .i64 h4)) (first | go_keep | (simp; assumption)) (first
        | (go_at_call 58; refine (ends_any _).mono ?_; rintro e w2 ⟨rfl, rfl⟩)
        | (go_at_call 57; refine (HC.out _ _ (ends_at _)).mono ?_; rintro e w3 ⟨rfl, rfl⟩))
      go_wp2
      go_ret
      exact ⟨rfl, (B1.alloc B1.size _).drew⟩
    · obtain ⟨b, hb⟩ : ∃ b, b = decide (h4 = 0) := ⟨_, rfl⟩
      simp only [decide_true, Bool.true_and, if_neg hs]
      have hs' : (s != 14) = true := by simpa using hs
      have hh : (h4 == 0) = b := by rw [hb]; rfl
      rw [← hb]; clear hb
      go_enter Tryd.func17, Tryd.ntmps17
      go_wp2_with (go_at_call 56; refine (HW.out _ (H.out.below (by go_grown))).mono ?_; rintro e w1 ⟨rfl, hb1⟩; have HK1 := Lib.hid ((Blk.fresh w _ _ _ rfl).below hb1); obtain ⟨q1, f1⟩ := HK1.out.out; have B1 : Below w.heap.size w w1 := below_then (by go_grown) hb1)
      go_ret
      exact ⟨rfl, B1⟩
  · rw [show decide (n = 0) = false by simpa using hn, Bool.false_and]
    simp only [errOf, if_neg hn] at HW
    go_enter Tryd.func17, Tryd.ntmps17
    go_wp2_with (go_at_call 56; refine (HW.out _ (H.out.below (by go_grown))).mono ?_; rintro e w1 ⟨rfl, hb1⟩; have B1 : Below w.heap.size w w1 := below_then (by go_grown) hb1)
    go_ret
    exact ⟨rfl, B1⟩
end Go.Proofs.YtkidljiffeonjaaDoor
