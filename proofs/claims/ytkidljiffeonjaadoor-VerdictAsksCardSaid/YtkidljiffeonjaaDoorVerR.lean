/- Seat.Right where two errors are laid. -/
import Derived.Test.YtkidljiffeonjaaDoorRows
import Derived.WalkKit
import Derived.WalkSpells
import Derived.WalkLawsBesides
import Derived.BigQuiet
import Derived.Deep.QuietTactic
import Derived.StillTailTactics
import Derived.Handy
import Derived.Lib.Hide
import Derived.Test.YtkidljiffeonjaaDoorMovA
set_option linter.unusedSimpArgs false
set_option linter.unusedVariables false
namespace Go.Proofs.YtkidljiffeonjaaDoor
open Go.RowKit

structure Err2 (ea : Int → Addr) (w : World) : Prop where
  e1 : ErrIs w 1 (ea 1)
  e14 : ErrIs w 13 (ea 14)
theorem Err2.below {ea : Int → Addr} {w w' : World} (h : Err2 ea w) (hb : Below w.heap.size w w') : Err2 ea w' := ⟨h.e1.below hb, h.e14.below hb⟩
theorem waits_any2 (p d s : Int) (ea : Int → Addr) (w : World) (h : Err2 ea w) :
    Calls Tryd.prog 56 #[.int .i64 p, .int .i64 d, .int .i64 s] w (Makes (.tuple #[.int .i64 (rWait p d s).1, errOf ea (rWait p d s).2]) w) := by
  rw [← tWaits_eq]
  cases ht : tabOf p d with
  | some t => exact waits_tab p d s t ea w ht h.e1
  | none =>
    have := waits_none p d s (ea 14) w h.e14 ht
    have e : tWaits p d s = (0, 14) := by simp only [tWaits, ht]
    rw [e]; exact this

set_option maxHeartbeats 2000000 in
theorem right_of2 (x : MSeat) (ea : Int → Addr) (w : World) (h : Err2 ea w) : Calls Tryd.prog 17 #[seatV x] w (Makes (.bool (mRight x)) w) := by
  obtain ⟨p, d, s, h4⟩ := x
  have H := Lib.hid h; clear h
  dsimp only [seatV]
  obtain ⟨k, n, hk⟩ : ∃ k n, rWait p d s = (k, n) := ⟨_, _, rfl⟩
  have hW : ∀ W, Err2 ea W → Calls Tryd.prog 56 #[.int .i64 p, .int .i64 d, .int .i64 s] W (Makes (.tuple #[.int .i64 k, errOf ea n]) W) := fun W hw => by
    have := waits_any2 p d s ea W hw
    rw [hk] at this; exact this
  have hm : mRight ⟨p, d, s, h4⟩ = (decide (n = 0) && (if s = 14 then [1, 4, 5, 6, 7, 8].contains h4 else decide (h4 = 0))) := by simp only [mRight, hk]
  rw [hm]; clear hm hk
  have HW := Lib.hid hW; clear hW
  by_cases hn : n = 0
  · subst hn
    simp only [errOf, if_true] at HW
    by_cases hs : s = 14
    · subst hs
      simp only [decide_true, Bool.true_and, if_true]
      obtain ⟨c, hc⟩ : ∃ c, c = [1, 4, 5, 6, 7, 8].contains h4 := ⟨_, rfl⟩
      have hcon : ∀ W g, IntsAtB W g [1, 4, 5, 6, 7, 8] → Calls Tryd.prog 57 #[.slice (some ⟨g, 0, none⟩) 6 6, .int .i64 h4] W (Gives (.bool c) W) := fun W g hi => by
        have := contains_any [1, 4, 5, 6, 7, 8] h4 g 6 W hi (by decide)
        rw [← hc] at this; exact this
      rw [← hc]
      have HC := Lib.hid hcon; clear hcon hc
      go_enter Tryd.func17, Tryd.ntmps17
      go_wp2_with (go_at_call 56; refine (HW.out _ (H.out.below (by go_grown))).mono ?_; rintro e w1 ⟨rfl, hb1⟩; have HK1 := Lib.hid ((Blk.fresh w _ _ _ rfl).below hb1); obtain ⟨q1, f1⟩ := HK1.out.out; have hz1 := hb1.size; simp only [World.size_alloc] at hz1; have B1 : Below w.heap.size w w1 := below_then (by go_grown) hb1)
      have a3 : w1.cell? ⟨w.heap.size, 3, none⟩ = some (.int .i64 h4) := q1 3
      clear q1 f1
      go_region_held3 (fun w' => w'.cell? ⟨w.heap.size, 3, none⟩ = some (.int .i64 h4)) (first | go_keep | (simp; assumption)) (first
        | (go_at_call 58; refine (ends_any _).mono ?_; rintro e w2 ⟨rfl, rfl⟩)
        | (go_at_call 57; refine (HC.out _ _ (ends_at _)).mono ?_; rintro e w3 ⟨rfl, rfl⟩))
      go_wp2
      go_ret
      exact ⟨rfl, (B1.alloc B1.size _).drew⟩
    · obtain ⟨b, hb⟩ : ∃ b, b = decide (h4 = 0) := ⟨_, rfl⟩
      simp only [decide_true, Bool.true_and, if_neg hs]
      have hs' : (s != 14) = true := by simpa using hs
      have hh : (h4 == 0) = b := by rw [hb]; rfl
      rw [← hb]; clear hb
      go_enter Tryd.func17, Tryd.ntmps17
      go_wp2_with (go_at_call 56; refine (HW.out _ (H.out.below (by go_grown))).mono ?_; rintro e w1 ⟨rfl, hb1⟩; have HK1 := Lib.hid ((Blk.fresh w _ _ _ rfl).below hb1); obtain ⟨q1, f1⟩ := HK1.out.out; have B1 : Below w.heap.size w w1 := below_then (by go_grown) hb1)
      go_ret
      exact ⟨rfl, B1⟩
  · rw [show decide (n = 0) = false by simpa using hn, Bool.false_and]
    simp only [errOf, if_neg hn] at HW
    go_enter Tryd.func17, Tryd.ntmps17
    go_wp2_with (go_at_call 56; refine (HW.out _ (H.out.below (by go_grown))).mono ?_; rintro e w1 ⟨rfl, hb1⟩; have B1 : Below w.heap.size w w1 := below_then (by go_grown) hb1)
    go_ret
    exact ⟨rfl, B1⟩
end Go.Proofs.YtkidljiffeonjaaDoor
