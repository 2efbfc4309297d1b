/- late; the document's May. -/
import Derived.Test.YtkidljiffeonjaaDoorRows
import Derived.WalkKit
import Derived.WalkSpells
import Derived.WalkLawsBesides
import Derived.BigQuiet
import Derived.Deep.QuietTactic
import Derived.StillTailTactics
import Derived.Handy
import Derived.Lib.Hide
import Derived.Test.YtkidljiffeonjaaDoorModB
import Derived.Test.YtkidljiffeonjaaDoorMovS
set_option linter.unusedSimpArgs false
set_option linter.unusedVariables false
namespace Go.Proofs.YtkidljiffeonjaaDoor
open Go.RowKit

/-- what late answers -/
def lateS (a : MSeat) : MSeat × Bool := if (mTell a 3).2 = 0 ∧ (mTell a 3).1.ch = true ∧ a.d = 1 then ((mDo (mTell a 3).1.seat 11).1.seat, decide ((mDo (mTell a 3).1.seat 11).2 = 0)) else (a, false)
theorem late_eq (a b : MSeat) : mlate a b = ((lateS a).2 && decide ((lateS a).1 = b)) := by
  unfold mlate lateS
  by_cases h : (mTell a 3).2 = 0 ∧ (mTell a 3).1.ch = true ∧ a.d = 1
  · rw [if_pos h]
    obtain ⟨h1, h2, h3⟩ := h
    rw [Bool.eq_iff_iff]
    simp [h1, h2, h3]
  · rw [if_neg h]
    simp only [Bool.false_and, decide_eq_false_iff_not]
    exact fun h' => h ⟨h'.1, h'.2.1, h'.2.2.1⟩
set_option maxRecDepth 100000 in
set_option maxHeartbeats 2000000 in
theorem late_of (x : MSeat) (ea : Int → Addr) (w : World) (hE : Err39 ea w) : Calls Tryd.prog 68 #[seatV x] w (Makes (.tuple #[seatV (lateS x).1, .bool (lateS x).2]) w) := by
  obtain ⟨p1, d1, s1, q1, f1, u1, v1, c1, n1, hT, hTc⟩ := tell_out x 3 ea
  have hl : lateS x = if n1 = 0 ∧ c1 = true ∧ x.d = 1 then ((mDo ⟨p1, d1, s1, q1⟩ 11).1.seat, decide ((mDo ⟨p1, d1, s1, q1⟩ 11).2 = 0)) else (x, false) := by unfold lateS; rw [hT]
  obtain ⟨p2, d2, s2, q2, f2, u2, v2, c2, n2, hD, hDc⟩ := do_out ⟨p1, d1, s1, q1⟩ 11 ea
  rw [hD] at hl
  rw [hl]
  clear hl hT hD
  obtain ⟨p, d, s, h⟩ := x
  dsimp only [seatV] at *
  have HT := Lib.hid hTc; have HD := Lib.hid hDc; have HE := Lib.hid hE
  clear hTc hDc hE
  have W2 : Below w.heap.size w ((w.alloc (.cells #[.int .i64 p, .int .i64 d, .int .i64 s, .int .i64 h] 52)).alloc (.cells #[.int .i64 0, .int .i64 0, .int .i64 0, .int .i64 0] 52)) := ((Below.refl _ _).alloc (Nat.le_refl _) _).alloc (by simp) _
  have HX := Lib.hid ((Blk.fresh w #[.int .i64 p, .int .i64 d, .int .i64 s, .int .i64 h] 52 _ rfl).alloc (.cells #[.int .i64 0, .int .i64 0, .int .i64 0, .int .i64 0] 52))
  have HR := Lib.hid (Blk.fresh (w.alloc (.cells #[.int .i64 p, .int .i64 d, .int .i64 s, .int .i64 h] 52)) #[.int .i64 0, .int .i64 0, .int .i64 0, .int .i64 0] 52 (w.heap.size + 1) (by simp))
  by_cases hn1 : n1 = 0
  case neg =>
    rw [if_neg (fun h => hn1 h.1)]
    have HT2 : Hid (∀ w, Err39 ea w → Calls Tryd.prog 105 #[.agg #[.int .i64 p, .int .i64 d, .int .i64 s, .int .i64 h], .int .i64 3] w (Makes (.tuple #[.agg #[.int .i64 p1, .int .i64 d1, .int .i64 s1, .int .i64 q1, .int .i64 f1, .int .i64 u1, .int .i64 v1, .bool c1], errV (ea n1)]) w)) := Lib.hid (fun w hw => errOf_no hn1 ▸ HT.out w hw)
    clear HT HD
    go_enter Tryd.func68, Tryd.ntmps68
    go_wp2_with fail
    refine (HT2.out _ (HE.out.below W2)).mono ?_
    rintro e w1 ⟨rfl, hb1⟩
    have HX1 := Lib.hid (HX.out.below hb1)
    have HR1 := Lib.hid (HR.out.below hb1)
    have B1 := below_then W2 hb1
    have x1 := HX1.out.cell; have y1 := HX1.out.free; have r1 := HR1.out.cell; have g1 := HR1.out.free
    have hz1 := B1.size; have hzx := HX1.out.lt; have hzr := HR1.out.lt
    go_wp2_with fail
    all_goals exact bodyPost_ret (v := .tuple #[.agg #[.int .i64 p, .int .i64 d, .int .i64 s, .int .i64 h], .bool false]) (by simp [results, Tryd.results68, go_sem, r1, g1, World.cell?_alloc_lt, hzr]) rfl ⟨rfl, by go_grown⟩
  subst hn1
  cases c1
  case false =>
    rw [if_neg (fun h => by simp at h)]
    have HT2 : Hid (∀ w, Err39 ea w → Calls Tryd.prog 105 #[.agg #[.int .i64 p, .int .i64 d, .int .i64 s, .int .i64 h], .int .i64 3] w (Makes (.tuple #[.agg #[.int .i64 p1, .int .i64 d1, .int .i64 s1, .int .i64 q1, .int .i64 f1, .int .i64 u1, .int .i64 v1, .bool false], .nilIface]) w)) := Lib.hid (fun w hw => HT.out w hw)
    clear HT HD
    go_enter Tryd.func68, Tryd.ntmps68
    go_wp2_with fail
    refine (HT2.out _ (HE.out.below W2)).mono ?_
    rintro e w1 ⟨rfl, hb1⟩
    have HX1 := Lib.hid (HX.out.below hb1)
    have HR1 := Lib.hid (HR.out.below hb1)
    have B1 := below_then W2 hb1
    have x1 := HX1.out.cell; have y1 := HX1.out.free; have r1 := HR1.out.cell; have g1 := HR1.out.free
    have hz1 := B1.size; have hzx := HX1.out.lt; have hzr := HR1.out.lt
    go_wp2_with fail
    all_goals exact bodyPost_ret (v := .tuple #[.agg #[.int .i64 p, .int .i64 d, .int .i64 s, .int .i64 h], .bool false]) (by simp [results, Tryd.results68, go_sem, r1, g1, World.cell?_alloc_lt, hzr]) rfl ⟨rfl, by go_grown⟩
  have HT2 : Hid (∀ w, Err39 ea w → Calls Tryd.prog 105 #[.agg #[.int .i64 p, .int .i64 d, .int .i64 s, .int .i64 h], .int .i64 3] w (Makes (.tuple #[.agg #[.int .i64 p1, .int .i64 d1, .int .i64 s1, .int .i64 q1, .int .i64 f1, .int .i64 u1, .int .i64 v1, .bool true], .nilIface]) w)) := Lib.hid (fun w hw => HT.out w hw)
  clear HT
  by_cases hd : d = 1
  case neg =>
    rw [if_neg (fun h => hd h.2.2)]
    clear HD
    have hd' : (d != 1) = true := by simpa using hd
    clear hd
    go_enter Tryd.func68, Tryd.ntmps68
    go_wp2_with fail
    refine (HT2.out _ (HE.out.below W2)).mono ?_
    rintro e w1 ⟨rfl, hb1⟩
    have HX1 := Lib.hid (HX.out.below hb1)
    have HR1 := Lib.hid (HR.out.below hb1)
    have B1 := below_then W2 hb1
    have x1 := HX1.out.cell; have y1 := HX1.out.free; have r1 := HR1.out.cell; have g1 := HR1.out.free
    have hz1 := B1.size; have hzx := HX1.out.lt; have hzr := HR1.out.lt
    go_wp2_with fail
    all_goals exact bodyPost_ret (v := .tuple #[.agg #[.int .i64 p, .int .i64 d, .int .i64 s, .int .i64 h], .bool false]) (by simp [results, Tryd.results68, go_sem, r1, g1, World.cell?_alloc_lt, hzr]) rfl ⟨rfl, by go_grown⟩
  subst hd
  rw [if_pos ⟨rfl, rfl, rfl⟩]
  by_cases hn2 : n2 = 0
  case pos =>
    subst hn2
    have HD2 : Hid (∀ w, Err39 ea w → Calls Tryd.prog 106 #[.agg #[.int .i64 p1, .int .i64 d1, .int .i64 s1, .int .i64 q1], .int .i64 11] w (Makes (.tuple #[.agg #[.int .i64 p2, .int .i64 d2, .int .i64 s2, .int .i64 q2, .int .i64 f2, .int .i64 u2, .int .i64 v2, .bool c2], .nilIface]) w)) := Lib.hid (fun w hw => HD.out w hw)
    clear HD
    go_enter Tryd.func68, Tryd.ntmps68
    go_wp2_with fail
    refine (HT2.out _ (HE.out.below W2)).mono ?_
    rintro e w1 ⟨rfl, hb1⟩
    have HX1 := Lib.hid (HX.out.below hb1)
    have HR1 := Lib.hid (HR.out.below hb1)
    have B1 := below_then W2 hb1
    have x1 := HX1.out.cell; have y1 := HX1.out.free; have r1 := HR1.out.cell; have g1 := HR1.out.free
    have hz1 := B1.size; have hzx := HX1.out.lt; have hzr := HR1.out.lt
    go_wp2_with fail
    have BE := (Below.refl w1.heap.size w1).alloc (Nat.le_refl _) (.cells #[.int .i64 p1, .int .i64 d1, .int .i64 s1, .int .i64 q1, .int .i64 f1, .int .i64 u1, .int .i64 v1, .bool true] 172)
    refine (HD2.out _ (HE.out.below (below_then B1 BE))).mono ?_
    rintro e w3 ⟨rfl, hb3⟩
    have HR3 := Lib.hid ((HR1.out.below BE).below hb3)
    have B3 := below_then (below_then B1 BE) hb3
    clear x1 y1 r1 g1
    have r1 := HR3.out.cell; have g1 := HR3.out.free; clear hzr; have hz3 := B3.size; have hzr := HR3.out.lt
    go_wp2_with fail
    go_region
    all_goals go_wp2_with fail
    all_goals exact bodyPost_ret (v := .tuple #[.agg #[.int .i64 p2, .int .i64 d2, .int .i64 s2, .int .i64 q2], .bool true]) (by simp [results, Tryd.results68, go_sem, r1, g1, World.cell?_alloc_lt, hzr]) rfl ⟨rfl, by go_grown⟩
  case neg =>
    have HD2 : Hid (∀ w, Err39 ea w → Calls Tryd.prog 106 #[.agg #[.int .i64 p1, .int .i64 d1, .int .i64 s1, .int .i64 q1], .int .i64 11] w (Makes (.tuple #[.agg #[.int .i64 p2, .int .i64 d2, .int .i64 s2, .int .i64 q2, .int .i64 f2, .int .i64 u2, .int .i64 v2, .bool c2], errV (ea n2)]) w)) := Lib.hid (fun w hw => errOf_no hn2 ▸ HD.out w hw)
    clear HD
    have hdd : decide (n2 = 0) = false := decide_eq_false hn2
    rw [hdd]
    clear hdd hn2
    go_enter Tryd.func68, Tryd.ntmps68
    go_wp2_with fail
    refine (HT2.out _ (HE.out.below W2)).mono ?_
    rintro e w1 ⟨rfl, hb1⟩
    have HX1 := Lib.hid (HX.out.below hb1)
    have HR1 := Lib.hid (HR.out.below hb1)
    have B1 := below_then W2 hb1
    have x1 := HX1.out.cell; have y1 := HX1.out.free; have r1 := HR1.out.cell; have g1 := HR1.out.free
    have hz1 := B1.size; have hzx := HX1.out.lt; have hzr := HR1.out.lt
    go_wp2_with fail
    have BE := (Below.refl w1.heap.size w1).alloc (Nat.le_refl _) (.cells #[.int .i64 p1, .int .i64 d1, .int .i64 s1, .int .i64 q1, .int .i64 f1, .int .i64 u1, .int .i64 v1, .bool true] 172)
    refine (HD2.out _ (HE.out.below (below_then B1 BE))).mono ?_
    rintro e w3 ⟨rfl, hb3⟩
    have HR3 := Lib.hid ((HR1.out.below BE).below hb3)
    have B3 := below_then (below_then B1 BE) hb3
    clear x1 y1 r1 g1
    have r1 := HR3.out.cell; have g1 := HR3.out.free; clear hzr; have hz3 := B3.size; have hzr := HR3.out.lt
    go_wp2_with fail
    go_region
    all_goals go_wp2_with fail
    all_goals exact bodyPost_ret (v := .tuple #[.agg #[.int .i64 p2, .int .i64 d2, .int .i64 s2, .int .i64 q2], .bool false]) (by simp [results, Tryd.results68, go_sem, r1, g1, World.cell?_alloc_lt, hzr]) rfl ⟨rfl, by go_grown⟩
end Go.Proofs.YtkidljiffeonjaaDoor
