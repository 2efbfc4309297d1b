/- The walks of package tables: Look. -/
import Derived.Test.YtkidljiffeonjaaDoorRows
import Derived.WalkKit
import Derived.WalkSpells
import Derived.WalkLawsBesides
import Derived.BigQuiet
import Derived.Deep.QuietTactic
import Derived.StillTailTactics
import Derived.Handy
import Derived.Lib.Hide
import Derived.Test.YtkidljiffeonjaaDoorTabD
import Derived.Test.YtkidljiffeonjaaDoorBlk
set_option linter.unusedSimpArgs false
set_option linter.unusedVariables false
namespace Go.Proofs.YtkidljiffeonjaaDoor
open Go.RowKit

def errOf (ea : Int → Addr) (n : Int) : Value := if n = 0 then .nilIface else errV (ea n)
def tLook (p d k s : Int) : (Int × Int × Int) × Int :=
  match tabOf p d with
  | none => ((0, 0, 0), 14)
  | some t => if idxOf (t.rows.map (·.1)) k < 0 then ((0, 0, 0), 4) else if tHas t s = false then ((0, 0, 0), 1)
    else match t.rows[(idxOf (t.rows.map (·.1)) k).toNat]? with
      | some r => (tCell t r s, 0)
      | none => ((0, 0, 0), 0)
theorem wf_tab {p d : Int} {t : Tab} (h : tabOf p d = some t) : Wf t := by
  unfold tabOf at h
  repeat' split at h
  all_goals (simp only [Option.some.injEq, reduceCtorEq] at h)
  all_goals subst h
  all_goals (unfold Wf; decide)

theorem idxOf_cases (ks : List Int) (k : Int) : idxOf ks k = -1 ∨ 0 ≤ idxOf ks k ∧ (idxOf ks k).toNat < ks.length := by
  unfold idxOf
  split
  · rename_i i h
    have := (List.findIdx?_eq_some_iff_getElem.1 h).1
    right; simp; omega
  · exact .inl rfl

set_option maxRecDepth 100000 in
set_option maxHeartbeats 1000000 in
theorem look_tab (p d k s : Int) (t : Tab) (ea : Int → Addr) (w : World) (ht : tabOf p d = some t) (h4 : ErrIs w 0 (ea 4)) (h1 : ErrIs w 1 (ea 1)) :
    Calls Tryd.prog 131 #[.int .i64 p, .int .i64 d, .int .i64 k, .int .i64 s] w (Makes (.tuple #[cell3 (tLook p d k s).1, errOf ea (tLook p d k s).2]) w) := by
  have hwf := wf_tab ht
  have hlk : tLook p d k s = ((if idxOf (t.rows.map (·.1)) k < 0 then ((0, 0, 0), 4) else if tHas t s = false then ((0, 0, 0), 1)
    else match t.rows[(idxOf (t.rows.map (·.1)) k).toNat]? with
      | some r => (tCell t r s, 0)
      | none => ((0, 0, 0), 0)) : (Int × Int × Int) × Int) := by unfold tLook; rw [ht]
  rw [hlk]; clear hlk
  have hg4 : 0 < w.heap.size := lt_of_cell h4
  have hg1 : 1 < w.heap.size := lt_of_cell h1
  have HE4 := Lib.hid h4; clear h4
  have HE1 := Lib.hid h1; clear h1
  have hic := idxOf_cases (t.rows.map (·.1)) k
  rw [List.length_map] at hic
  obtain ⟨i, hi⟩ : ∃ i, i = idxOf (t.rows.map (·.1)) k := ⟨_, rfl⟩
  rw [← hi] at hic ⊢
  have hlen := hwf.2.2.1
  obtain ⟨hs, hhs⟩ : ∃ hs, hs = tHas t s := ⟨_, rfl⟩
  rw [← hhs]
  have HI := Lib.hid hi; clear hi
  have HS := Lib.hid hhs; clear hhs
  have HT := Lib.hid ht; clear ht
  rcases hic with hneg | ⟨h0, hlt⟩
  · subst hneg
    simp only [show (-1 : Int) < 0 from by decide, if_true]
    go_enter Tryd.func131, Tryd.ntmps131
    go_wp2_with (first
      | (go_at_call 97; refine (of_yes p d t _ HT.out).mono ?_; rintro e w1 ⟨v, rfl, hT, hb1⟩; have HT1 := Lib.hid hT; obtain ⟨br, ba, b1, b2, rfl, hr, ha⟩ := hT; have HK1 := Lib.hid ((Blk.fresh _ _ _ (w.heap.size + 1) (by simp only [World.size_alloc])).below hb1); have HK0 := Lib.hid (((Blk.fresh w _ _ _ rfl).alloc _).below hb1); obtain ⟨hc1, hf1⟩ := bcell hb1; have hz1 := hb1.size; simp only [World.size_alloc] at hz1 b1 b2; have B1 : Below w.heap.size w w1 := below_then (by go_grown) hb1)
      | (go_at_call 155; refine (indexf_any t.rows br k _ _ ((HK0.out.alloc _).cell 0) (by omega) (hr.below (by go_grown))).mono ?_; rw [← HI.out]; rintro e w2 ⟨rfl, hb2⟩; clear hc1 hf1; have HT2 := Lib.hid ((HT1.out.below ((Below.refl _ _).alloc (Nat.le_refl _) _)).below hb2); have HQ1 := Lib.hid ((HK1.out.alloc _).below hb2); obtain ⟨q1, f1⟩ := HQ1.out.out; obtain ⟨q2, f2⟩ := ((Blk.fresh w1 _ _ _ rfl).below hb2).out; have hz2 := hb2.size; simp only [World.size_alloc] at hz2; have B2 : Below w.heap.size w w2 := below_then (by go_grown) hb2; have k4 : w2.cell? ⟨0, 0, none⟩ = some (errV (ea 4)) := HE4.out.below B2))
    go_region
    all_goals go_wp2
    all_goals (refine bodyPost_ret (v := .tuple #[.agg #[.int .i64 0, .int .i64 0, .int .i64 0], errV (ea 4)]) (by simp [results, Tryd.results131, go_sem, q1]) rfl ⟨rfl, by go_grown⟩)
  rw [if_neg (by omega)]
  cases hs with
  | false =>
    simp only [if_true]
    go_enter Tryd.func131, Tryd.ntmps131
    go_wp2_with (first
      | (go_at_call 97; refine (of_yes p d t _ HT.out).mono ?_; rintro e w1 ⟨v, rfl, hT, hb1⟩; have HT1 := Lib.hid hT; obtain ⟨br, ba, b1, b2, rfl, hr, ha⟩ := hT; have HK1 := Lib.hid ((Blk.fresh _ _ _ (w.heap.size + 1) (by simp only [World.size_alloc])).below hb1); have HK0 := Lib.hid (((Blk.fresh w _ _ _ rfl).alloc _).below hb1); obtain ⟨hc1, hf1⟩ := bcell hb1; have hz1 := hb1.size; simp only [World.size_alloc] at hz1 b1 b2; have B1 : Below w.heap.size w w1 := below_then (by go_grown) hb1)
      | (go_at_call 155; refine (indexf_any t.rows br k _ _ ((HK0.out.alloc _).cell 0) (by omega) (hr.below (by go_grown))).mono ?_; rw [← HI.out]; rintro e w2 ⟨rfl, hb2⟩; clear hc1 hf1; have HT2 := Lib.hid ((HT1.out.below ((Below.refl _ _).alloc (Nat.le_refl _) _)).below hb2); have HQ1 := Lib.hid ((HK1.out.alloc _).below hb2); obtain ⟨q1, f1⟩ := HQ1.out.out; obtain ⟨q2, f2⟩ := ((Blk.fresh w1 _ _ _ rfl).below hb2).out; have hz2 := hb2.size; simp only [World.size_alloc] at hz2; have B2 : Below w.heap.size w w2 := below_then (by go_grown) hb2; have k4 : w2.cell? ⟨0, 0, none⟩ = some (errV (ea 4)) := HE4.out.below B2)
      | (go_at_call 98; refine (has_any _ t _ s _ HT2.out hwf).mono ?_; rw [← HS.out]; rintro e w3 ⟨rfl, hb3⟩; clear q1 f1 q2 f2; have k1 : w3.cell? ⟨1, 0, none⟩ = some (errV (ea 1)) := HE1.out.below (below_then B2 hb3); obtain ⟨q1, f1⟩ := (HQ1.out.below hb3).out; have hz3 := hb3.size; have B3 : Below w.heap.size w w3 := below_then B2 hb3))
    go_region
    all_goals go_wp2
    all_goals (refine bodyPost_ret (v := .tuple #[.agg #[.int .i64 0, .int .i64 0, .int .i64 0], errV (ea 1)]) (by simp [results, Tryd.results131, go_sem, q1]) rfl ⟨rfl, by go_grown⟩)
  | true =>
    obtain ⟨j, rfl⟩ : ∃ j : Nat, i = (j : Int) := ⟨i.toNat, by omega⟩
    simp only [Int.toNat_natCast] at hlt ⊢
    rw [if_neg (by simp), List.getElem?_eq_getElem hlt]
    obtain ⟨r, hrj⟩ : ∃ r, r = t.rows[j] := ⟨_, rfl⟩
    have hrs : r.2.1.size = 14 := by rw [hrj]; exact hwf.2.2.2.2.1 _ (List.getElem_mem _)
    rw [← hrj]
    have HR := Lib.hid hrj; clear hrj
    obtain ⟨kind, str, en⟩ := r
    have HRS := Lib.hid hrs; clear hrs
    have h14 : 1 ≤ s ∧ s ≤ 14 := by have := HS.out; simp [tHas] at this; omega
    simp only []
    obtain ⟨x1, x2, x3, hx⟩ : ∃ x1 x2 x3, tCell t (kind, str, en) s = (x1, x2, x3) := ⟨_, _, _, rfl⟩
    have hcall : ∀ B v W, IsTab B t v W → Calls Tryd.prog 157 #[v, .agg #[.int .i64 kind, .string str, .int .i64 en], .int .i64 s] W (Makes (.agg #[.int .i64 x1, .int .i64 x2, .int .i64 x3]) W) := fun B v W h => by
      have := cell_any B t v kind en str s W h hwf h14 HRS.out
      rw [hx] at this
      exact this
    rw [hx]
    have HX := Lib.hid hcall; clear hcall hx
    go_enter Tryd.func131, Tryd.ntmps131
    go_wp2_with (first
      | (go_at_call 97; refine (of_yes p d t _ HT.out).mono ?_; rintro e w1 ⟨v, rfl, hT, hb1⟩; have HT1 := Lib.hid hT; obtain ⟨br, ba, b1, b2, rfl, hr, ha⟩ := hT; have HK1 := Lib.hid ((Blk.fresh _ _ _ (w.heap.size + 1) (by simp only [World.size_alloc])).below hb1); have HK0 := Lib.hid (((Blk.fresh w _ _ _ rfl).alloc _).below hb1); obtain ⟨hc1, hf1⟩ := bcell hb1; have hz1 := hb1.size; simp only [World.size_alloc] at hz1 b1 b2; have B1 : Below w.heap.size w w1 := below_then (by go_grown) hb1)
      | (go_at_call 155; refine (indexf_any t.rows br k _ _ ((HK0.out.alloc _).cell 0) (by omega) (hr.below (by go_grown))).mono ?_; rw [← HI.out]; rintro e w2 ⟨rfl, hb2⟩; clear hc1 hf1; have HT2 := Lib.hid ((HT1.out.below ((Below.refl _ _).alloc (Nat.le_refl _) _)).below hb2); have HQ1 := Lib.hid ((HK1.out.alloc _).below hb2); obtain ⟨q1, f1⟩ := HQ1.out.out; obtain ⟨q2, f2⟩ := ((Blk.fresh w1 _ _ _ rfl).below hb2).out; have hz2 := hb2.size; simp only [World.size_alloc] at hz2; have B2 : Below w.heap.size w w2 := below_then (by go_grown) hb2; have k4 : w2.cell? ⟨0, 0, none⟩ = some (errV (ea 4)) := HE4.out.below B2)
      | (go_at_call 98; refine (has_any _ t _ s _ HT2.out hwf).mono ?_; rw [← HS.out]; rintro e w3 ⟨rfl, hb3⟩; clear q1 f1 q2 f2; have HT3 := Lib.hid (HT2.out.below hb3); obtain ⟨c1, c2, c3⟩ := ((hr.below (Below.alloc (Below.refl _ _) (Nat.le_refl _) _)).below hb2 |>.below hb3).2 j hlt; rw [← HR.out] at c1 c2 c3; have HQ3 := Lib.hid (HQ1.out.below hb3); obtain ⟨q1, f1⟩ := HQ3.out.out; obtain ⟨q2, f2⟩ := (((Blk.fresh w1 _ _ _ rfl).below hb2).below hb3).out; have hz3 := hb3.size; have B3 : Below w.heap.size w w3 := below_then B2 hb3))
    go_still_tail 7, (by kernel_rfl)
    change wpList _ _ _ _ _ w3.drew
    go_wp2_with (go_at_call 157; refine (HX.out _ _ _ (HT3.out.below (Below.drew (Below.refl _ _)))).mono ?_; rintro e w4 ⟨rfl, hb4⟩; clear q1 f1 q2 f2 c1 c2 c3; obtain ⟨q1, f1⟩ := (HQ3.out.drew.below hb4).out; have hz4 := hb4.size; have B4 : Below w.heap.size w w4 := below_then B3.drew hb4)
    exact bodyPost_ret (v := .tuple #[.agg #[.int .i64 x1, .int .i64 x2, .int .i64 x3], .nilIface]) (by simp [results, Tryd.results131, go_sem, q1, f1]) rfl ⟨rfl, by go_grown⟩

end Go.Proofs.YtkidljiffeonjaaDoor
