/- The walks of package tables: Step and Waits; and what all answer where there is no such side. -/
import Derived.Test.YtkidljiffeonjaaDoorRows
import Derived.WalkKit
import Derived.WalkSpells
import Derived.WalkLawsBesides
import Derived.BigQuiet
import Derived.Deep.QuietTactic
import Derived.StillTailTactics
import Derived.Handy
import Derived.Lib.Hide
import Derived.Test.YtkidljiffeonjaaDoorTabE
set_option linter.unusedSimpArgs false
set_option linter.unusedVariables false
namespace Go.Proofs.YtkidljiffeonjaaDoor
open Go.RowKit

def tStep (p d k s : Int) : Int × Int :=
  match tabOf p d with
  | none => (0, 14)
  | some t => if idxOf (t.acts.map (·.1)) k < 0 then (0, 4) else if tHas t s = false then (0, 1)
    else match t.acts[(idxOf (t.acts.map (·.1)) k).toNat]? with
      | some r => if chr r.2 (s - 1).toNat = 120 then (0, 9) else (num (chr r.2 (s - 1).toNat), 0)
      | none => (0, 0)
def tWaits (p d s : Int) : Int × Int :=
  match tabOf p d with
  | none => (0, 14)
  | some t => if tHas t s = false then (0, 1) else (tWaited t s, 0)

set_option maxHeartbeats 400000 in
theorem indexa_any (rs : List Act') (b : Nat) (k : Int) (ka : Addr) (w : World) (hk : w.cell? ka = some (.int .i64 k)) (hn : rs.length ≤ 100) (hr : ActsAt w b rs) :
    Calls Tryd.prog 159 #[.slice (some ⟨b, 0, none⟩) rs.length rs.length, .func (.func 160) #[] #[.pointer (some ka)]] w (Makes (.int .i64 (idxOf (rs.map (·.1)) k)) w) := by
  have hlt := lt_of_cell hk
  have HR := Lib.hid hr; clear hr
  go_enter Tryd.func159, Tryd.ntmps159
  go_wp2
  go_loopw [8] (fun i wr => ∃ j : Nat, j ≤ rs.length ∧ i = .int .i64 j ∧ Below w.heap.size w wr ∧ Hid (∀ i, (h : i < rs.length) → i < j → rs[i].1 ≠ k)) (fun i _ => rs.length - (intOf i).toNat)
  case atStart => exact ⟨0, Nat.zero_le _, rfl, Below.refl _ _, Lib.hid (fun i _ hi => absurd hi (Nat.not_lt_zero _))⟩
  case round =>
    obtain ⟨j, hj, rfl, hb, HN⟩ := hrel
    have hkr : wr.cell? ka = some (.int .i64 k) := (hb.cell (p := ka) hlt).trans hk
    by_cases hjn : j < rs.length
    · obtain ⟨h1, h2⟩ := (HR.out.below hb).2 j hjn
      obtain ⟨r, hrj⟩ : ∃ r, r = rs[j] := ⟨_, rfl⟩
      rw [← hrj] at h1 h2
      have HJ := Lib.hid hrj; clear hrj
      obtain ⟨a, s⟩ := r
      go_wp2_with (go_at_call 160; refine (step1_any _ _ _ _ _ hkr).mono ?_; rintro e w' ⟨rfl, hb'⟩)
      · go_ret
        have he : (a == k) = true := by assumption
        refine ⟨ret_int ?_, hb.trans (hb'.mono hb.size)⟩
        rw [idxOf_at (j := j) (by simpa using hjn) (fun i h hi => by simpa using HN.out i (by simpa using h) hi) (by simpa [← HJ.out] using he)]
      · have he : (a == k) = false := by assumption
        go_roundw
        case rel =>
          refine ⟨j + 1, by omega, by go_num, hb.trans (hb'.mono hb.size), Lib.hid (fun i h hi => ?_)⟩
          rcases Nat.lt_succ_iff_lt_or_eq.1 hi with h' | rfl
          · exact HN.out i h h'
          · simpa [← HJ.out] using he
        case measure => simp [intOf]; omega
    · go_wp2_with fail
      go_ret
      refine ⟨ret_int ?_, hb⟩
      rw [idxOf_none (fun i h => by simpa using HN.out i (by simpa using h) (by simp at h; omega))]


set_option maxRecDepth 100000 in
set_option maxHeartbeats 1000000 in
theorem waits_tab (p d s : Int) (t : Tab) (ea : Int → Addr) (w : World) (ht : tabOf p d = some t) (h1 : ErrIs w 1 (ea 1)) :
    Calls Tryd.prog 56 #[.int .i64 p, .int .i64 d, .int .i64 s] w (Makes (.tuple #[.int .i64 (tWaits p d s).1, errOf ea (tWaits p d s).2]) w) := by
  have hwf := wf_tab ht
  have hlk : tWaits p d s = ((if tHas t s = false then (0, 1) else (tWaited t s, 0)) : Int × Int) := by unfold tWaits; rw [ht]
  rw [hlk]; clear hlk
  have hg1 : 1 < w.heap.size := lt_of_cell h1
  have HE1 := Lib.hid h1; clear h1
  obtain ⟨hs, hhs⟩ : ∃ hs, hs = tHas t s := ⟨_, rfl⟩
  rw [← hhs]
  have HS := Lib.hid hhs; clear hhs
  have HT := Lib.hid ht; clear ht
  cases hs with
  | false =>
    simp only [if_true]
    go_enter Tryd.func56, Tryd.ntmps56
    go_wp2_with (first
      | (go_at_call 97; refine (of_yes p d t _ HT.out).mono ?_; rintro e w1 ⟨v, rfl, hT, hb1⟩; have HT1 := Lib.hid hT; obtain ⟨br, ba, b1, b2, rfl, hr, ha⟩ := hT;  have hz1 := hb1.size; (try simp only [World.size_alloc] at hz1 b1 b2); have B1 : Below w.heap.size w w1 := below_then (by go_grown) hb1)
      | (go_at_call 98; refine (has_any _ t _ s _ (HT1.out.below ((Below.refl _ _).alloc (Nat.le_refl _) _)) hwf).mono ?_; rw [← HS.out]; rintro e w3 ⟨rfl, hb3⟩; have hz3 := hb3.size; have B3 : Below w.heap.size w w3 := below_then (by go_grown) hb3; have k1 : w3.cell? ⟨1, 0, none⟩ = some (errV (ea 1)) := HE1.out.below B3))
    go_region
    all_goals go_wp2
    all_goals go_ret2
    all_goals exact ⟨rfl, by go_grown⟩
  | true =>
    rw [if_neg (by simp)]
    have h14 : 1 ≤ s ∧ s ≤ 14 := by have := HS.out; simp [tHas] at this; omega
    simp only []
    go_enter Tryd.func56, Tryd.ntmps56
    go_wp2_with (first
      | (go_at_call 97; refine (of_yes p d t _ HT.out).mono ?_; rintro e w1 ⟨v, rfl, hT, hb1⟩; have HT1 := Lib.hid hT; obtain ⟨br, ba, b1, b2, rfl, hr, ha⟩ := hT;  have hz1 := hb1.size; (try simp only [World.size_alloc] at hz1 b1 b2); have B1 : Below w.heap.size w w1 := below_then (by go_grown) hb1)
      | (go_at_call 98; refine (has_any _ t _ s _ (HT1.out.below ((Below.refl _ _).alloc (Nat.le_refl _) _)) hwf).mono ?_; rw [← HS.out]; rintro e w3 ⟨rfl, hb3⟩; have HT3 := Lib.hid ((HT1.out.below ((Below.refl _ _).alloc (Nat.le_refl _) _)).below hb3); obtain ⟨q2, f2⟩ := ((Blk.fresh w1 _ _ _ rfl).below hb3).out; have hz3 := hb3.size; have B3 : Below w.heap.size w w3 := below_then (by go_grown) hb3)
      | (go_at_call 99; refine (waited_any _ t _ s _ HT3.out hwf h14).mono ?_; rintro e w4 ⟨rfl, hb4⟩; clear q2 f2; have B4 : Below w.heap.size w w4 := below_then B3 hb4))
    go_ret2
    exact ⟨rfl, B4⟩

set_option maxRecDepth 100000 in
set_option maxHeartbeats 1000000 in
theorem step_tab (p d k s : Int) (t : Tab) (ea : Int → Addr) (w : World) (ht : tabOf p d = some t) (h4 : ErrIs w 0 (ea 4)) (h1 : ErrIs w 1 (ea 1)) (h9 : ErrIs w 8 (ea 9)) :
    Calls Tryd.prog 133 #[.int .i64 p, .int .i64 d, .int .i64 k, .int .i64 s] w (Makes (.tuple #[.int .i64 (tStep p d k s).1, errOf ea (tStep p d k s).2]) w) := by
  have hwf := wf_tab ht
  have hlk : tStep p d k s = ((if idxOf (t.acts.map (·.1)) k < 0 then (0, 4) else if tHas t s = false then (0, 1)
    else match t.acts[(idxOf (t.acts.map (·.1)) k).toNat]? with
      | some r => if chr r.2 (s - 1).toNat = 120 then (0, 9) else (num (chr r.2 (s - 1).toNat), 0)
      | none => (0, 0)) : Int × Int) := by unfold tStep; rw [ht]
  rw [hlk]; clear hlk
  have hg4 : 0 < w.heap.size := lt_of_cell h4
  have hg1 : 1 < w.heap.size := lt_of_cell h1
  have hg9 : 8 < w.heap.size := lt_of_cell h9
  have HE4 := Lib.hid h4; clear h4
  have HE1 := Lib.hid h1; clear h1
  have HE9 := Lib.hid h9; clear h9
  have hic := idxOf_cases (t.acts.map (·.1)) k
  rw [List.length_map] at hic
  obtain ⟨i, hi⟩ : ∃ i, i = idxOf (t.acts.map (·.1)) k := ⟨_, rfl⟩
  rw [← hi] at hic ⊢
  have hlen := hwf.2.2.2.1
  obtain ⟨hs, hhs⟩ : ∃ hs, hs = tHas t s := ⟨_, rfl⟩
  rw [← hhs]
  have HI := Lib.hid hi; clear hi
  have HS := Lib.hid hhs; clear hhs
  have HT := Lib.hid ht; clear ht
  rcases hic with hneg | ⟨h0, hlt⟩
  · subst hneg
    simp only [show (-1 : Int) < 0 from by decide, if_true]
    go_enter Tryd.func133, Tryd.ntmps133
    go_wp2_with (first
      | (go_at_call 97; refine (of_yes p d t _ HT.out).mono ?_; rintro e w1 ⟨v, rfl, hT, hb1⟩; have HT1 := Lib.hid hT; obtain ⟨br, ba, b1, b2, rfl, hr, ha⟩ := hT; have HK0 := Lib.hid ((Blk.fresh w _ _ _ rfl).below hb1); have hz1 := hb1.size; (try simp only [World.size_alloc] at hz1 b1 b2); have B1 : Below w.heap.size w w1 := below_then (by go_grown) hb1)
      | (go_at_call 159; refine (indexa_any t.acts ba k _ _ ((HK0.out.alloc _).cell 0) (by omega) (ha.below (by go_grown))).mono ?_; rw [← HI.out]; rintro e w2 ⟨rfl, hb2⟩; have HT2 := Lib.hid ((HT1.out.below ((Below.refl _ _).alloc (Nat.le_refl _) _)).below hb2); have HQ2 := Lib.hid ((Blk.fresh w1 _ _ _ rfl).below hb2); obtain ⟨q2, f2⟩ := HQ2.out.out; have hz2 := hb2.size; (try simp only [World.size_alloc] at hz2); have B2 : Below w.heap.size w w2 := below_then (by go_grown) hb2; have k4 : w2.cell? ⟨0, 0, none⟩ = some (errV (ea 4)) := HE4.out.below B2))
    go_region
    all_goals go_wp2
    all_goals go_ret2
    all_goals exact ⟨rfl, by go_grown⟩
  rw [if_neg (by omega)]
  cases hs with
  | false =>
    simp only [if_true]
    go_enter Tryd.func133, Tryd.ntmps133
    go_wp2_with (first
      | (go_at_call 97; refine (of_yes p d t _ HT.out).mono ?_; rintro e w1 ⟨v, rfl, hT, hb1⟩; have HT1 := Lib.hid hT; obtain ⟨br, ba, b1, b2, rfl, hr, ha⟩ := hT; have HK0 := Lib.hid ((Blk.fresh w _ _ _ rfl).below hb1); have hz1 := hb1.size; (try simp only [World.size_alloc] at hz1 b1 b2); have B1 : Below w.heap.size w w1 := below_then (by go_grown) hb1)
      | (go_at_call 159; refine (indexa_any t.acts ba k _ _ ((HK0.out.alloc _).cell 0) (by omega) (ha.below (by go_grown))).mono ?_; rw [← HI.out]; rintro e w2 ⟨rfl, hb2⟩; have HT2 := Lib.hid ((HT1.out.below ((Below.refl _ _).alloc (Nat.le_refl _) _)).below hb2); have HQ2 := Lib.hid ((Blk.fresh w1 _ _ _ rfl).below hb2); obtain ⟨q2, f2⟩ := HQ2.out.out; have hz2 := hb2.size; (try simp only [World.size_alloc] at hz2); have B2 : Below w.heap.size w w2 := below_then (by go_grown) hb2; have k4 : w2.cell? ⟨0, 0, none⟩ = some (errV (ea 4)) := HE4.out.below B2)
      | (go_at_call 98; refine (has_any _ t _ _ _ HT2.out hwf).mono ?_; rw [← HS.out]; rintro e w3 ⟨rfl, hb3⟩; clear q2 f2; have B3 : Below w.heap.size w w3 := below_then B2 hb3; have k1 : w3.cell? ⟨1, 0, none⟩ = some (errV (ea 1)) := HE1.out.below B3; have k9 : w3.cell? ⟨8, 0, none⟩ = some (errV (ea 9)) := HE9.out.below B3; have hz3 := hb3.size; obtain ⟨q2, f2⟩ := (HQ2.out.below hb3).out))
    go_region
    all_goals go_wp2
    all_goals go_ret2
    all_goals exact ⟨rfl, by go_grown⟩
  | true =>
    obtain ⟨j, rfl⟩ : ∃ j : Nat, i = (j : Int) := ⟨i.toNat, by omega⟩
    simp only [Int.toNat_natCast] at hlt ⊢
    rw [if_neg (by simp), List.getElem?_eq_getElem hlt]
    obtain ⟨r, hrj⟩ : ∃ r, r = t.acts[j] := ⟨_, rfl⟩
    have hrs : r.2.size = 14 := by rw [hrj]; exact hwf.2.2.2.2.2 _ (List.getElem_mem _)
    rw [← hrj]
    have HR := Lib.hid hrj; clear hrj
    obtain ⟨kind, str⟩ := r
    simp only at hrs
    have h14 : 1 ≤ s ∧ s ≤ 14 := by have := HS.out; simp [tHas] at this; omega
    simp only []
    obtain ⟨x, rfl⟩ : ∃ x : Nat, s = (x : Int) + 1 := ⟨(s - 1).toNat, by omega⟩
    have e1 : ((x : Int) + 1 - 1).toNat = x := by omega
    rw [e1]; clear e1
    have hx : x < str.size := by omega
    have HRS := Lib.hid hrs; clear hrs
    have hb := str[x].toNat_lt
    rw [← chr_at hx]
    by_cases hc : (str[x].toNat : Int) = 120
    · rw [if_pos hc]
      have hc' : ((str[x].toNat : Int) == 120) = true := by simpa using hc
      clear hc
      simp only []
      go_enter Tryd.func133, Tryd.ntmps133
      go_wp2_with (first
        | (go_at_call 97; refine (of_yes p d t _ HT.out).mono ?_; rintro e w1 ⟨v, rfl, hT, hb1⟩; have HT1 := Lib.hid hT; obtain ⟨br, ba, b1, b2, rfl, hr, ha⟩ := hT; have HK0 := Lib.hid ((Blk.fresh w _ _ _ rfl).below hb1); have hz1 := hb1.size; (try simp only [World.size_alloc] at hz1 b1 b2); have B1 : Below w.heap.size w w1 := below_then (by go_grown) hb1)
        | (go_at_call 159; refine (indexa_any t.acts ba k _ _ ((HK0.out.alloc _).cell 0) (by omega) (ha.below (by go_grown))).mono ?_; rw [← HI.out]; rintro e w2 ⟨rfl, hb2⟩; have HT2 := Lib.hid ((HT1.out.below ((Below.refl _ _).alloc (Nat.le_refl _) _)).below hb2); have HQ2 := Lib.hid ((Blk.fresh w1 _ _ _ rfl).below hb2); obtain ⟨q2, f2⟩ := HQ2.out.out; have hz2 := hb2.size; (try simp only [World.size_alloc] at hz2); have B2 : Below w.heap.size w w2 := below_then (by go_grown) hb2; have k4 : w2.cell? ⟨0, 0, none⟩ = some (errV (ea 4)) := HE4.out.below B2)
        | (go_at_call 98; refine (has_any _ t _ _ _ HT2.out hwf).mono ?_; rw [← HS.out]; rintro e w3 ⟨rfl, hb3⟩; clear q2 f2; have B3 : Below w.heap.size w w3 := below_then B2 hb3; have k1 : w3.cell? ⟨1, 0, none⟩ = some (errV (ea 1)) := HE1.out.below B3; have k9 : w3.cell? ⟨8, 0, none⟩ = some (errV (ea 9)) := HE9.out.below B3; have hz3 := hb3.size; obtain ⟨q2, f2⟩ := (HQ2.out.below hb3).out; obtain ⟨c1, c2⟩ := ((ha.below (Below.alloc (Below.refl _ _) (Nat.le_refl _) _)).below hb2 |>.below hb3).2 j hlt; rw [← HR.out] at c1 c2))
      go_region
      all_goals go_wp2
      all_goals go_ret2
      all_goals exact ⟨rfl, by go_grown⟩
    · rw [if_neg hc]
      have hc' : ((str[x].toNat : Int) == 120) = false := by simpa using hc
      clear hc
      simp only []
      go_enter Tryd.func133, Tryd.ntmps133
      go_wp2_with (first
        | (go_at_call 97; refine (of_yes p d t _ HT.out).mono ?_; rintro e w1 ⟨v, rfl, hT, hb1⟩; have HT1 := Lib.hid hT; obtain ⟨br, ba, b1, b2, rfl, hr, ha⟩ := hT; have HK0 := Lib.hid ((Blk.fresh w _ _ _ rfl).below hb1); have hz1 := hb1.size; (try simp only [World.size_alloc] at hz1 b1 b2); have B1 : Below w.heap.size w w1 := below_then (by go_grown) hb1)
        | (go_at_call 159; refine (indexa_any t.acts ba k _ _ ((HK0.out.alloc _).cell 0) (by omega) (ha.below (by go_grown))).mono ?_; rw [← HI.out]; rintro e w2 ⟨rfl, hb2⟩; have HT2 := Lib.hid ((HT1.out.below ((Below.refl _ _).alloc (Nat.le_refl _) _)).below hb2); have HQ2 := Lib.hid ((Blk.fresh w1 _ _ _ rfl).below hb2); obtain ⟨q2, f2⟩ := HQ2.out.out; have hz2 := hb2.size; (try simp only [World.size_alloc] at hz2); have B2 : Below w.heap.size w w2 := below_then (by go_grown) hb2; have k4 : w2.cell? ⟨0, 0, none⟩ = some (errV (ea 4)) := HE4.out.below B2)
        | (go_at_call 98; refine (has_any _ t _ _ _ HT2.out hwf).mono ?_; rw [← HS.out]; rintro e w3 ⟨rfl, hb3⟩; clear q2 f2; have B3 : Below w.heap.size w w3 := below_then B2 hb3; have k1 : w3.cell? ⟨1, 0, none⟩ = some (errV (ea 1)) := HE1.out.below B3; have k9 : w3.cell? ⟨8, 0, none⟩ = some (errV (ea 9)) := HE9.out.below B3; have hz3 := hb3.size; obtain ⟨q2, f2⟩ := (HQ2.out.below hb3).out; obtain ⟨c1, c2⟩ := ((ha.below (Below.alloc (Below.refl _ _) (Nat.le_refl _) _)).below hb2 |>.below hb3).2 j hlt; rw [← HR.out] at c1 c2)
        | (go_at_call 128; refine (number_any _ _ (by omega)).mono ?_; rintro e w' ⟨rfl, rfl⟩))
      go_ret2
      exact ⟨rfl, by go_grown⟩

/-! where there is no such side -/
set_option maxRecDepth 100000 in
set_option maxHeartbeats 1000000 in
theorem look_none (p d k s : Int) (a : Addr) (w : World) (h : ErrIs w 13 a) (hn : tabOf p d = none) :
    Calls Tryd.prog 131 #[.int .i64 p, .int .i64 d, .int .i64 k, .int .i64 s] w (Makes (.tuple #[.agg #[.int .i64 0, .int .i64 0, .int .i64 0], errV a]) w) := by
  have HE := Lib.hid h; clear h
  have HN := Lib.hid hn; clear hn
  go_enter Tryd.func131, Tryd.ntmps131
  go_wp2_with (first
    | (go_at_call 97; refine (of_no p d a _ ?_ HN.out).mono ?_; exact HE.out.below (by go_grown); rintro e w1 ⟨rfl, hb1⟩; have HQ := Lib.hid ((Blk.fresh _ _ _ (w.heap.size + 1) (by simp only [World.size_alloc])).below hb1); obtain ⟨q1, f1⟩ := (HQ.out.alloc (.cells #[.slice none 0 0, .slice none 0 0, .string ⟨#[]⟩] 160)).out; have hz1 := hb1.size; simp only [World.size_alloc] at hz1; have B1 : Below w.heap.size w w1 := below_then (by go_grown) hb1))
  refine bodyPost_ret (v := .tuple #[.agg #[.int .i64 0, .int .i64 0, .int .i64 0], errV a]) (by simp [results, Tryd.results131, go_sem, q1, f1]) rfl ⟨rfl, by go_grown⟩

set_option maxRecDepth 100000 in
set_option maxHeartbeats 1000000 in
theorem step_none (p d k s : Int) (a : Addr) (w : World) (h : ErrIs w 13 a) (hn : tabOf p d = none) :
    Calls Tryd.prog 133 #[.int .i64 p, .int .i64 d, .int .i64 k, .int .i64 s] w (Makes (.tuple #[.int .i64 0, errV a]) w) := by
  have HE := Lib.hid h; clear h
  have HN := Lib.hid hn; clear hn
  go_enter Tryd.func133, Tryd.ntmps133
  go_wp2_with (first
    | (go_at_call 97; refine (of_no p d a _ ?_ HN.out).mono ?_; exact HE.out.below (by go_grown); rintro e w1 ⟨rfl, hb1⟩; have hz1 := hb1.size; (try simp only [World.size_alloc] at hz1); have B1 : Below w.heap.size w w1 := below_then (by go_grown) hb1))
  go_ret2
  exact ⟨rfl, by go_grown⟩

set_option maxRecDepth 100000 in
set_option maxHeartbeats 1000000 in
theorem waits_none (p d s : Int) (a : Addr) (w : World) (h : ErrIs w 13 a) (hn : tabOf p d = none) :
    Calls Tryd.prog 56 #[.int .i64 p, .int .i64 d, .int .i64 s] w (Makes (.tuple #[.int .i64 0, errV a]) w) := by
  have HE := Lib.hid h; clear h
  have HN := Lib.hid hn; clear hn
  go_enter Tryd.func56, Tryd.ntmps56
  go_wp2_with (first
    | (go_at_call 97; refine (of_no p d a _ ?_ HN.out).mono ?_; exact HE.out.below (by go_grown); rintro e w1 ⟨rfl, hb1⟩; have hz1 := hb1.size; (try simp only [World.size_alloc] at hz1); have B1 : Below w.heap.size w w1 := below_then (by go_grown) hb1))
  go_ret2
  exact ⟨rfl, by go_grown⟩
end Go.Proofs.YtkidljiffeonjaaDoor
