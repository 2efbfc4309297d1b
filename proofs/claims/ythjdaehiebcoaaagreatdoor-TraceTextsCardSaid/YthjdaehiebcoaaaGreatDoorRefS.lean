/- The walk of liaisonref27.Parse: numbers, and what is read. -/
import Derived.Test.YthjdaehiebcoaaaGreatDoorRows
import Derived.WalkKit
import Derived.WalkSpells
import Derived.WalkLawsBesides
import Derived.BigQuiet
import Derived.Deep.QuietTactic
import Derived.StillTailTactics
import Derived.Handy
import Derived.Lib.Hide
import Derived.Test.YthjdaehiebcoaaaGreatDoorRefR
set_option linter.unusedSimpArgs false
set_option linter.unusedVariables false
namespace Go.Proofs.YthjdaehiebcoaaaGreatDoor
open Go.RowKit

theorem own1 {B : Nat} {v : Value} {x : Int} {w : World} (h : OwnN B v [x] w) : ∃ g cap, v = .slice (some ⟨g, 0, none⟩) 1 cap ∧ B ≤ g ∧ g < w.heap.size ∧ w.cell? ⟨g, 0, none⟩ = some (.int .i64 x) := by
  obtain ⟨g, cap, hv, hb, hlt⟩ := World.ownsRow.form h (by simp)
  have hc := World.ownsRow.cells (g := g) h (by rw [hv]; rfl)
  exact ⟨g, cap, hv, hb, hlt, hc 0 _ rfl⟩
/-- the pieces in a block of the call's own -/
structure P5 (w : World) (g : Nat) (x0 x1 x2 x3 x4 : Str) : Prop where
  lt : g < w.heap.size
  c0 : w.cell? ⟨g, 0, none⟩ = some (.string (bs x0))
  c1 : w.cell? ⟨g, 1, none⟩ = some (.string (bs x1))
  c2 : w.cell? ⟨g, 2, none⟩ = some (.string (bs x2))
  c3 : w.cell? ⟨g, 3, none⟩ = some (.string (bs x3))
  c4 : w.cell? ⟨g, 4, none⟩ = some (.string (bs x4))
theorem P5.below {w w' : World} {g : Nat} {x0 x1 x2 x3 x4 : Str} (h : P5 w g x0 x1 x2 x3 x4) (hb : Below w.heap.size w w') : P5 w' g x0 x1 x2 x3 x4 :=
  ⟨Nat.lt_of_lt_of_le h.lt hb.size, (hb.cell (p := ⟨g, 0, none⟩) h.lt).trans h.c0, (hb.cell (p := ⟨g, 1, none⟩) h.lt).trans h.c1, (hb.cell (p := ⟨g, 2, none⟩) h.lt).trans h.c2, (hb.cell (p := ⟨g, 3, none⟩) h.lt).trans h.c3, (hb.cell (p := ⟨g, 4, none⟩) h.lt).trans h.c4⟩
/-- how a piece is meant: '-' is none -/
def Meant (x y : Str) : Prop := (x = [45] ∧ y = []) ∨ (x ≠ [45] ∧ x ≠ [] ∧ tText x = true ∧ y = x)
theorem meant_ok {x : Str} (h : okPiece x = true) : Meant x (tMeant x) := by
  unfold okPiece at h
  simp only [Bool.and_eq_true, Bool.not_eq_true', beq_eq_false_iff_ne, ne_eq, Bool.or_eq_true, beq_iff_eq] at h
  unfold tMeant
  by_cases h2 : x = [45]
  · rw [if_pos h2]; exact .inl ⟨h2, rfl⟩
  · rw [if_neg h2]; exact .inr ⟨h2, h.1, h.2.resolve_left h2, rfl⟩
set_option maxHeartbeats 2000000 in
theorem rparse_num (s x0 x1 x2 x3 x4 y3 y4 : Str) (hs : s.length ≤ 100000) (hl : pieces s = [x0, x1, x2, x3, x4]) (hz : x3.length ≤ 100000 ∧ x4.length ≤ 100000) (hz0 : x0.length ≤ 100000 ∧ x2.length ≤ 100000) (hc : tWord x1 = true) (h3 : Meant x3 y3) (h4 : Meant x4 y4)
    (hn : tDigs x0 = false ∨ tDigs x0 = true ∧ rdOk [110] x2 = false ∧ x2 ≠ [45]) (w : World) :
    Calls Tryz.prog 7 #[.string (bs s)] w (Makes (.tuple #[evZero, .int .i64 4]) w) := by
  have HS := Lib.hid (fun W => hl ▸ rsplit_of s hs W)
  have HR0 := Lib.hid (Blk.fresh w evZ 29 _ rfl)
  have HB0 := Lib.hid ((Below.refl w.heap.size w).alloc (Nat.le_refl _) (.cells evZ 29))
  have HW := Lib.hid (fun W => hc ▸ rword_of x1 W)
  have HT3 := Lib.hid (fun W => rtext_of x3 hz.1 W)
  have HT4 := Lib.hid (fun W => rtext_of x4 hz.2 W)
  have HN0 := Lib.hid (fun W => (show Calls Tryz.prog 29 #[.string (bs x0), .string ⟨#[35]⟩] W (MakesRd (tDigs x0) (tSat x0) W) from rread_of [] x0 (by simp) (by simp) hz0.1 W))
  have HN2 := Lib.hid (fun W => (show Calls Tryz.prog 29 #[.string (bs x2), .string ⟨#[110, 35]⟩] W (MakesRd (rdOk [110] x2) (tSat (x2.drop 1)) W) from rread_of [110] x2 (by simp) (by simp) hz0.2 W))
  clear hs hl hz hz0 hc
  rcases hn with hn | ⟨hn, hr, h45⟩
  · rw [hn] at HN0
    clear hn
    rcases h3 with ⟨d3, m3⟩ | ⟨d3, n3, t3, m3⟩
    · clear m3
      have e3 : ((bs x3).toList == []) = false := by rw [bs_toList]; rw [d3]; rfl
      have g3 : ((bs x3).toList == [45]) = true := by rw [bs_toList]; rw [d3]; rfl
      clear d3
      rcases h4 with ⟨d4, m4⟩ | ⟨d4, n4, t4, m4⟩
      · clear m4
        have e4 : ((bs x4).toList == []) = false := by rw [bs_toList]; rw [d4]; rfl
        have g4 : ((bs x4).toList == [45]) = true := by rw [bs_toList]; rw [d4]; rfl
        clear d4
        go_enter Tryz.func7, Tryz.ntmps7
        go_wp2_with fail
        refine (HS.out _).mono ?_
        rintro e w1 ⟨v, rfl, hown, hb1⟩
        obtain ⟨g, cap, rfl, hg, hgl, c0, c1, c2, c3, c4⟩ := own5 hown
        have HR := Lib.hid (HR0.out.below hb1); have HB := Lib.hid (below_then HB0.out hb1)
        have HP := Lib.hid (P5.mk hgl c0 c1 c2 c3 c4)
        have hge : w.heap.size < g := by simp at hg; omega
        have HG := Lib.hid hge
        clear hown hb1 hg hgl hge
        go_wp2_with (first | (go_at_call 27; ((with_reducible refine (HW.out _).mono ?_); rintro e w6 ⟨rfl, rfl⟩)) | (go_at_call 28; ((with_reducible refine (HT3.out _).mono ?_); rintro e w6 ⟨rfl, rfl⟩)) | (go_at_call 28; ((with_reducible refine (HT4.out _).mono ?_); rintro e w6 ⟨rfl, rfl⟩)))
        refine (HN0.out _).mono ?_
        rintro e w2 ⟨v5, rfl, hok5, hb2⟩
        have HR := Lib.hid (HR.out.below hb2); have HP := Lib.hid (HP.out.below hb2); have HB := Lib.hid (below_then HB.out hb2)
        clear c0 c1 c2 c3 c4
        have HO5 := Lib.hid hok5
        clear hok5
        have c2 := HP.out.c2
        go_wp2_with fail
        refine (HN2.out _).mono ?_
        rintro e w3 ⟨v7, rfl, hok7, hb3⟩
        have HO7 := Lib.hid hok7
        clear hok7 c2
        have HR := Lib.hid (HR.out.below hb3); have HP := Lib.hid (HP.out.below hb3); have HB := Lib.hid (below_then HB.out hb3)
        have c2 := HP.out.c2
        have KX := Lib.hid (HR.out.set5 rfl 0 ⟨#[]⟩ 0 ⟨#[]⟩ ⟨#[]⟩)
        have KB := Lib.hid (set5_below HB.out (Nat.le_refl w.heap.size) 0 ⟨#[]⟩ 0 ⟨#[]⟩ ⟨#[]⟩)
        have r0 : w3.cell? ⟨w.heap.size, 0, none⟩ = some (.int .i64 0) := HR.out.cell 0
        have r1 : w3.cell? ⟨w.heap.size, 1, none⟩ = some (.string ⟨#[]⟩) := HR.out.cell 1
        have r2 : w3.cell? ⟨w.heap.size, 2, none⟩ = some (.int .i64 0) := HR.out.cell 2
        have r3 : w3.cell? ⟨w.heap.size, 3, none⟩ = some (.string ⟨#[]⟩) := HR.out.cell 3
        have r4 : w3.cell? ⟨w.heap.size, 4, none⟩ = some (.string ⟨#[]⟩) := HR.out.cell 4
        have r5 := HR.out.free
        dsimp only [set5] at KX KB
        go_wp2_with fail
        clear r0 r1 r2 r3 r4 r5
        generalize (((((w3.setCell ⟨w.heap.size, 0, none⟩ (.int .i64 0)).setCell ⟨w.heap.size, 1, none⟩ (.string ⟨#[]⟩)).setCell ⟨w.heap.size, 2, none⟩ (.int .i64 0)).setCell ⟨w.heap.size, 3, none⟩ (.string ⟨#[]⟩)).setCell ⟨w.heap.size, 4, none⟩ (.string ⟨#[]⟩)) = ws at *
        have q := KX.out.cell; have qf := KX.out.free
        exact bodyPost_ret (v := .tuple #[.agg #[.int .i64 0, .string ⟨#[]⟩, .int .i64 0, .string ⟨#[]⟩, .string ⟨#[]⟩], .int .i64 4]) (by simp [results, Tryz.results7, go_sem, q, qf]) rfl ⟨rfl, KB.out⟩
      · clear m4
        have e4 : ((bs x4).toList == []) = false := by rw [bs_toList]; simpa using n4
        have g4 : ((bs x4).toList == [45]) = false := by rw [bs_toList]; simpa using d4
        rw [t4] at HT4
        clear n4 d4 t4
        go_enter Tryz.func7, Tryz.ntmps7
        go_wp2_with fail
        refine (HS.out _).mono ?_
        rintro e w1 ⟨v, rfl, hown, hb1⟩
        obtain ⟨g, cap, rfl, hg, hgl, c0, c1, c2, c3, c4⟩ := own5 hown
        have HR := Lib.hid (HR0.out.below hb1); have HB := Lib.hid (below_then HB0.out hb1)
        have HP := Lib.hid (P5.mk hgl c0 c1 c2 c3 c4)
        have hge : w.heap.size < g := by simp at hg; omega
        have HG := Lib.hid hge
        clear hown hb1 hg hgl hge
        go_wp2_with (first | (go_at_call 27; ((with_reducible refine (HW.out _).mono ?_); rintro e w6 ⟨rfl, rfl⟩)) | (go_at_call 28; ((with_reducible refine (HT3.out _).mono ?_); rintro e w6 ⟨rfl, rfl⟩)) | (go_at_call 28; ((with_reducible refine (HT4.out _).mono ?_); rintro e w6 ⟨rfl, rfl⟩)))
        refine (HN0.out _).mono ?_
        rintro e w2 ⟨v5, rfl, hok5, hb2⟩
        have HR := Lib.hid (HR.out.below hb2); have HP := Lib.hid (HP.out.below hb2); have HB := Lib.hid (below_then HB.out hb2)
        clear c0 c1 c2 c3 c4
        have HO5 := Lib.hid hok5
        clear hok5
        have c2 := HP.out.c2
        go_wp2_with fail
        refine (HN2.out _).mono ?_
        rintro e w3 ⟨v7, rfl, hok7, hb3⟩
        have HO7 := Lib.hid hok7
        clear hok7 c2
        have HR := Lib.hid (HR.out.below hb3); have HP := Lib.hid (HP.out.below hb3); have HB := Lib.hid (below_then HB.out hb3)
        have c2 := HP.out.c2
        have KX := Lib.hid (HR.out.set5 rfl 0 ⟨#[]⟩ 0 ⟨#[]⟩ ⟨#[]⟩)
        have KB := Lib.hid (set5_below HB.out (Nat.le_refl w.heap.size) 0 ⟨#[]⟩ 0 ⟨#[]⟩ ⟨#[]⟩)
        have r0 : w3.cell? ⟨w.heap.size, 0, none⟩ = some (.int .i64 0) := HR.out.cell 0
        have r1 : w3.cell? ⟨w.heap.size, 1, none⟩ = some (.string ⟨#[]⟩) := HR.out.cell 1
        have r2 : w3.cell? ⟨w.heap.size, 2, none⟩ = some (.int .i64 0) := HR.out.cell 2
        have r3 : w3.cell? ⟨w.heap.size, 3, none⟩ = some (.string ⟨#[]⟩) := HR.out.cell 3
        have r4 : w3.cell? ⟨w.heap.size, 4, none⟩ = some (.string ⟨#[]⟩) := HR.out.cell 4
        have r5 := HR.out.free
        dsimp only [set5] at KX KB
        go_wp2_with fail
        clear r0 r1 r2 r3 r4 r5
        generalize (((((w3.setCell ⟨w.heap.size, 0, none⟩ (.int .i64 0)).setCell ⟨w.heap.size, 1, none⟩ (.string ⟨#[]⟩)).setCell ⟨w.heap.size, 2, none⟩ (.int .i64 0)).setCell ⟨w.heap.size, 3, none⟩ (.string ⟨#[]⟩)).setCell ⟨w.heap.size, 4, none⟩ (.string ⟨#[]⟩)) = ws at *
        have q := KX.out.cell; have qf := KX.out.free
        exact bodyPost_ret (v := .tuple #[.agg #[.int .i64 0, .string ⟨#[]⟩, .int .i64 0, .string ⟨#[]⟩, .string ⟨#[]⟩], .int .i64 4]) (by simp [results, Tryz.results7, go_sem, q, qf]) rfl ⟨rfl, KB.out⟩
    · clear m3
      have e3 : ((bs x3).toList == []) = false := by rw [bs_toList]; simpa using n3
      have g3 : ((bs x3).toList == [45]) = false := by rw [bs_toList]; simpa using d3
      rw [t3] at HT3
      clear n3 d3 t3
      rcases h4 with ⟨d4, m4⟩ | ⟨d4, n4, t4, m4⟩
      · clear m4
        have e4 : ((bs x4).toList == []) = false := by rw [bs_toList]; rw [d4]; rfl
        have g4 : ((bs x4).toList == [45]) = true := by rw [bs_toList]; rw [d4]; rfl
        clear d4
        go_enter Tryz.func7, Tryz.ntmps7
        go_wp2_with fail
        refine (HS.out _).mono ?_
        rintro e w1 ⟨v, rfl, hown, hb1⟩
        obtain ⟨g, cap, rfl, hg, hgl, c0, c1, c2, c3, c4⟩ := own5 hown
        have HR := Lib.hid (HR0.out.below hb1); have HB := Lib.hid (below_then HB0.out hb1)
        have HP := Lib.hid (P5.mk hgl c0 c1 c2 c3 c4)
        have hge : w.heap.size < g := by simp at hg; omega
        have HG := Lib.hid hge
        clear hown hb1 hg hgl hge
        go_wp2_with (first | (go_at_call 27; ((with_reducible refine (HW.out _).mono ?_); rintro e w6 ⟨rfl, rfl⟩)) | (go_at_call 28; ((with_reducible refine (HT3.out _).mono ?_); rintro e w6 ⟨rfl, rfl⟩)) | (go_at_call 28; ((with_reducible refine (HT4.out _).mono ?_); rintro e w6 ⟨rfl, rfl⟩)))
        refine (HN0.out _).mono ?_
        rintro e w2 ⟨v5, rfl, hok5, hb2⟩
        have HR := Lib.hid (HR.out.below hb2); have HP := Lib.hid (HP.out.below hb2); have HB := Lib.hid (below_then HB.out hb2)
        clear c0 c1 c2 c3 c4
        have HO5 := Lib.hid hok5
        clear hok5
        have c2 := HP.out.c2
        go_wp2_with fail
        refine (HN2.out _).mono ?_
        rintro e w3 ⟨v7, rfl, hok7, hb3⟩
        have HO7 := Lib.hid hok7
        clear hok7 c2
        have HR := Lib.hid (HR.out.below hb3); have HP := Lib.hid (HP.out.below hb3); have HB := Lib.hid (below_then HB.out hb3)
        have c2 := HP.out.c2
        have KX := Lib.hid (HR.out.set5 rfl 0 ⟨#[]⟩ 0 ⟨#[]⟩ ⟨#[]⟩)
        have KB := Lib.hid (set5_below HB.out (Nat.le_refl w.heap.size) 0 ⟨#[]⟩ 0 ⟨#[]⟩ ⟨#[]⟩)
        have r0 : w3.cell? ⟨w.heap.size, 0, none⟩ = some (.int .i64 0) := HR.out.cell 0
        have r1 : w3.cell? ⟨w.heap.size, 1, none⟩ = some (.string ⟨#[]⟩) := HR.out.cell 1
        have r2 : w3.cell? ⟨w.heap.size, 2, none⟩ = some (.int .i64 0) := HR.out.cell 2
        have r3 : w3.cell? ⟨w.heap.size, 3, none⟩ = some (.string ⟨#[]⟩) := HR.out.cell 3
        have r4 : w3.cell? ⟨w.heap.size, 4, none⟩ = some (.string ⟨#[]⟩) := HR.out.cell 4
        have r5 := HR.out.free
        dsimp only [set5] at KX KB
        go_wp2_with fail
        clear r0 r1 r2 r3 r4 r5
        generalize (((((w3.setCell ⟨w.heap.size, 0, none⟩ (.int .i64 0)).setCell ⟨w.heap.size, 1, none⟩ (.string ⟨#[]⟩)).setCell ⟨w.heap.size, 2, none⟩ (.int .i64 0)).setCell ⟨w.heap.size, 3, none⟩ (.string ⟨#[]⟩)).setCell ⟨w.heap.size, 4, none⟩ (.string ⟨#[]⟩)) = ws at *
        have q := KX.out.cell; have qf := KX.out.free
        exact bodyPost_ret (v := .tuple #[.agg #[.int .i64 0, .string ⟨#[]⟩, .int .i64 0, .string ⟨#[]⟩, .string ⟨#[]⟩], .int .i64 4]) (by simp [results, Tryz.results7, go_sem, q, qf]) rfl ⟨rfl, KB.out⟩
      · clear m4
        have e4 : ((bs x4).toList == []) = false := by rw [bs_toList]; simpa using n4
        have g4 : ((bs x4).toList == [45]) = false := by rw [bs_toList]; simpa using d4
        rw [t4] at HT4
        clear n4 d4 t4
        go_enter Tryz.func7, Tryz.ntmps7
        go_wp2_with fail
        refine (HS.out _).mono ?_
        rintro e w1 ⟨v, rfl, hown, hb1⟩
        obtain ⟨g, cap, rfl, hg, hgl, c0, c1, c2, c3, c4⟩ := own5 hown
        have HR := Lib.hid (HR0.out.below hb1); have HB := Lib.hid (below_then HB0.out hb1)
        have HP := Lib.hid (P5.mk hgl c0 c1 c2 c3 c4)
        have hge : w.heap.size < g := by simp at hg; omega
        have HG := Lib.hid hge
        clear hown hb1 hg hgl hge
        go_wp2_with (first | (go_at_call 27; ((with_reducible refine (HW.out _).mono ?_); rintro e w6 ⟨rfl, rfl⟩)) | (go_at_call 28; ((with_reducible refine (HT3.out _).mono ?_); rintro e w6 ⟨rfl, rfl⟩)) | (go_at_call 28; ((with_reducible refine (HT4.out _).mono ?_); rintro e w6 ⟨rfl, rfl⟩)))
        refine (HN0.out _).mono ?_
        rintro e w2 ⟨v5, rfl, hok5, hb2⟩
        have HR := Lib.hid (HR.out.below hb2); have HP := Lib.hid (HP.out.below hb2); have HB := Lib.hid (below_then HB.out hb2)
        clear c0 c1 c2 c3 c4
        have HO5 := Lib.hid hok5
        clear hok5
        have c2 := HP.out.c2
        go_wp2_with fail
        refine (HN2.out _).mono ?_
        rintro e w3 ⟨v7, rfl, hok7, hb3⟩
        have HO7 := Lib.hid hok7
        clear hok7 c2
        have HR := Lib.hid (HR.out.below hb3); have HP := Lib.hid (HP.out.below hb3); have HB := Lib.hid (below_then HB.out hb3)
        have c2 := HP.out.c2
        have KX := Lib.hid (HR.out.set5 rfl 0 ⟨#[]⟩ 0 ⟨#[]⟩ ⟨#[]⟩)
        have KB := Lib.hid (set5_below HB.out (Nat.le_refl w.heap.size) 0 ⟨#[]⟩ 0 ⟨#[]⟩ ⟨#[]⟩)
        have r0 : w3.cell? ⟨w.heap.size, 0, none⟩ = some (.int .i64 0) := HR.out.cell 0
        have r1 : w3.cell? ⟨w.heap.size, 1, none⟩ = some (.string ⟨#[]⟩) := HR.out.cell 1
        have r2 : w3.cell? ⟨w.heap.size, 2, none⟩ = some (.int .i64 0) := HR.out.cell 2
        have r3 : w3.cell? ⟨w.heap.size, 3, none⟩ = some (.string ⟨#[]⟩) := HR.out.cell 3
        have r4 : w3.cell? ⟨w.heap.size, 4, none⟩ = some (.string ⟨#[]⟩) := HR.out.cell 4
        have r5 := HR.out.free
        dsimp only [set5] at KX KB
        go_wp2_with fail
        clear r0 r1 r2 r3 r4 r5
        generalize (((((w3.setCell ⟨w.heap.size, 0, none⟩ (.int .i64 0)).setCell ⟨w.heap.size, 1, none⟩ (.string ⟨#[]⟩)).setCell ⟨w.heap.size, 2, none⟩ (.int .i64 0)).setCell ⟨w.heap.size, 3, none⟩ (.string ⟨#[]⟩)).setCell ⟨w.heap.size, 4, none⟩ (.string ⟨#[]⟩)) = ws at *
        have q := KX.out.cell; have qf := KX.out.free
        exact bodyPost_ret (v := .tuple #[.agg #[.int .i64 0, .string ⟨#[]⟩, .int .i64 0, .string ⟨#[]⟩, .string ⟨#[]⟩], .int .i64 4]) (by simp [results, Tryz.results7, go_sem, q, qf]) rfl ⟨rfl, KB.out⟩
  · rw [hn] at HN0
    rw [hr] at HN2
    have e45 : ((bs x2).toList == [45]) = false := by rw [bs_toList]; simpa using h45
    clear hn hr h45
    rcases h3 with ⟨d3, m3⟩ | ⟨d3, n3, t3, m3⟩
    · clear m3
      have e3 : ((bs x3).toList == []) = false := by rw [bs_toList]; rw [d3]; rfl
      have g3 : ((bs x3).toList == [45]) = true := by rw [bs_toList]; rw [d3]; rfl
      clear d3
      rcases h4 with ⟨d4, m4⟩ | ⟨d4, n4, t4, m4⟩
      · clear m4
        have e4 : ((bs x4).toList == []) = false := by rw [bs_toList]; rw [d4]; rfl
        have g4 : ((bs x4).toList == [45]) = true := by rw [bs_toList]; rw [d4]; rfl
        clear d4
        go_enter Tryz.func7, Tryz.ntmps7
        go_wp2_with fail
        refine (HS.out _).mono ?_
        rintro e w1 ⟨v, rfl, hown, hb1⟩
        obtain ⟨g, cap, rfl, hg, hgl, c0, c1, c2, c3, c4⟩ := own5 hown
        have HR := Lib.hid (HR0.out.below hb1); have HB := Lib.hid (below_then HB0.out hb1)
        have HP := Lib.hid (P5.mk hgl c0 c1 c2 c3 c4)
        have hge : w.heap.size < g := by simp at hg; omega
        have HG := Lib.hid hge
        clear hown hb1 hg hgl hge
        go_wp2_with (first | (go_at_call 27; ((with_reducible refine (HW.out _).mono ?_); rintro e w6 ⟨rfl, rfl⟩)) | (go_at_call 28; ((with_reducible refine (HT3.out _).mono ?_); rintro e w6 ⟨rfl, rfl⟩)) | (go_at_call 28; ((with_reducible refine (HT4.out _).mono ?_); rintro e w6 ⟨rfl, rfl⟩)))
        refine (HN0.out _).mono ?_
        rintro e w2 ⟨v5, rfl, hok5, hb2⟩
        have HR := Lib.hid (HR.out.below hb2); have HP := Lib.hid (HP.out.below hb2); have HB := Lib.hid (below_then HB.out hb2)
        clear c0 c1 c2 c3 c4
        have HO5 := Lib.hid hok5
        clear hok5
        have c2 := HP.out.c2
        go_wp2_with fail
        refine (HN2.out _).mono ?_
        rintro e w3 ⟨v7, rfl, hok7, hb3⟩
        have HO7 := Lib.hid hok7
        clear hok7 c2
        have HR := Lib.hid (HR.out.below hb3); have HP := Lib.hid (HP.out.below hb3); have HB := Lib.hid (below_then HB.out hb3)
        have c2 := HP.out.c2
        have KX := Lib.hid (HR.out.set5 rfl 0 ⟨#[]⟩ 0 ⟨#[]⟩ ⟨#[]⟩)
        have KB := Lib.hid (set5_below HB.out (Nat.le_refl w.heap.size) 0 ⟨#[]⟩ 0 ⟨#[]⟩ ⟨#[]⟩)
        have r0 : w3.cell? ⟨w.heap.size, 0, none⟩ = some (.int .i64 0) := HR.out.cell 0
        have r1 : w3.cell? ⟨w.heap.size, 1, none⟩ = some (.string ⟨#[]⟩) := HR.out.cell 1
        have r2 : w3.cell? ⟨w.heap.size, 2, none⟩ = some (.int .i64 0) := HR.out.cell 2
        have r3 : w3.cell? ⟨w.heap.size, 3, none⟩ = some (.string ⟨#[]⟩) := HR.out.cell 3
        have r4 : w3.cell? ⟨w.heap.size, 4, none⟩ = some (.string ⟨#[]⟩) := HR.out.cell 4
        have r5 := HR.out.free
        dsimp only [set5] at KX KB
        go_wp2_with fail
        clear r0 r1 r2 r3 r4 r5
        generalize (((((w3.setCell ⟨w.heap.size, 0, none⟩ (.int .i64 0)).setCell ⟨w.heap.size, 1, none⟩ (.string ⟨#[]⟩)).setCell ⟨w.heap.size, 2, none⟩ (.int .i64 0)).setCell ⟨w.heap.size, 3, none⟩ (.string ⟨#[]⟩)).setCell ⟨w.heap.size, 4, none⟩ (.string ⟨#[]⟩)) = ws at *
        have q := KX.out.cell; have qf := KX.out.free
        exact bodyPost_ret (v := .tuple #[.agg #[.int .i64 0, .string ⟨#[]⟩, .int .i64 0, .string ⟨#[]⟩, .string ⟨#[]⟩], .int .i64 4]) (by simp [results, Tryz.results7, go_sem, q, qf]) rfl ⟨rfl, KB.out⟩
      · clear m4
        have e4 : ((bs x4).toList == []) = false := by rw [bs_toList]; simpa using n4
        have g4 : ((bs x4).toList == [45]) = false := by rw [bs_toList]; simpa using d4
        rw [t4] at HT4
        clear n4 d4 t4
        go_enter Tryz.func7, Tryz.ntmps7
        go_wp2_with fail
        refine (HS.out _).mono ?_
        rintro e w1 ⟨v, rfl, hown, hb1⟩
        obtain ⟨g, cap, rfl, hg, hgl, c0, c1, c2, c3, c4⟩ := own5 hown
        have HR := Lib.hid (HR0.out.below hb1); have HB := Lib.hid (below_then HB0.out hb1)
        have HP := Lib.hid (P5.mk hgl c0 c1 c2 c3 c4)
        have hge : w.heap.size < g := by simp at hg; omega
        have HG := Lib.hid hge
        clear hown hb1 hg hgl hge
        go_wp2_with (first | (go_at_call 27; ((with_reducible refine (HW.out _).mono ?_); rintro e w6 ⟨rfl, rfl⟩)) | (go_at_call 28; ((with_reducible refine (HT3.out _).mono ?_); rintro e w6 ⟨rfl, rfl⟩)) | (go_at_call 28; ((with_reducible refine (HT4.out _).mono ?_); rintro e w6 ⟨rfl, rfl⟩)))
        refine (HN0.out _).mono ?_
        rintro e w2 ⟨v5, rfl, hok5, hb2⟩
        have HR := Lib.hid (HR.out.below hb2); have HP := Lib.hid (HP.out.below hb2); have HB := Lib.hid (below_then HB.out hb2)
        clear c0 c1 c2 c3 c4
        have HO5 := Lib.hid hok5
        clear hok5
        have c2 := HP.out.c2
        go_wp2_with fail
        refine (HN2.out _).mono ?_
        rintro e w3 ⟨v7, rfl, hok7, hb3⟩
        have HO7 := Lib.hid hok7
        clear hok7 c2
        have HR := Lib.hid (HR.out.below hb3); have HP := Lib.hid (HP.out.below hb3); have HB := Lib.hid (below_then HB.out hb3)
        have c2 := HP.out.c2
        have KX := Lib.hid (HR.out.set5 rfl 0 ⟨#[]⟩ 0 ⟨#[]⟩ ⟨#[]⟩)
        have KB := Lib.hid (set5_below HB.out (Nat.le_refl w.heap.size) 0 ⟨#[]⟩ 0 ⟨#[]⟩ ⟨#[]⟩)
        have r0 : w3.cell? ⟨w.heap.size, 0, none⟩ = some (.int .i64 0) := HR.out.cell 0
        have r1 : w3.cell? ⟨w.heap.size, 1, none⟩ = some (.string ⟨#[]⟩) := HR.out.cell 1
        have r2 : w3.cell? ⟨w.heap.size, 2, none⟩ = some (.int .i64 0) := HR.out.cell 2
        have r3 : w3.cell? ⟨w.heap.size, 3, none⟩ = some (.string ⟨#[]⟩) := HR.out.cell 3
        have r4 : w3.cell? ⟨w.heap.size, 4, none⟩ = some (.string ⟨#[]⟩) := HR.out.cell 4
        have r5 := HR.out.free
        dsimp only [set5] at KX KB
        go_wp2_with fail
        clear r0 r1 r2 r3 r4 r5
        generalize (((((w3.setCell ⟨w.heap.size, 0, none⟩ (.int .i64 0)).setCell ⟨w.heap.size, 1, none⟩ (.string ⟨#[]⟩)).setCell ⟨w.heap.size, 2, none⟩ (.int .i64 0)).setCell ⟨w.heap.size, 3, none⟩ (.string ⟨#[]⟩)).setCell ⟨w.heap.size, 4, none⟩ (.string ⟨#[]⟩)) = ws at *
        have q := KX.out.cell; have qf := KX.out.free
        exact bodyPost_ret (v := .tuple #[.agg #[.int .i64 0, .string ⟨#[]⟩, .int .i64 0, .string ⟨#[]⟩, .string ⟨#[]⟩], .int .i64 4]) (by simp [results, Tryz.results7, go_sem, q, qf]) rfl ⟨rfl, KB.out⟩
    · clear m3
      have e3 : ((bs x3).toList == []) = false := by rw [bs_toList]; simpa using n3
      have g3 : ((bs x3).toList == [45]) = false := by rw [bs_toList]; simpa using d3
      rw [t3] at HT3
      clear n3 d3 t3
      rcases h4 with ⟨d4, m4⟩ | ⟨d4, n4, t4, m4⟩
      · clear m4
        have e4 : ((bs x4).toList == []) = false := by rw [bs_toList]; rw [d4]; rfl
        have g4 : ((bs x4).toList == [45]) = true := by rw [bs_toList]; rw [d4]; rfl
        clear d4
        go_enter Tryz.func7, Tryz.ntmps7
        go_wp2_with fail
        refine (HS.out _).mono ?_
        rintro e w1 ⟨v, rfl, hown, hb1⟩
        obtain ⟨g, cap, rfl, hg, hgl, c0, c1, c2, c3, c4⟩ := own5 hown
        have HR := Lib.hid (HR0.out.below hb1); have HB := Lib.hid (below_then HB0.out hb1)
        have HP := Lib.hid (P5.mk hgl c0 c1 c2 c3 c4)
        have hge : w.heap.size < g := by simp at hg; omega
        have HG := Lib.hid hge
        clear hown hb1 hg hgl hge
        go_wp2_with (first | (go_at_call 27; ((with_reducible refine (HW.out _).mono ?_); rintro e w6 ⟨rfl, rfl⟩)) | (go_at_call 28; ((with_reducible refine (HT3.out _).mono ?_); rintro e w6 ⟨rfl, rfl⟩)) | (go_at_call 28; ((with_reducible refine (HT4.out _).mono ?_); rintro e w6 ⟨rfl, rfl⟩)))
        refine (HN0.out _).mono ?_
        rintro e w2 ⟨v5, rfl, hok5, hb2⟩
        have HR := Lib.hid (HR.out.below hb2); have HP := Lib.hid (HP.out.below hb2); have HB := Lib.hid (below_then HB.out hb2)
        clear c0 c1 c2 c3 c4
        have HO5 := Lib.hid hok5
        clear hok5
        have c2 := HP.out.c2
        go_wp2_with fail
        refine (HN2.out _).mono ?_
        rintro e w3 ⟨v7, rfl, hok7, hb3⟩
        have HO7 := Lib.hid hok7
        clear hok7 c2
        have HR := Lib.hid (HR.out.below hb3); have HP := Lib.hid (HP.out.below hb3); have HB := Lib.hid (below_then HB.out hb3)
        have c2 := HP.out.c2
        have KX := Lib.hid (HR.out.set5 rfl 0 ⟨#[]⟩ 0 ⟨#[]⟩ ⟨#[]⟩)
        have KB := Lib.hid (set5_below HB.out (Nat.le_refl w.heap.size) 0 ⟨#[]⟩ 0 ⟨#[]⟩ ⟨#[]⟩)
        have r0 : w3.cell? ⟨w.heap.size, 0, none⟩ = some (.int .i64 0) := HR.out.cell 0
        have r1 : w3.cell? ⟨w.heap.size, 1, none⟩ = some (.string ⟨#[]⟩) := HR.out.cell 1
        have r2 : w3.cell? ⟨w.heap.size, 2, none⟩ = some (.int .i64 0) := HR.out.cell 2
        have r3 : w3.cell? ⟨w.heap.size, 3, none⟩ = some (.string ⟨#[]⟩) := HR.out.cell 3
        have r4 : w3.cell? ⟨w.heap.size, 4, none⟩ = some (.string ⟨#[]⟩) := HR.out.cell 4
        have r5 := HR.out.free
        dsimp only [set5] at KX KB
        go_wp2_with fail
        clear r0 r1 r2 r3 r4 r5
        generalize (((((w3.setCell ⟨w.heap.size, 0, none⟩ (.int .i64 0)).setCell ⟨w.heap.size, 1, none⟩ (.string ⟨#[]⟩)).setCell ⟨w.heap.size, 2, none⟩ (.int .i64 0)).setCell ⟨w.heap.size, 3, none⟩ (.string ⟨#[]⟩)).setCell ⟨w.heap.size, 4, none⟩ (.string ⟨#[]⟩)) = ws at *
        have q := KX.out.cell; have qf := KX.out.free
        exact bodyPost_ret (v := .tuple #[.agg #[.int .i64 0, .string ⟨#[]⟩, .int .i64 0, .string ⟨#[]⟩, .string ⟨#[]⟩], .int .i64 4]) (by simp [results, Tryz.results7, go_sem, q, qf]) rfl ⟨rfl, KB.out⟩
      · clear m4
        have e4 : ((bs x4).toList == []) = false := by rw [bs_toList]; simpa using n4
        have g4 : ((bs x4).toList == [45]) = false := by rw [bs_toList]; simpa using d4
        rw [t4] at HT4
        clear n4 d4 t4
        go_enter Tryz.func7, Tryz.ntmps7
        go_wp2_with fail
        refine (HS.out _).mono ?_
        rintro e w1 ⟨v, rfl, hown, hb1⟩
        obtain ⟨g, cap, rfl, hg, hgl, c0, c1, c2, c3, c4⟩ := own5 hown
        have HR := Lib.hid (HR0.out.below hb1); have HB := Lib.hid (below_then HB0.out hb1)
        have HP := Lib.hid (P5.mk hgl c0 c1 c2 c3 c4)
        have hge : w.heap.size < g := by simp at hg; omega
        have HG := Lib.hid hge
        clear hown hb1 hg hgl hge
        go_wp2_with (first | (go_at_call 27; ((with_reducible refine (HW.out _).mono ?_); rintro e w6 ⟨rfl, rfl⟩)) | (go_at_call 28; ((with_reducible refine (HT3.out _).mono ?_); rintro e w6 ⟨rfl, rfl⟩)) | (go_at_call 28; ((with_reducible refine (HT4.out _).mono ?_); rintro e w6 ⟨rfl, rfl⟩)))
        refine (HN0.out _).mono ?_
        rintro e w2 ⟨v5, rfl, hok5, hb2⟩
        have HR := Lib.hid (HR.out.below hb2); have HP := Lib.hid (HP.out.below hb2); have HB := Lib.hid (below_then HB.out hb2)
        clear c0 c1 c2 c3 c4
        have HO5 := Lib.hid hok5
        clear hok5
        have c2 := HP.out.c2
        go_wp2_with fail
        refine (HN2.out _).mono ?_
        rintro e w3 ⟨v7, rfl, hok7, hb3⟩
        have HO7 := Lib.hid hok7
        clear hok7 c2
        have HR := Lib.hid (HR.out.below hb3); have HP := Lib.hid (HP.out.below hb3); have HB := Lib.hid (below_then HB.out hb3)
        have c2 := HP.out.c2
        have KX := Lib.hid (HR.out.set5 rfl 0 ⟨#[]⟩ 0 ⟨#[]⟩ ⟨#[]⟩)
        have KB := Lib.hid (set5_below HB.out (Nat.le_refl w.heap.size) 0 ⟨#[]⟩ 0 ⟨#[]⟩ ⟨#[]⟩)
        have r0 : w3.cell? ⟨w.heap.size, 0, none⟩ = some (.int .i64 0) := HR.out.cell 0
        have r1 : w3.cell? ⟨w.heap.size, 1, none⟩ = some (.string ⟨#[]⟩) := HR.out.cell 1
        have r2 : w3.cell? ⟨w.heap.size, 2, none⟩ = some (.int .i64 0) := HR.out.cell 2
        have r3 : w3.cell? ⟨w.heap.size, 3, none⟩ = some (.string ⟨#[]⟩) := HR.out.cell 3
        have r4 : w3.cell? ⟨w.heap.size, 4, none⟩ = some (.string ⟨#[]⟩) := HR.out.cell 4
        have r5 := HR.out.free
        dsimp only [set5] at KX KB
        go_wp2_with fail
        clear r0 r1 r2 r3 r4 r5
        generalize (((((w3.setCell ⟨w.heap.size, 0, none⟩ (.int .i64 0)).setCell ⟨w.heap.size, 1, none⟩ (.string ⟨#[]⟩)).setCell ⟨w.heap.size, 2, none⟩ (.int .i64 0)).setCell ⟨w.heap.size, 3, none⟩ (.string ⟨#[]⟩)).setCell ⟨w.heap.size, 4, none⟩ (.string ⟨#[]⟩)) = ws at *
        have q := KX.out.cell; have qf := KX.out.free
        exact bodyPost_ret (v := .tuple #[.agg #[.int .i64 0, .string ⟨#[]⟩, .int .i64 0, .string ⟨#[]⟩, .string ⟨#[]⟩], .int .i64 4]) (by simp [results, Tryz.results7, go_sem, q, qf]) rfl ⟨rfl, KB.out⟩
end Go.Proofs.YthjdaehiebcoaaaGreatDoor
