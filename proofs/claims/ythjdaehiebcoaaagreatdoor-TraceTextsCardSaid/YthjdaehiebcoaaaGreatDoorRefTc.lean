/- The walk of liaisonref27.Parse: an event without a node. -/
import Derived.Test.YthjdaehiebcoaaaGreatDoorRows
import Derived.WalkKit
import Derived.WalkSpells
import Derived.WalkLawsBesides
import Derived.BigQuiet
import Derived.Deep.QuietTactic
import Derived.StillTailTactics
import Derived.Handy
import Derived.Lib.Hide
import Derived.Test.YthjdaehiebcoaaaGreatDoorRefT0
set_option linter.unusedSimpArgs false
set_option linter.unusedVariables false
namespace Go.Proofs.YthjdaehiebcoaaaGreatDoor
open Go.RowKit

set_option maxRecDepth 100000 in
set_option maxHeartbeats 4000000 in
theorem rparse_ny (s x0 x1 x2 x3 x4 y3 y4 : Str) (hs : s.length ≤ 100000) (hl : pieces s = [x0, x1, x2, x3, x4]) (hz : x3.length ≤ 100000 ∧ x4.length ≤ 100000) (hz0 : x0.length ≤ 100000 ∧ x2.length ≤ 100000) (hc : tWord x1 = true) (h3 : Meant x3 y3) (h4 : Meant x4 y4)
    (hn : tDigs x0 = true) (a : Int) (ha : a = (tSat x0 : Int)) (hr : rdOk [110] x2 = false) (h45 : x2 = [45]) (hr1 : a ≤ 999999) (w : World) :
    Calls Tryz.prog 7 #[.string (bs s)] w (Makes (.tuple #[evV ⟨a, x1, (-1), y3, y4⟩, .int .i64 0]) w) := by
  have HS := Lib.hid (fun W => hl ▸ rsplit_of s hs W)
  have HR0 := Lib.hid (Blk.fresh w evZ 29 _ rfl)
  have HB0 := Lib.hid ((Below.refl w.heap.size w).alloc (Nat.le_refl _) (.cells evZ 29))
  have HW := Lib.hid (fun W => hc ▸ rword_of x1 W)
  have HT3 := Lib.hid (fun W => rtext_of x3 hz.1 W)
  have HT4 := Lib.hid (fun W => rtext_of x4 hz.2 W)
  have HN0 := Lib.hid (fun W => (show Calls Tryz.prog 29 #[.string (bs x0), .string ⟨#[35]⟩] W (MakesRd (tDigs x0) (tSat x0) W) from rread_of [] x0 (by simp) (by simp) hz0.1 W))
  have HN2 := Lib.hid (fun W => (show Calls Tryz.prog 29 #[.string (bs x2), .string ⟨#[110, 35]⟩] W (MakesRd (rdOk [110] x2) (tSat (x2.drop 1)) W) from rread_of [110] x2 (by simp) (by simp) hz0.2 W))
  clear hs hl hz hz0 hc
  rw [hn] at HN0
  rw [hr] at HN2
  have e45 : ((bs x2).toList == [45]) = true := by rw [bs_toList, h45]; rfl
  clear hr h45
  have hn0 : a ≤ 1000000 := by have := sat_le x0; omega
  have hnn : 0 ≤ a := by omega
  rw [← ha] at HN0
  clear hn ha
  rcases h3 with ⟨d3, m3⟩ | ⟨d3, n3, t3, m3⟩
  · subst m3
    have e3 : ((bs x3).toList == []) = false := by rw [bs_toList]; rw [d3]; rfl
    have g3 : ((bs x3).toList == [45]) = true := by rw [bs_toList]; rw [d3]; rfl
    clear d3
    rcases h4 with ⟨d4, m4⟩ | ⟨d4, n4, t4, m4⟩
    · subst m4
      have e4 : ((bs x4).toList == []) = false := by rw [bs_toList]; rw [d4]; rfl
      have g4 : ((bs x4).toList == [45]) = true := by rw [bs_toList]; rw [d4]; rfl
      clear d4
      go_enter Tryz.func7, Tryz.ntmps7
      go_wp2_with fail
      refine (HS.out _).mono ?_
      rintro e w1 ⟨v, rfl, hown, hb1⟩
      obtain ⟨g, cap, rfl, hg, hgl, c0, c1, c2, c3, c4⟩ := own5 hown
      have HR := Lib.hid (HR0.out.below hb1); have HB := Lib.hid (below_then HB0.out hb1)
      have HP := Lib.hid (P5.mk hgl c0 c1 c2 c3 c4)
      have hge : w.heap.size < g := by simp at hg; omega
      have HG := Lib.hid hge
      clear hown hb1 hg hgl hge
      go_wp2_with (first | (go_at_call 27; ((with_reducible refine (HW.out _).mono ?_); rintro e w6 ⟨rfl, rfl⟩)) | (go_at_call 28; ((with_reducible refine (HT3.out _).mono ?_); rintro e w6 ⟨rfl, rfl⟩)) | (go_at_call 28; ((with_reducible refine (HT4.out _).mono ?_); rintro e w6 ⟨rfl, rfl⟩)))
      refine (HN0.out _).mono ?_
      rintro e w2 ⟨v5, rfl, hok5, hb2⟩
      have HR := Lib.hid (HR.out.below hb2); have HP := Lib.hid (HP.out.below hb2); have HB := Lib.hid (below_then HB.out hb2)
      clear c0 c1 c2 c3 c4
      have HO5 := Lib.hid hok5
      clear hok5
      have c2 := HP.out.c2
      go_wp2_with fail
      refine (HN2.out _).mono ?_
      rintro e w3 ⟨v7, rfl, hok7, hb3⟩
      have HO7 := Lib.hid hok7
      clear hok7 c2
      have HR := Lib.hid (HR.out.below hb3); have HP := Lib.hid (HP.out.below hb3); have HB := Lib.hid (below_then HB.out hb3)
      have c2 := HP.out.c2
      obtain ⟨g5, cap5, rfl, hb5, hl5, q5⟩ := own1 (HO5.out (by simp))
      have c5 : w3.cell? ⟨g5, 0, none⟩ = some (.int .i64 a) := (hb3.cell (p := ⟨g5, 0, none⟩) hl5).trans q5
      have c1 := HP.out.c1; have c3 := HP.out.c3; have c4 := HP.out.c4
      clear q5
      go_upto_region 8 with (fail)
      have HR := Lib.hid HR.out.drew; have HB := Lib.hid HB.out.drew
      have c5 : w3.drew.cell? ⟨g5, 0, none⟩ = some (.int .i64 a) := c5
      have c1 : w3.drew.cell? ⟨g, 1, none⟩ = some (.string (bs x1)) := c1
      have c3 : w3.drew.cell? ⟨g, 3, none⟩ = some (.string (bs x3)) := c3
      have c4 : w3.drew.cell? ⟨g, 4, none⟩ = some (.string (bs x4)) := c4
      refine wp_region_held_drew (S := fun w' => w'.cell? ⟨g5, 0, none⟩ = some (.int .i64 a) ∧ w'.cell? ⟨g, 1, none⟩ = some (.string (bs x1)) ∧ w'.cell? ⟨g, 3, none⟩ = some (.string (bs x3)) ∧ w'.cell? ⟨g, 4, none⟩ = some (.string (bs x4))) (by kernel_rfl) ⟨c5, c1, c3, c4⟩ (fun hHeld => ?_)
      have HL := Lib.hid (And.intro (lt_of_cell c5) (lt_of_cell c1))
      have HS5 := Lib.hid (And.intro c5 (And.intro c1 (And.intro c3 c4)))
      clear c1 c2 c3 c4 c5
      generalize w3.drew = w4 at *
      refine wpAnyH_takeAt (v := ?_) (d := some 88) 0 rfl rfl (by kernel_rfl) (by kernel_rfl) (by kernel_rfl) (fun _ _ _ h => h) hHeld (by rfl) ?_ ?_
      rotate_left 1
      · (intro w' hS'; (try dsimp only at hS'); go_simp; (try with_reducible rfl))
      simp only [Act.put, List.setIfInBounds_toArray, List.set_cons_zero, List.set_cons_succ]
      refine wpAnyH_takeAt (v := ?_) (d := some 89) 1 rfl rfl (by kernel_rfl) (by kernel_rfl) (by kernel_rfl) (fun _ _ _ h => h) hHeld (by rfl) ?_ ?_
      rotate_left 1
      · (intro w' hS'; (try dsimp only at hS'); go_simp; (try with_reducible rfl))
      simp only [Act.put, List.setIfInBounds_toArray, List.set_cons_zero, List.set_cons_succ]
      refine wpAnyH_takeAt (v := ?_) (d := some 90) 2 rfl rfl (by kernel_rfl) (by kernel_rfl) (by kernel_rfl) (fun _ _ _ h => h) hHeld (by rfl) ?_ ?_
      rotate_left 1
      · (intro w' hS'; (try dsimp only at hS'); go_simp; (try with_reducible rfl))
      simp only [Act.put, List.setIfInBounds_toArray, List.set_cons_zero, List.set_cons_succ]
      refine wpAnyH_takeAt (v := ?_) (d := some 91) 3 rfl rfl (by kernel_rfl) (by kernel_rfl) (by kernel_rfl) (fun _ _ _ h => h) hHeld (by rfl) ?_ ?_
      rotate_left 1
      · (intro w' hS'; (try dsimp only at hS'); go_simp; (try with_reducible rfl))
      simp only [Act.put, List.setIfInBounds_toArray, List.set_cons_zero, List.set_cons_succ]
      refine wpAnyH_takeAt (v := ?_) (d := some 92) 4 rfl rfl (by kernel_rfl) (by kernel_rfl) (by kernel_rfl) (fun _ _ _ h => h) hHeld (by rfl) ?_ ?_
      rotate_left 1
      · (intro w' hS'; (try dsimp only at hS'); go_simp; (try with_reducible rfl))
      simp only [Act.put, List.setIfInBounds_toArray, List.set_cons_zero, List.set_cons_succ]
      refine wpAnyH_takeAt (v := ?_) (d := some 93) 5 rfl rfl (by kernel_rfl) (by kernel_rfl) (by kernel_rfl) (fun _ _ _ h => h) hHeld (by rfl) ?_ ?_
      rotate_left 1
      · (intro w' hS'; (try dsimp only at hS'); go_simp; (try with_reducible rfl))
      simp only [Act.put, List.setIfInBounds_toArray, List.set_cons_zero, List.set_cons_succ]
      refine wpAnyH_takeAt (v := ?_) (d := some 94) 6 rfl rfl (by kernel_rfl) (by kernel_rfl) (by kernel_rfl) (fun _ _ _ h => h) hHeld (by rfl) ?_ ?_
      rotate_left 1
      · (intro w' hS'; (try dsimp only at hS'); go_simp; (try with_reducible rfl))
      simp only [Act.put, List.setIfInBounds_toArray, List.set_cons_zero, List.set_cons_succ]
      refine wpAnyH_takeAt (v := ?_) (d := some 95) 7 rfl rfl (by kernel_rfl) (by kernel_rfl) (by kernel_rfl) (fun _ _ _ h => h) hHeld (by rfl) ?_ ?_
      rotate_left 1
      · (intro w' hS'; (try dsimp only at hS'); go_simp; (try with_reducible rfl))
      simp only [Act.put, List.setIfInBounds_toArray, List.set_cons_zero, List.set_cons_succ]
      refine wpAnyH_takeAt (v := ?_) (d := some 96) 8 rfl rfl (by kernel_rfl) (by kernel_rfl) (by kernel_rfl) (fun _ _ _ h => h) hHeld (by rfl) ?_ ?_
      rotate_left 1
      · (intro w' hS'; (try dsimp only at hS'); go_simp; (try with_reducible rfl))
      simp only [Act.put, List.setIfInBounds_toArray, List.set_cons_zero, List.set_cons_succ]
      refine wpAnyH_takeAt (v := ?_) (d := some 97) 9 rfl rfl (by kernel_rfl) (by kernel_rfl) (by kernel_rfl) (fun _ _ _ h => h) hHeld (by rfl) ?_ ?_
      rotate_left 1
      · (intro w' hS'; (try dsimp only at hS'); go_simp; (try with_reducible rfl))
      simp only [Act.put, List.setIfInBounds_toArray, List.set_cons_zero, List.set_cons_succ]
      refine wpAnyH_takeAt (v := ?_) (d := some 98) 10 rfl rfl (by kernel_rfl) (by kernel_rfl) (by kernel_rfl) (fun _ _ _ h => h) hHeld (by rfl) ?_ ?_
      rotate_left 1
      · (intro w' hS'; (try dsimp only at hS'); go_simp; (try with_reducible rfl))
      simp only [Act.put, List.setIfInBounds_toArray, List.set_cons_zero, List.set_cons_succ]
      refine wpAnyH_takeAt (v := ?_) (d := some 99) 11 rfl rfl (by kernel_rfl) (by kernel_rfl) (by kernel_rfl) (fun _ _ _ h => h) hHeld (by rfl) ?_ ?_
      rotate_left 1
      · (intro w' hS'; (try dsimp only at hS'); go_simp; (try with_reducible rfl))
      simp only [Act.put, List.setIfInBounds_toArray, List.set_cons_zero, List.set_cons_succ]
      refine wpAnyH_takeAt (v := ?_) (d := some 100) 12 rfl rfl (by kernel_rfl) (by kernel_rfl) (by kernel_rfl) (fun _ _ _ h => h) hHeld (by rfl) ?_ ?_
      rotate_left 1
      · (intro w' hS'; (try dsimp only at hS'); go_simp; (try with_reducible rfl))
      simp only [Act.put, List.setIfInBounds_toArray, List.set_cons_zero, List.set_cons_succ]
      have HS6 : Hid ((fun w' : World => w'.cell? ⟨g5, 0, none⟩ = some (.int .i64 a) ∧ w'.cell? ⟨g, 1, none⟩ = some (.string (bs x1)) ∧ w'.cell? ⟨g, 3, none⟩ = some (.string (bs x3)) ∧ w'.cell? ⟨g, 4, none⟩ = some (.string (bs x4))) (w4.alloc (.cells #[.int .i64 0, .string ⟨#[]⟩, .int .i64 0, .string ⟨#[]⟩, .string ⟨#[]⟩] 29))) := Lib.hid ⟨(World.cell?_alloc_lt _ _ ⟨g5, 0, none⟩ HL.out.1).trans HS5.out.1, (World.cell?_alloc_lt _ _ ⟨g, 1, none⟩ HL.out.2).trans HS5.out.2.1, (World.cell?_alloc_lt _ _ ⟨g, 3, none⟩ HL.out.2).trans HS5.out.2.2.1, (World.cell?_alloc_lt _ _ ⟨g, 4, none⟩ HL.out.2).trans HS5.out.2.2.2⟩
      refine wpAnyH_alone (d := some 9) 13 (.pointer (some ⟨w4.heap.size, 0, none⟩)) (w4.alloc (.cells #[.int .i64 0, .string ⟨#[]⟩, .int .i64 0, .string ⟨#[]⟩, .string ⟨#[]⟩] 29)) rfl rfl (by kernel_rfl) (by rfl) (by go_simp) HS6.out ?_
      simp only [Act.put, List.setIfInBounds_toArray, List.set_cons_zero, List.set_cons_succ]
      have KE := Lib.hid (Blk.fresh w4 #[.int .i64 0, .string ⟨#[]⟩, .int .i64 0, .string ⟨#[]⟩, .string ⟨#[]⟩] 29 _ rfl)
      have hER : w.heap.size < w4.heap.size := HR.out.lt
      have HL4 := Lib.hid (And.intro (show g5 ≠ w4.heap.size from Nat.ne_of_lt HL.out.1) (show g ≠ w4.heap.size from Nat.ne_of_lt HL.out.2))
      have HR := Lib.hid (HR.out.alloc (.cells #[.int .i64 0, .string ⟨#[]⟩, .int .i64 0, .string ⟨#[]⟩, .string ⟨#[]⟩] 29))
      have HB := Lib.hid (HB.out.alloc HB.out.size (.cells #[.int .i64 0, .string ⟨#[]⟩, .int .i64 0, .string ⟨#[]⟩, .string ⟨#[]⟩] 29))
      clear hHeld HS5
      generalize w4.alloc (.cells #[.int .i64 0, .string ⟨#[]⟩, .int .i64 0, .string ⟨#[]⟩, .string ⟨#[]⟩] 29) = w5 at *
      generalize w4.heap.size = E at *
      have a0 : w5.cell? ⟨E, 0, none⟩ = some (.int .i64 0) := KE.out.cell 0
      have a1 : w5.cell? ⟨E, 1, none⟩ = some (.string ⟨#[]⟩) := KE.out.cell 1
      have a2 : w5.cell? ⟨E, 2, none⟩ = some (.int .i64 0) := KE.out.cell 2
      have a3 : w5.cell? ⟨E, 3, none⟩ = some (.string ⟨#[]⟩) := KE.out.cell 3
      have a4 : w5.cell? ⟨E, 4, none⟩ = some (.string ⟨#[]⟩) := KE.out.cell 4
      have af := KE.out.free
      have HS7 := Lib.hid (held5 (E := E) (g5 := g5) (g := g) HS6.out HL4.out.1 HL4.out.2 a (bs x1) (-1) (bs x3) (bs x4))
      dsimp only [set5] at HS7
      refine wpAnyH_all (rs := [14]) (by kernel_rfl) (by simp) (fun j hj => ?_)
      obtain rfl : j = 14 := by simpa using hj
      refine wpOp_step rfl (fun K' hK => ?_)
      go_simp
      clear a0 a1 a2 a3 a4 af
      refine hK _ _ ⟨HS7.out, wpAnyH_done (by kernel_rfl) ?_ _⟩
      have KE := Lib.hid (KE.out.set5 rfl a (bs x1) (-1) (bs x3) (bs x4))
      have HR := Lib.hid (HR.out.set5_other (X := E) (by omega) a (bs x1) (-1) (bs x3) (bs x4))
      have HB := Lib.hid (set5_below HB.out (X := E) (Nat.le_of_lt hER) a (bs x1) (-1) (bs x3) (bs x4))
      dsimp only [set5] at KE HR HB
      clear HS7 HS6
      generalize (((((w5.setCell ⟨E, 0, none⟩ (.int .i64 a)).setCell ⟨E, 1, none⟩ (.string (bs x1))).setCell ⟨E, 2, none⟩ (.int .i64 (-1))).setCell ⟨E, 3, none⟩ (.string (bs x3))).setCell ⟨E, 4, none⟩ (.string (bs x4))) = w5 at *
      have a0 : w5.cell? ⟨E, 0, none⟩ = some (.int .i64 a) := KE.out.cell 0
      have a1 : w5.cell? ⟨E, 1, none⟩ = some (.string (bs x1)) := KE.out.cell 1
      have a2 : w5.cell? ⟨E, 2, none⟩ = some (.int .i64 (-1)) := KE.out.cell 2
      have a3 : w5.cell? ⟨E, 3, none⟩ = some (.string (bs x3)) := KE.out.cell 3
      have a4 : w5.cell? ⟨E, 4, none⟩ = some (.string (bs x4)) := KE.out.cell 4
      have af := KE.out.free
      have r0 : w5.cell? ⟨w.heap.size, 0, none⟩ = some (.int .i64 0) := HR.out.cell 0
      have r1 : w5.cell? ⟨w.heap.size, 1, none⟩ = some (.string ⟨#[]⟩) := HR.out.cell 1
      have r2 : w5.cell? ⟨w.heap.size, 2, none⟩ = some (.int .i64 0) := HR.out.cell 2
      have r3 : w5.cell? ⟨w.heap.size, 3, none⟩ = some (.string ⟨#[]⟩) := HR.out.cell 3
      have r4 : w5.cell? ⟨w.heap.size, 4, none⟩ = some (.string ⟨#[]⟩) := HR.out.cell 4
      have rf := HR.out.free
      have hne : E ≠ w.heap.size := by omega
      have hne2 : w.heap.size ≠ E := by omega
      have KX := Lib.hid (((HR.out.other (p := ⟨E, 3, none⟩) hne (.string ⟨#[]⟩)).other (p := ⟨E, 4, none⟩) hne (.string ⟨#[]⟩)).set5 rfl a (bs x1) (-1) ⟨#[]⟩ ⟨#[]⟩)
      have KB := Lib.hid (set5_below ((HB.out.setCell (p := ⟨E, 3, none⟩) (Nat.le_of_lt hER) (.string ⟨#[]⟩)).setCell (p := ⟨E, 4, none⟩) (Nat.le_of_lt hER) (.string ⟨#[]⟩)) (Nat.le_refl w.heap.size) a (bs x1) (-1) ⟨#[]⟩ ⟨#[]⟩)
      dsimp only [set5] at KX KB
      go_wp2_with fail
      clear a0 a1 a2 a3 a4 af r0 r1 r2 r3 r4 rf
      generalize (((((((w5.setCell ⟨E, 3, none⟩ (.string ⟨#[]⟩)).setCell ⟨E, 4, none⟩ (.string ⟨#[]⟩)).setCell ⟨w.heap.size, 0, none⟩ (.int .i64 a)).setCell ⟨w.heap.size, 1, none⟩ (.string (bs x1))).setCell ⟨w.heap.size, 2, none⟩ (.int .i64 (-1))).setCell ⟨w.heap.size, 3, none⟩ (.string ⟨#[]⟩)).setCell ⟨w.heap.size, 4, none⟩ (.string ⟨#[]⟩)) = ws at *
      have q := KX.out.cell; have qf := KX.out.free
      exact bodyPost_ret (v := .tuple #[.agg #[.int .i64 a, .string (bs x1), .int .i64 (-1), .string ⟨#[]⟩, .string ⟨#[]⟩], .int .i64 0]) (by simp [results, Tryz.results7, go_sem, q, qf]) rfl ⟨rfl, KB.out⟩
    · obtain rfl : x4 = y4 := m4.symm
      have e4 : ((bs x4).toList == []) = false := by rw [bs_toList]; simpa using n4
      have g4 : ((bs x4).toList == [45]) = false := by rw [bs_toList]; simpa using d4
      rw [t4] at HT4
      clear n4 d4 t4
      go_enter Tryz.func7, Tryz.ntmps7
      go_wp2_with fail
      refine (HS.out _).mono ?_
      rintro e w1 ⟨v, rfl, hown, hb1⟩
      obtain ⟨g, cap, rfl, hg, hgl, c0, c1, c2, c3, c4⟩ := own5 hown
      have HR := Lib.hid (HR0.out.below hb1); have HB := Lib.hid (below_then HB0.out hb1)
      have HP := Lib.hid (P5.mk hgl c0 c1 c2 c3 c4)
      have hge : w.heap.size < g := by simp at hg; omega
      have HG := Lib.hid hge
      clear hown hb1 hg hgl hge
      go_wp2_with (first | (go_at_call 27; ((with_reducible refine (HW.out _).mono ?_); rintro e w6 ⟨rfl, rfl⟩)) | (go_at_call 28; ((with_reducible refine (HT3.out _).mono ?_); rintro e w6 ⟨rfl, rfl⟩)) | (go_at_call 28; ((with_reducible refine (HT4.out _).mono ?_); rintro e w6 ⟨rfl, rfl⟩)))
      refine (HN0.out _).mono ?_
      rintro e w2 ⟨v5, rfl, hok5, hb2⟩
      have HR := Lib.hid (HR.out.below hb2); have HP := Lib.hid (HP.out.below hb2); have HB := Lib.hid (below_then HB.out hb2)
      clear c0 c1 c2 c3 c4
      have HO5 := Lib.hid hok5
      clear hok5
      have c2 := HP.out.c2
      go_wp2_with fail
      refine (HN2.out _).mono ?_
      rintro e w3 ⟨v7, rfl, hok7, hb3⟩
      have HO7 := Lib.hid hok7
      clear hok7 c2
      have HR := Lib.hid (HR.out.below hb3); have HP := Lib.hid (HP.out.below hb3); have HB := Lib.hid (below_then HB.out hb3)
      have c2 := HP.out.c2
      obtain ⟨g5, cap5, rfl, hb5, hl5, q5⟩ := own1 (HO5.out (by simp))
      have c5 : w3.cell? ⟨g5, 0, none⟩ = some (.int .i64 a) := (hb3.cell (p := ⟨g5, 0, none⟩) hl5).trans q5
      have c1 := HP.out.c1; have c3 := HP.out.c3; have c4 := HP.out.c4
      clear q5
      go_upto_region 8 with (fail)
      have HR := Lib.hid HR.out.drew; have HB := Lib.hid HB.out.drew
      have c5 : w3.drew.cell? ⟨g5, 0, none⟩ = some (.int .i64 a) := c5
      have c1 : w3.drew.cell? ⟨g, 1, none⟩ = some (.string (bs x1)) := c1
      have c3 : w3.drew.cell? ⟨g, 3, none⟩ = some (.string (bs x3)) := c3
      have c4 : w3.drew.cell? ⟨g, 4, none⟩ = some (.string (bs x4)) := c4
      refine wp_region_held_drew (S := fun w' => w'.cell? ⟨g5, 0, none⟩ = some (.int .i64 a) ∧ w'.cell? ⟨g, 1, none⟩ = some (.string (bs x1)) ∧ w'.cell? ⟨g, 3, none⟩ = some (.string (bs x3)) ∧ w'.cell? ⟨g, 4, none⟩ = some (.string (bs x4))) (by kernel_rfl) ⟨c5, c1, c3, c4⟩ (fun hHeld => ?_)
      have HL := Lib.hid (And.intro (lt_of_cell c5) (lt_of_cell c1))
      have HS5 := Lib.hid (And.intro c5 (And.intro c1 (And.intro c3 c4)))
      clear c1 c2 c3 c4 c5
      generalize w3.drew = w4 at *
      refine wpAnyH_takeAt (v := ?_) (d := some 88) 0 rfl rfl (by kernel_rfl) (by kernel_rfl) (by kernel_rfl) (fun _ _ _ h => h) hHeld (by rfl) ?_ ?_
      rotate_left 1
      · (intro w' hS'; (try dsimp only at hS'); go_simp; (try with_reducible rfl))
      simp only [Act.put, List.setIfInBounds_toArray, List.set_cons_zero, List.set_cons_succ]
      refine wpAnyH_takeAt (v := ?_) (d := some 89) 1 rfl rfl (by kernel_rfl) (by kernel_rfl) (by kernel_rfl) (fun _ _ _ h => h) hHeld (by rfl) ?_ ?_
      rotate_left 1
      · (intro w' hS'; (try dsimp only at hS'); go_simp; (try with_reducible rfl))
      simp only [Act.put, List.setIfInBounds_toArray, List.set_cons_zero, List.set_cons_succ]
      refine wpAnyH_takeAt (v := ?_) (d := some 90) 2 rfl rfl (by kernel_rfl) (by kernel_rfl) (by kernel_rfl) (fun _ _ _ h => h) hHeld (by rfl) ?_ ?_
      rotate_left 1
      · (intro w' hS'; (try dsimp only at hS'); go_simp; (try with_reducible rfl))
      simp only [Act.put, List.setIfInBounds_toArray, List.set_cons_zero, List.set_cons_succ]
      refine wpAnyH_takeAt (v := ?_) (d := some 91) 3 rfl rfl (by kernel_rfl) (by kernel_rfl) (by kernel_rfl) (fun _ _ _ h => h) hHeld (by rfl) ?_ ?_
      rotate_left 1
      · (intro w' hS'; (try dsimp only at hS'); go_simp; (try with_reducible rfl))
      simp only [Act.put, List.setIfInBounds_toArray, List.set_cons_zero, List.set_cons_succ]
      refine wpAnyH_takeAt (v := ?_) (d := some 92) 4 rfl rfl (by kernel_rfl) (by kernel_rfl) (by kernel_rfl) (fun _ _ _ h => h) hHeld (by rfl) ?_ ?_
      rotate_left 1
      · (intro w' hS'; (try dsimp only at hS'); go_simp; (try with_reducible rfl))
      simp only [Act.put, List.setIfInBounds_toArray, List.set_cons_zero, List.set_cons_succ]
      refine wpAnyH_takeAt (v := ?_) (d := some 93) 5 rfl rfl (by kernel_rfl) (by kernel_rfl) (by kernel_rfl) (fun _ _ _ h => h) hHeld (by rfl) ?_ ?_
      rotate_left 1
      · (intro w' hS'; (try dsimp only at hS'); go_simp; (try with_reducible rfl))
      simp only [Act.put, List.setIfInBounds_toArray, List.set_cons_zero, List.set_cons_succ]
      refine wpAnyH_takeAt (v := ?_) (d := some 94) 6 rfl rfl (by kernel_rfl) (by kernel_rfl) (by kernel_rfl) (fun _ _ _ h => h) hHeld (by rfl) ?_ ?_
      rotate_left 1
      · (intro w' hS'; (try dsimp only at hS'); go_simp; (try with_reducible rfl))
      simp only [Act.put, List.setIfInBounds_toArray, List.set_cons_zero, List.set_cons_succ]
      refine wpAnyH_takeAt (v := ?_) (d := some 95) 7 rfl rfl (by kernel_rfl) (by kernel_rfl) (by kernel_rfl) (fun _ _ _ h => h) hHeld (by rfl) ?_ ?_
      rotate_left 1
      · (intro w' hS'; (try dsimp only at hS'); go_simp; (try with_reducible rfl))
      simp only [Act.put, List.setIfInBounds_toArray, List.set_cons_zero, List.set_cons_succ]
      refine wpAnyH_takeAt (v := ?_) (d := some 96) 8 rfl rfl (by kernel_rfl) (by kernel_rfl) (by kernel_rfl) (fun _ _ _ h => h) hHeld (by rfl) ?_ ?_
      rotate_left 1
      · (intro w' hS'; (try dsimp only at hS'); go_simp; (try with_reducible rfl))
      simp only [Act.put, List.setIfInBounds_toArray, List.set_cons_zero, List.set_cons_succ]
      refine wpAnyH_takeAt (v := ?_) (d := some 97) 9 rfl rfl (by kernel_rfl) (by kernel_rfl) (by kernel_rfl) (fun _ _ _ h => h) hHeld (by rfl) ?_ ?_
      rotate_left 1
      · (intro w' hS'; (try dsimp only at hS'); go_simp; (try with_reducible rfl))
      simp only [Act.put, List.setIfInBounds_toArray, List.set_cons_zero, List.set_cons_succ]
      refine wpAnyH_takeAt (v := ?_) (d := some 98) 10 rfl rfl (by kernel_rfl) (by kernel_rfl) (by kernel_rfl) (fun _ _ _ h => h) hHeld (by rfl) ?_ ?_
      rotate_left 1
      · (intro w' hS'; (try dsimp only at hS'); go_simp; (try with_reducible rfl))
      simp only [Act.put, List.setIfInBounds_toArray, List.set_cons_zero, List.set_cons_succ]
      refine wpAnyH_takeAt (v := ?_) (d := some 99) 11 rfl rfl (by kernel_rfl) (by kernel_rfl) (by kernel_rfl) (fun _ _ _ h => h) hHeld (by rfl) ?_ ?_
      rotate_left 1
      · (intro w' hS'; (try dsimp only at hS'); go_simp; (try with_reducible rfl))
      simp only [Act.put, List.setIfInBounds_toArray, List.set_cons_zero, List.set_cons_succ]
      refine wpAnyH_takeAt (v := ?_) (d := some 100) 12 rfl rfl (by kernel_rfl) (by kernel_rfl) (by kernel_rfl) (fun _ _ _ h => h) hHeld (by rfl) ?_ ?_
      rotate_left 1
      · (intro w' hS'; (try dsimp only at hS'); go_simp; (try with_reducible rfl))
      simp only [Act.put, List.setIfInBounds_toArray, List.set_cons_zero, List.set_cons_succ]
      have HS6 : Hid ((fun w' : World => w'.cell? ⟨g5, 0, none⟩ = some (.int .i64 a) ∧ w'.cell? ⟨g, 1, none⟩ = some (.string (bs x1)) ∧ w'.cell? ⟨g, 3, none⟩ = some (.string (bs x3)) ∧ w'.cell? ⟨g, 4, none⟩ = some (.string (bs x4))) (w4.alloc (.cells #[.int .i64 0, .string ⟨#[]⟩, .int .i64 0, .string ⟨#[]⟩, .string ⟨#[]⟩] 29))) := Lib.hid ⟨(World.cell?_alloc_lt _ _ ⟨g5, 0, none⟩ HL.out.1).trans HS5.out.1, (World.cell?_alloc_lt _ _ ⟨g, 1, none⟩ HL.out.2).trans HS5.out.2.1, (World.cell?_alloc_lt _ _ ⟨g, 3, none⟩ HL.out.2).trans HS5.out.2.2.1, (World.cell?_alloc_lt _ _ ⟨g, 4, none⟩ HL.out.2).trans HS5.out.2.2.2⟩
      refine wpAnyH_alone (d := some 9) 13 (.pointer (some ⟨w4.heap.size, 0, none⟩)) (w4.alloc (.cells #[.int .i64 0, .string ⟨#[]⟩, .int .i64 0, .string ⟨#[]⟩, .string ⟨#[]⟩] 29)) rfl rfl (by kernel_rfl) (by rfl) (by go_simp) HS6.out ?_
      simp only [Act.put, List.setIfInBounds_toArray, List.set_cons_zero, List.set_cons_succ]
      have KE := Lib.hid (Blk.fresh w4 #[.int .i64 0, .string ⟨#[]⟩, .int .i64 0, .string ⟨#[]⟩, .string ⟨#[]⟩] 29 _ rfl)
      have hER : w.heap.size < w4.heap.size := HR.out.lt
      have HL4 := Lib.hid (And.intro (show g5 ≠ w4.heap.size from Nat.ne_of_lt HL.out.1) (show g ≠ w4.heap.size from Nat.ne_of_lt HL.out.2))
      have HR := Lib.hid (HR.out.alloc (.cells #[.int .i64 0, .string ⟨#[]⟩, .int .i64 0, .string ⟨#[]⟩, .string ⟨#[]⟩] 29))
      have HB := Lib.hid (HB.out.alloc HB.out.size (.cells #[.int .i64 0, .string ⟨#[]⟩, .int .i64 0, .string ⟨#[]⟩, .string ⟨#[]⟩] 29))
      clear hHeld HS5
      generalize w4.alloc (.cells #[.int .i64 0, .string ⟨#[]⟩, .int .i64 0, .string ⟨#[]⟩, .string ⟨#[]⟩] 29) = w5 at *
      generalize w4.heap.size = E at *
      have a0 : w5.cell? ⟨E, 0, none⟩ = some (.int .i64 0) := KE.out.cell 0
      have a1 : w5.cell? ⟨E, 1, none⟩ = some (.string ⟨#[]⟩) := KE.out.cell 1
      have a2 : w5.cell? ⟨E, 2, none⟩ = some (.int .i64 0) := KE.out.cell 2
      have a3 : w5.cell? ⟨E, 3, none⟩ = some (.string ⟨#[]⟩) := KE.out.cell 3
      have a4 : w5.cell? ⟨E, 4, none⟩ = some (.string ⟨#[]⟩) := KE.out.cell 4
      have af := KE.out.free
      have HS7 := Lib.hid (held5 (E := E) (g5 := g5) (g := g) HS6.out HL4.out.1 HL4.out.2 a (bs x1) (-1) (bs x3) (bs x4))
      dsimp only [set5] at HS7
      refine wpAnyH_all (rs := [14]) (by kernel_rfl) (by simp) (fun j hj => ?_)
      obtain rfl : j = 14 := by simpa using hj
      refine wpOp_step rfl (fun K' hK => ?_)
      go_simp
      clear a0 a1 a2 a3 a4 af
      refine hK _ _ ⟨HS7.out, wpAnyH_done (by kernel_rfl) ?_ _⟩
      have KE := Lib.hid (KE.out.set5 rfl a (bs x1) (-1) (bs x3) (bs x4))
      have HR := Lib.hid (HR.out.set5_other (X := E) (by omega) a (bs x1) (-1) (bs x3) (bs x4))
      have HB := Lib.hid (set5_below HB.out (X := E) (Nat.le_of_lt hER) a (bs x1) (-1) (bs x3) (bs x4))
      dsimp only [set5] at KE HR HB
      clear HS7 HS6
      generalize (((((w5.setCell ⟨E, 0, none⟩ (.int .i64 a)).setCell ⟨E, 1, none⟩ (.string (bs x1))).setCell ⟨E, 2, none⟩ (.int .i64 (-1))).setCell ⟨E, 3, none⟩ (.string (bs x3))).setCell ⟨E, 4, none⟩ (.string (bs x4))) = w5 at *
      have a0 : w5.cell? ⟨E, 0, none⟩ = some (.int .i64 a) := KE.out.cell 0
      have a1 : w5.cell? ⟨E, 1, none⟩ = some (.string (bs x1)) := KE.out.cell 1
      have a2 : w5.cell? ⟨E, 2, none⟩ = some (.int .i64 (-1)) := KE.out.cell 2
      have a3 : w5.cell? ⟨E, 3, none⟩ = some (.string (bs x3)) := KE.out.cell 3
      have a4 : w5.cell? ⟨E, 4, none⟩ = some (.string (bs x4)) := KE.out.cell 4
      have af := KE.out.free
      have r0 : w5.cell? ⟨w.heap.size, 0, none⟩ = some (.int .i64 0) := HR.out.cell 0
      have r1 : w5.cell? ⟨w.heap.size, 1, none⟩ = some (.string ⟨#[]⟩) := HR.out.cell 1
      have r2 : w5.cell? ⟨w.heap.size, 2, none⟩ = some (.int .i64 0) := HR.out.cell 2
      have r3 : w5.cell? ⟨w.heap.size, 3, none⟩ = some (.string ⟨#[]⟩) := HR.out.cell 3
      have r4 : w5.cell? ⟨w.heap.size, 4, none⟩ = some (.string ⟨#[]⟩) := HR.out.cell 4
      have rf := HR.out.free
      have hne : E ≠ w.heap.size := by omega
      have hne2 : w.heap.size ≠ E := by omega
      have KX := Lib.hid ((HR.out.other (p := ⟨E, 3, none⟩) hne (.string ⟨#[]⟩)).set5 rfl a (bs x1) (-1) ⟨#[]⟩ (bs x4))
      have KB := Lib.hid (set5_below (HB.out.setCell (p := ⟨E, 3, none⟩) (Nat.le_of_lt hER) (.string ⟨#[]⟩)) (Nat.le_refl w.heap.size) a (bs x1) (-1) ⟨#[]⟩ (bs x4))
      dsimp only [set5] at KX KB
      go_wp2_with fail
      clear a0 a1 a2 a3 a4 af r0 r1 r2 r3 r4 rf
      generalize ((((((w5.setCell ⟨E, 3, none⟩ (.string ⟨#[]⟩)).setCell ⟨w.heap.size, 0, none⟩ (.int .i64 a)).setCell ⟨w.heap.size, 1, none⟩ (.string (bs x1))).setCell ⟨w.heap.size, 2, none⟩ (.int .i64 (-1))).setCell ⟨w.heap.size, 3, none⟩ (.string ⟨#[]⟩)).setCell ⟨w.heap.size, 4, none⟩ (.string (bs x4))) = ws at *
      have q := KX.out.cell; have qf := KX.out.free
      exact bodyPost_ret (v := .tuple #[.agg #[.int .i64 a, .string (bs x1), .int .i64 (-1), .string ⟨#[]⟩, .string (bs x4)], .int .i64 0]) (by simp [results, Tryz.results7, go_sem, q, qf]) rfl ⟨rfl, KB.out⟩
  · obtain rfl : x3 = y3 := m3.symm
    have e3 : ((bs x3).toList == []) = false := by rw [bs_toList]; simpa using n3
    have g3 : ((bs x3).toList == [45]) = false := by rw [bs_toList]; simpa using d3
    rw [t3] at HT3
    clear n3 d3 t3
    rcases h4 with ⟨d4, m4⟩ | ⟨d4, n4, t4, m4⟩
    · subst m4
      have e4 : ((bs x4).toList == []) = false := by rw [bs_toList]; rw [d4]; rfl
      have g4 : ((bs x4).toList == [45]) = true := by rw [bs_toList]; rw [d4]; rfl
      clear d4
      go_enter Tryz.func7, Tryz.ntmps7
      go_wp2_with fail
      refine (HS.out _).mono ?_
      rintro e w1 ⟨v, rfl, hown, hb1⟩
      obtain ⟨g, cap, rfl, hg, hgl, c0, c1, c2, c3, c4⟩ := own5 hown
      have HR := Lib.hid (HR0.out.below hb1); have HB := Lib.hid (below_then HB0.out hb1)
      have HP := Lib.hid (P5.mk hgl c0 c1 c2 c3 c4)
      have hge : w.heap.size < g := by simp at hg; omega
      have HG := Lib.hid hge
      clear hown hb1 hg hgl hge
      go_wp2_with (first | (go_at_call 27; ((with_reducible refine (HW.out _).mono ?_); rintro e w6 ⟨rfl, rfl⟩)) | (go_at_call 28; ((with_reducible refine (HT3.out _).mono ?_); rintro e w6 ⟨rfl, rfl⟩)) | (go_at_call 28; ((with_reducible refine (HT4.out _).mono ?_); rintro e w6 ⟨rfl, rfl⟩)))
      refine (HN0.out _).mono ?_
      rintro e w2 ⟨v5, rfl, hok5, hb2⟩
      have HR := Lib.hid (HR.out.below hb2); have HP := Lib.hid (HP.out.below hb2); have HB := Lib.hid (below_then HB.out hb2)
      clear c0 c1 c2 c3 c4
      have HO5 := Lib.hid hok5
      clear hok5
      have c2 := HP.out.c2
      go_wp2_with fail
      refine (HN2.out _).mono ?_
      rintro e w3 ⟨v7, rfl, hok7, hb3⟩
      have HO7 := Lib.hid hok7
      clear hok7 c2
      have HR := Lib.hid (HR.out.below hb3); have HP := Lib.hid (HP.out.below hb3); have HB := Lib.hid (below_then HB.out hb3)
      have c2 := HP.out.c2
      obtain ⟨g5, cap5, rfl, hb5, hl5, q5⟩ := own1 (HO5.out (by simp))
      have c5 : w3.cell? ⟨g5, 0, none⟩ = some (.int .i64 a) := (hb3.cell (p := ⟨g5, 0, none⟩) hl5).trans q5
      have c1 := HP.out.c1; have c3 := HP.out.c3; have c4 := HP.out.c4
      clear q5
      go_upto_region 8 with (fail)
      have HR := Lib.hid HR.out.drew; have HB := Lib.hid HB.out.drew
      have c5 : w3.drew.cell? ⟨g5, 0, none⟩ = some (.int .i64 a) := c5
      have c1 : w3.drew.cell? ⟨g, 1, none⟩ = some (.string (bs x1)) := c1
      have c3 : w3.drew.cell? ⟨g, 3, none⟩ = some (.string (bs x3)) := c3
      have c4 : w3.drew.cell? ⟨g, 4, none⟩ = some (.string (bs x4)) := c4
      refine wp_region_held_drew (S := fun w' => w'.cell? ⟨g5, 0, none⟩ = some (.int .i64 a) ∧ w'.cell? ⟨g, 1, none⟩ = some (.string (bs x1)) ∧ w'.cell? ⟨g, 3, none⟩ = some (.string (bs x3)) ∧ w'.cell? ⟨g, 4, none⟩ = some (.string (bs x4))) (by kernel_rfl) ⟨c5, c1, c3, c4⟩ (fun hHeld => ?_)
      have HL := Lib.hid (And.intro (lt_of_cell c5) (lt_of_cell c1))
      have HS5 := Lib.hid (And.intro c5 (And.intro c1 (And.intro c3 c4)))
      clear c1 c2 c3 c4 c5
      generalize w3.drew = w4 at *
      refine wpAnyH_takeAt (v := ?_) (d := some 88) 0 rfl rfl (by kernel_rfl) (by kernel_rfl) (by kernel_rfl) (fun _ _ _ h => h) hHeld (by rfl) ?_ ?_
      rotate_left 1
      · (intro w' hS'; (try dsimp only at hS'); go_simp; (try with_reducible rfl))
      simp only [Act.put, List.setIfInBounds_toArray, List.set_cons_zero, List.set_cons_succ]
      refine wpAnyH_takeAt (v := ?_) (d := some 89) 1 rfl rfl (by kernel_rfl) (by kernel_rfl) (by kernel_rfl) (fun _ _ _ h => h) hHeld (by rfl) ?_ ?_
      rotate_left 1
      · (intro w' hS'; (try dsimp only at hS'); go_simp; (try with_reducible rfl))
      simp only [Act.put, List.setIfInBounds_toArray, List.set_cons_zero, List.set_cons_succ]
      refine wpAnyH_takeAt (v := ?_) (d := some 90) 2 rfl rfl (by kernel_rfl) (by kernel_rfl) (by kernel_rfl) (fun _ _ _ h => h) hHeld (by rfl) ?_ ?_
      rotate_left 1
      · (intro w' hS'; (try dsimp only at hS'); go_simp; (try with_reducible rfl))
      simp only [Act.put, List.setIfInBounds_toArray, List.set_cons_zero, List.set_cons_succ]
      refine wpAnyH_takeAt (v := ?_) (d := some 91) 3 rfl rfl (by kernel_rfl) (by kernel_rfl) (by kernel_rfl) (fun _ _ _ h => h) hHeld (by rfl) ?_ ?_
      rotate_left 1
      · (intro w' hS'; (try dsimp only at hS'); go_simp; (try with_reducible rfl))
      simp only [Act.put, List.setIfInBounds_toArray, List.set_cons_zero, List.set_cons_succ]
      refine wpAnyH_takeAt (v := ?_) (d := some 92) 4 rfl rfl (by kernel_rfl) (by kernel_rfl) (by kernel_rfl) (fun _ _ _ h => h) hHeld (by rfl) ?_ ?_
      rotate_left 1
      · (intro w' hS'; (try dsimp only at hS'); go_simp; (try with_reducible rfl))
      simp only [Act.put, List.setIfInBounds_toArray, List.set_cons_zero, List.set_cons_succ]
      refine wpAnyH_takeAt (v := ?_) (d := some 93) 5 rfl rfl (by kernel_rfl) (by kernel_rfl) (by kernel_rfl) (fun _ _ _ h => h) hHeld (by rfl) ?_ ?_
      rotate_left 1
      · (intro w' hS'; (try dsimp only at hS'); go_simp; (try with_reducible rfl))
      simp only [Act.put, List.setIfInBounds_toArray, List.set_cons_zero, List.set_cons_succ]
      refine wpAnyH_takeAt (v := ?_) (d := some 94) 6 rfl rfl (by kernel_rfl) (by kernel_rfl) (by kernel_rfl) (fun _ _ _ h => h) hHeld (by rfl) ?_ ?_
      rotate_left 1
      · (intro w' hS'; (try dsimp only at hS'); go_simp; (try with_reducible rfl))
      simp only [Act.put, List.setIfInBounds_toArray, List.set_cons_zero, List.set_cons_succ]
      refine wpAnyH_takeAt (v := ?_) (d := some 95) 7 rfl rfl (by kernel_rfl) (by kernel_rfl) (by kernel_rfl) (fun _ _ _ h => h) hHeld (by rfl) ?_ ?_
      rotate_left 1
      · (intro w' hS'; (try dsimp only at hS'); go_simp; (try with_reducible rfl))
      simp only [Act.put, List.setIfInBounds_toArray, List.set_cons_zero, List.set_cons_succ]
      refine wpAnyH_takeAt (v := ?_) (d := some 96) 8 rfl rfl (by kernel_rfl) (by kernel_rfl) (by kernel_rfl) (fun _ _ _ h => h) hHeld (by rfl) ?_ ?_
      rotate_left 1
      · (intro w' hS'; (try dsimp only at hS'); go_simp; (try with_reducible rfl))
      simp only [Act.put, List.setIfInBounds_toArray, List.set_cons_zero, List.set_cons_succ]
      refine wpAnyH_takeAt (v := ?_) (d := some 97) 9 rfl rfl (by kernel_rfl) (by kernel_rfl) (by kernel_rfl) (fun _ _ _ h => h) hHeld (by rfl) ?_ ?_
      rotate_left 1
      · (intro w' hS'; (try dsimp only at hS'); go_simp; (try with_reducible rfl))
      simp only [Act.put, List.setIfInBounds_toArray, List.set_cons_zero, List.set_cons_succ]
      refine wpAnyH_takeAt (v := ?_) (d := some 98) 10 rfl rfl (by kernel_rfl) (by kernel_rfl) (by kernel_rfl) (fun _ _ _ h => h) hHeld (by rfl) ?_ ?_
      rotate_left 1
      · (intro w' hS'; (try dsimp only at hS'); go_simp; (try with_reducible rfl))
      simp only [Act.put, List.setIfInBounds_toArray, List.set_cons_zero, List.set_cons_succ]
      refine wpAnyH_takeAt (v := ?_) (d := some 99) 11 rfl rfl (by kernel_rfl) (by kernel_rfl) (by kernel_rfl) (fun _ _ _ h => h) hHeld (by rfl) ?_ ?_
      rotate_left 1
      · (intro w' hS'; (try dsimp only at hS'); go_simp; (try with_reducible rfl))
      simp only [Act.put, List.setIfInBounds_toArray, List.set_cons_zero, List.set_cons_succ]
      refine wpAnyH_takeAt (v := ?_) (d := some 100) 12 rfl rfl (by kernel_rfl) (by kernel_rfl) (by kernel_rfl) (fun _ _ _ h => h) hHeld (by rfl) ?_ ?_
      rotate_left 1
      · (intro w' hS'; (try dsimp only at hS'); go_simp; (try with_reducible rfl))
      simp only [Act.put, List.setIfInBounds_toArray, List.set_cons_zero, List.set_cons_succ]
      have HS6 : Hid ((fun w' : World => w'.cell? ⟨g5, 0, none⟩ = some (.int .i64 a) ∧ w'.cell? ⟨g, 1, none⟩ = some (.string (bs x1)) ∧ w'.cell? ⟨g, 3, none⟩ = some (.string (bs x3)) ∧ w'.cell? ⟨g, 4, none⟩ = some (.string (bs x4))) (w4.alloc (.cells #[.int .i64 0, .string ⟨#[]⟩, .int .i64 0, .string ⟨#[]⟩, .string ⟨#[]⟩] 29))) := Lib.hid ⟨(World.cell?_alloc_lt _ _ ⟨g5, 0, none⟩ HL.out.1).trans HS5.out.1, (World.cell?_alloc_lt _ _ ⟨g, 1, none⟩ HL.out.2).trans HS5.out.2.1, (World.cell?_alloc_lt _ _ ⟨g, 3, none⟩ HL.out.2).trans HS5.out.2.2.1, (World.cell?_alloc_lt _ _ ⟨g, 4, none⟩ HL.out.2).trans HS5.out.2.2.2⟩
      refine wpAnyH_alone (d := some 9) 13 (.pointer (some ⟨w4.heap.size, 0, none⟩)) (w4.alloc (.cells #[.int .i64 0, .string ⟨#[]⟩, .int .i64 0, .string ⟨#[]⟩, .string ⟨#[]⟩] 29)) rfl rfl (by kernel_rfl) (by rfl) (by go_simp) HS6.out ?_
      simp only [Act.put, List.setIfInBounds_toArray, List.set_cons_zero, List.set_cons_succ]
      have KE := Lib.hid (Blk.fresh w4 #[.int .i64 0, .string ⟨#[]⟩, .int .i64 0, .string ⟨#[]⟩, .string ⟨#[]⟩] 29 _ rfl)
      have hER : w.heap.size < w4.heap.size := HR.out.lt
      have HL4 := Lib.hid (And.intro (show g5 ≠ w4.heap.size from Nat.ne_of_lt HL.out.1) (show g ≠ w4.heap.size from Nat.ne_of_lt HL.out.2))
      have HR := Lib.hid (HR.out.alloc (.cells #[.int .i64 0, .string ⟨#[]⟩, .int .i64 0, .string ⟨#[]⟩, .string ⟨#[]⟩] 29))
      have HB := Lib.hid (HB.out.alloc HB.out.size (.cells #[.int .i64 0, .string ⟨#[]⟩, .int .i64 0, .string ⟨#[]⟩, .string ⟨#[]⟩] 29))
      clear hHeld HS5
      generalize w4.alloc (.cells #[.int .i64 0, .string ⟨#[]⟩, .int .i64 0, .string ⟨#[]⟩, .string ⟨#[]⟩] 29) = w5 at *
      generalize w4.heap.size = E at *
      have a0 : w5.cell? ⟨E, 0, none⟩ = some (.int .i64 0) := KE.out.cell 0
      have a1 : w5.cell? ⟨E, 1, none⟩ = some (.string ⟨#[]⟩) := KE.out.cell 1
      have a2 : w5.cell? ⟨E, 2, none⟩ = some (.int .i64 0) := KE.out.cell 2
      have a3 : w5.cell? ⟨E, 3, none⟩ = some (.string ⟨#[]⟩) := KE.out.cell 3
      have a4 : w5.cell? ⟨E, 4, none⟩ = some (.string ⟨#[]⟩) := KE.out.cell 4
      have af := KE.out.free
      have HS7 := Lib.hid (held5 (E := E) (g5 := g5) (g := g) HS6.out HL4.out.1 HL4.out.2 a (bs x1) (-1) (bs x3) (bs x4))
      dsimp only [set5] at HS7
      refine wpAnyH_all (rs := [14]) (by kernel_rfl) (by simp) (fun j hj => ?_)
      obtain rfl : j = 14 := by simpa using hj
      refine wpOp_step rfl (fun K' hK => ?_)
      go_simp
      clear a0 a1 a2 a3 a4 af
      refine hK _ _ ⟨HS7.out, wpAnyH_done (by kernel_rfl) ?_ _⟩
      have KE := Lib.hid (KE.out.set5 rfl a (bs x1) (-1) (bs x3) (bs x4))
      have HR := Lib.hid (HR.out.set5_other (X := E) (by omega) a (bs x1) (-1) (bs x3) (bs x4))
      have HB := Lib.hid (set5_below HB.out (X := E) (Nat.le_of_lt hER) a (bs x1) (-1) (bs x3) (bs x4))
      dsimp only [set5] at KE HR HB
      clear HS7 HS6
      generalize (((((w5.setCell ⟨E, 0, none⟩ (.int .i64 a)).setCell ⟨E, 1, none⟩ (.string (bs x1))).setCell ⟨E, 2, none⟩ (.int .i64 (-1))).setCell ⟨E, 3, none⟩ (.string (bs x3))).setCell ⟨E, 4, none⟩ (.string (bs x4))) = w5 at *
      have a0 : w5.cell? ⟨E, 0, none⟩ = some (.int .i64 a) := KE.out.cell 0
      have a1 : w5.cell? ⟨E, 1, none⟩ = some (.string (bs x1)) := KE.out.cell 1
      have a2 : w5.cell? ⟨E, 2, none⟩ = some (.int .i64 (-1)) := KE.out.cell 2
      have a3 : w5.cell? ⟨E, 3, none⟩ = some (.string (bs x3)) := KE.out.cell 3
      have a4 : w5.cell? ⟨E, 4, none⟩ = some (.string (bs x4)) := KE.out.cell 4
      have af := KE.out.free
      have r0 : w5.cell? ⟨w.heap.size, 0, none⟩ = some (.int .i64 0) := HR.out.cell 0
      have r1 : w5.cell? ⟨w.heap.size, 1, none⟩ = some (.string ⟨#[]⟩) := HR.out.cell 1
      have r2 : w5.cell? ⟨w.heap.size, 2, none⟩ = some (.int .i64 0) := HR.out.cell 2
      have r3 : w5.cell? ⟨w.heap.size, 3, none⟩ = some (.string ⟨#[]⟩) := HR.out.cell 3
      have r4 : w5.cell? ⟨w.heap.size, 4, none⟩ = some (.string ⟨#[]⟩) := HR.out.cell 4
      have rf := HR.out.free
      have hne : E ≠ w.heap.size := by omega
      have hne2 : w.heap.size ≠ E := by omega
      have KX := Lib.hid ((HR.out.other (p := ⟨E, 4, none⟩) hne (.string ⟨#[]⟩)).set5 rfl a (bs x1) (-1) (bs x3) ⟨#[]⟩)
      have KB := Lib.hid (set5_below (HB.out.setCell (p := ⟨E, 4, none⟩) (Nat.le_of_lt hER) (.string ⟨#[]⟩)) (Nat.le_refl w.heap.size) a (bs x1) (-1) (bs x3) ⟨#[]⟩)
      dsimp only [set5] at KX KB
      go_wp2_with fail
      clear a0 a1 a2 a3 a4 af r0 r1 r2 r3 r4 rf
      generalize ((((((w5.setCell ⟨E, 4, none⟩ (.string ⟨#[]⟩)).setCell ⟨w.heap.size, 0, none⟩ (.int .i64 a)).setCell ⟨w.heap.size, 1, none⟩ (.string (bs x1))).setCell ⟨w.heap.size, 2, none⟩ (.int .i64 (-1))).setCell ⟨w.heap.size, 3, none⟩ (.string (bs x3))).setCell ⟨w.heap.size, 4, none⟩ (.string ⟨#[]⟩)) = ws at *
      have q := KX.out.cell; have qf := KX.out.free
      exact bodyPost_ret (v := .tuple #[.agg #[.int .i64 a, .string (bs x1), .int .i64 (-1), .string (bs x3), .string ⟨#[]⟩], .int .i64 0]) (by simp [results, Tryz.results7, go_sem, q, qf]) rfl ⟨rfl, KB.out⟩
    · obtain rfl : x4 = y4 := m4.symm
      have e4 : ((bs x4).toList == []) = false := by rw [bs_toList]; simpa using n4
      have g4 : ((bs x4).toList == [45]) = false := by rw [bs_toList]; simpa using d4
      rw [t4] at HT4
      clear n4 d4 t4
      go_enter Tryz.func7, Tryz.ntmps7
      go_wp2_with fail
      refine (HS.out _).mono ?_
      rintro e w1 ⟨v, rfl, hown, hb1⟩
      obtain ⟨g, cap, rfl, hg, hgl, c0, c1, c2, c3, c4⟩ := own5 hown
      have HR := Lib.hid (HR0.out.below hb1); have HB := Lib.hid (below_then HB0.out hb1)
      have HP := Lib.hid (P5.mk hgl c0 c1 c2 c3 c4)
      have hge : w.heap.size < g := by simp at hg; omega
      have HG := Lib.hid hge
      clear hown hb1 hg hgl hge
      go_wp2_with (first | (go_at_call 27; ((with_reducible refine (HW.out _).mono ?_); rintro e w6 ⟨rfl, rfl⟩)) | (go_at_call 28; ((with_reducible refine (HT3.out _).mono ?_); rintro e w6 ⟨rfl, rfl⟩)) | (go_at_call 28; ((with_reducible refine (HT4.out _).mono ?_); rintro e w6 ⟨rfl, rfl⟩)))
      refine (HN0.out _).mono ?_
      rintro e w2 ⟨v5, rfl, hok5, hb2⟩
      have HR := Lib.hid (HR.out.below hb2); have HP := Lib.hid (HP.out.below hb2); have HB := Lib.hid (below_then HB.out hb2)
      clear c0 c1 c2 c3 c4
      have HO5 := Lib.hid hok5
      clear hok5
      have c2 := HP.out.c2
      go_wp2_with fail
      refine (HN2.out _).mono ?_
      rintro e w3 ⟨v7, rfl, hok7, hb3⟩
      have HO7 := Lib.hid hok7
      clear hok7 c2
      have HR := Lib.hid (HR.out.below hb3); have HP := Lib.hid (HP.out.below hb3); have HB := Lib.hid (below_then HB.out hb3)
      have c2 := HP.out.c2
      obtain ⟨g5, cap5, rfl, hb5, hl5, q5⟩ := own1 (HO5.out (by simp))
      have c5 : w3.cell? ⟨g5, 0, none⟩ = some (.int .i64 a) := (hb3.cell (p := ⟨g5, 0, none⟩) hl5).trans q5
      have c1 := HP.out.c1; have c3 := HP.out.c3; have c4 := HP.out.c4
      clear q5
      go_upto_region 8 with (fail)
      have HR := Lib.hid HR.out.drew; have HB := Lib.hid HB.out.drew
      have c5 : w3.drew.cell? ⟨g5, 0, none⟩ = some (.int .i64 a) := c5
      have c1 : w3.drew.cell? ⟨g, 1, none⟩ = some (.string (bs x1)) := c1
      have c3 : w3.drew.cell? ⟨g, 3, none⟩ = some (.string (bs x3)) := c3
      have c4 : w3.drew.cell? ⟨g, 4, none⟩ = some (.string (bs x4)) := c4
      refine wp_region_held_drew (S := fun w' => w'.cell? ⟨g5, 0, none⟩ = some (.int .i64 a) ∧ w'.cell? ⟨g, 1, none⟩ = some (.string (bs x1)) ∧ w'.cell? ⟨g, 3, none⟩ = some (.string (bs x3)) ∧ w'.cell? ⟨g, 4, none⟩ = some (.string (bs x4))) (by kernel_rfl) ⟨c5, c1, c3, c4⟩ (fun hHeld => ?_)
      have HL := Lib.hid (And.intro (lt_of_cell c5) (lt_of_cell c1))
      have HS5 := Lib.hid (And.intro c5 (And.intro c1 (And.intro c3 c4)))
      clear c1 c2 c3 c4 c5
      generalize w3.drew = w4 at *
      refine wpAnyH_takeAt (v := ?_) (d := some 88) 0 rfl rfl (by kernel_rfl) (by kernel_rfl) (by kernel_rfl) (fun _ _ _ h => h) hHeld (by rfl) ?_ ?_
      rotate_left 1
      · (intro w' hS'; (try dsimp only at hS'); go_simp; (try with_reducible rfl))
      simp only [Act.put, List.setIfInBounds_toArray, List.set_cons_zero, List.set_cons_succ]
      refine wpAnyH_takeAt (v := ?_) (d := some 89) 1 rfl rfl (by kernel_rfl) (by kernel_rfl) (by kernel_rfl) (fun _ _ _ h => h) hHeld (by rfl) ?_ ?_
      rotate_left 1
      · (intro w' hS'; (try dsimp only at hS'); go_simp; (try with_reducible rfl))
      simp only [Act.put, List.setIfInBounds_toArray, List.set_cons_zero, List.set_cons_succ]
      refine wpAnyH_takeAt (v := ?_) (d := some 90) 2 rfl rfl (by kernel_rfl) (by kernel_rfl) (by kernel_rfl) (fun _ _ _ h => h) hHeld (by rfl) ?_ ?_
      rotate_left 1
      · (intro w' hS'; (try dsimp only at hS'); go_simp; (try with_reducible rfl))
      simp only [Act.put, List.setIfInBounds_toArray, List.set_cons_zero, List.set_cons_succ]
      refine wpAnyH_takeAt (v := ?_) (d := some 91) 3 rfl rfl (by kernel_rfl) (by kernel_rfl) (by kernel_rfl) (fun _ _ _ h => h) hHeld (by rfl) ?_ ?_
      rotate_left 1
      · (intro w' hS'; (try dsimp only at hS'); go_simp; (try with_reducible rfl))
      simp only [Act.put, List.setIfInBounds_toArray, List.set_cons_zero, List.set_cons_succ]
      refine wpAnyH_takeAt (v := ?_) (d := some 92) 4 rfl rfl (by kernel_rfl) (by kernel_rfl) (by kernel_rfl) (fun _ _ _ h => h) hHeld (by rfl) ?_ ?_
      rotate_left 1
      · (intro w' hS'; (try dsimp only at hS'); go_simp; (try with_reducible rfl))
      simp only [Act.put, List.setIfInBounds_toArray, List.set_cons_zero, List.set_cons_succ]
      refine wpAnyH_takeAt (v := ?_) (d := some 93) 5 rfl rfl (by kernel_rfl) (by kernel_rfl) (by kernel_rfl) (fun _ _ _ h => h) hHeld (by rfl) ?_ ?_
      rotate_left 1
      · (intro w' hS'; (try dsimp only at hS'); go_simp; (try with_reducible rfl))
      simp only [Act.put, List.setIfInBounds_toArray, List.set_cons_zero, List.set_cons_succ]
      refine wpAnyH_takeAt (v := ?_) (d := some 94) 6 rfl rfl (by kernel_rfl) (by kernel_rfl) (by kernel_rfl) (fun _ _ _ h => h) hHeld (by rfl) ?_ ?_
      rotate_left 1
      · (intro w' hS'; (try dsimp only at hS'); go_simp; (try with_reducible rfl))
      simp only [Act.put, List.setIfInBounds_toArray, List.set_cons_zero, List.set_cons_succ]
      refine wpAnyH_takeAt (v := ?_) (d := some 95) 7 rfl rfl (by kernel_rfl) (by kernel_rfl) (by kernel_rfl) (fun _ _ _ h => h) hHeld (by rfl) ?_ ?_
      rotate_left 1
      · (intro w' hS'; (try dsimp only at hS'); go_simp; (try with_reducible rfl))
      simp only [Act.put, List.setIfInBounds_toArray, List.set_cons_zero, List.set_cons_succ]
      refine wpAnyH_takeAt (v := ?_) (d := some 96) 8 rfl rfl (by kernel_rfl) (by kernel_rfl) (by kernel_rfl) (fun _ _ _ h => h) hHeld (by rfl) ?_ ?_
      rotate_left 1
      · (intro w' hS'; (try dsimp only at hS'); go_simp; (try with_reducible rfl))
      simp only [Act.put, List.setIfInBounds_toArray, List.set_cons_zero, List.set_cons_succ]
      refine wpAnyH_takeAt (v := ?_) (d := some 97) 9 rfl rfl (by kernel_rfl) (by kernel_rfl) (by kernel_rfl) (fun _ _ _ h => h) hHeld (by rfl) ?_ ?_
      rotate_left 1
      · (intro w' hS'; (try dsimp only at hS'); go_simp; (try with_reducible rfl))
      simp only [Act.put, List.setIfInBounds_toArray, List.set_cons_zero, List.set_cons_succ]
      refine wpAnyH_takeAt (v := ?_) (d := some 98) 10 rfl rfl (by kernel_rfl) (by kernel_rfl) (by kernel_rfl) (fun _ _ _ h => h) hHeld (by rfl) ?_ ?_
      rotate_left 1
      · (intro w' hS'; (try dsimp only at hS'); go_simp; (try with_reducible rfl))
      simp only [Act.put, List.setIfInBounds_toArray, List.set_cons_zero, List.set_cons_succ]
      refine wpAnyH_takeAt (v := ?_) (d := some 99) 11 rfl rfl (by kernel_rfl) (by kernel_rfl) (by kernel_rfl) (fun _ _ _ h => h) hHeld (by rfl) ?_ ?_
      rotate_left 1
      · (intro w' hS'; (try dsimp only at hS'); go_simp; (try with_reducible rfl))
      simp only [Act.put, List.setIfInBounds_toArray, List.set_cons_zero, List.set_cons_succ]
      refine wpAnyH_takeAt (v := ?_) (d := some 100) 12 rfl rfl (by kernel_rfl) (by kernel_rfl) (by kernel_rfl) (fun _ _ _ h => h) hHeld (by rfl) ?_ ?_
      rotate_left 1
      · (intro w' hS'; (try dsimp only at hS'); go_simp; (try with_reducible rfl))
      simp only [Act.put, List.setIfInBounds_toArray, List.set_cons_zero, List.set_cons_succ]
      have HS6 : Hid ((fun w' : World => w'.cell? ⟨g5, 0, none⟩ = some (.int .i64 a) ∧ w'.cell? ⟨g, 1, none⟩ = some (.string (bs x1)) ∧ w'.cell? ⟨g, 3, none⟩ = some (.string (bs x3)) ∧ w'.cell? ⟨g, 4, none⟩ = some (.string (bs x4))) (w4.alloc (.cells #[.int .i64 0, .string ⟨#[]⟩, .int .i64 0, .string ⟨#[]⟩, .string ⟨#[]⟩] 29))) := Lib.hid ⟨(World.cell?_alloc_lt _ _ ⟨g5, 0, none⟩ HL.out.1).trans HS5.out.1, (World.cell?_alloc_lt _ _ ⟨g, 1, none⟩ HL.out.2).trans HS5.out.2.1, (World.cell?_alloc_lt _ _ ⟨g, 3, none⟩ HL.out.2).trans HS5.out.2.2.1, (World.cell?_alloc_lt _ _ ⟨g, 4, none⟩ HL.out.2).trans HS5.out.2.2.2⟩
      refine wpAnyH_alone (d := some 9) 13 (.pointer (some ⟨w4.heap.size, 0, none⟩)) (w4.alloc (.cells #[.int .i64 0, .string ⟨#[]⟩, .int .i64 0, .string ⟨#[]⟩, .string ⟨#[]⟩] 29)) rfl rfl (by kernel_rfl) (by rfl) (by go_simp) HS6.out ?_
      simp only [Act.put, List.setIfInBounds_toArray, List.set_cons_zero, List.set_cons_succ]
      have KE := Lib.hid (Blk.fresh w4 #[.int .i64 0, .string ⟨#[]⟩, .int .i64 0, .string ⟨#[]⟩, .string ⟨#[]⟩] 29 _ rfl)
      have hER : w.heap.size < w4.heap.size := HR.out.lt
      have HL4 := Lib.hid (And.intro (show g5 ≠ w4.heap.size from Nat.ne_of_lt HL.out.1) (show g ≠ w4.heap.size from Nat.ne_of_lt HL.out.2))
      have HR := Lib.hid (HR.out.alloc (.cells #[.int .i64 0, .string ⟨#[]⟩, .int .i64 0, .string ⟨#[]⟩, .string ⟨#[]⟩] 29))
      have HB := Lib.hid (HB.out.alloc HB.out.size (.cells #[.int .i64 0, .string ⟨#[]⟩, .int .i64 0, .string ⟨#[]⟩, .string ⟨#[]⟩] 29))
      clear hHeld HS5
      generalize w4.alloc (.cells #[.int .i64 0, .string ⟨#[]⟩, .int .i64 0, .string ⟨#[]⟩, .string ⟨#[]⟩] 29) = w5 at *
      generalize w4.heap.size = E at *
      have a0 : w5.cell? ⟨E, 0, none⟩ = some (.int .i64 0) := KE.out.cell 0
      have a1 : w5.cell? ⟨E, 1, none⟩ = some (.string ⟨#[]⟩) := KE.out.cell 1
      have a2 : w5.cell? ⟨E, 2, none⟩ = some (.int .i64 0) := KE.out.cell 2
      have a3 : w5.cell? ⟨E, 3, none⟩ = some (.string ⟨#[]⟩) := KE.out.cell 3
      have a4 : w5.cell? ⟨E, 4, none⟩ = some (.string ⟨#[]⟩) := KE.out.cell 4
      have af := KE.out.free
      have HS7 := Lib.hid (held5 (E := E) (g5 := g5) (g := g) HS6.out HL4.out.1 HL4.out.2 a (bs x1) (-1) (bs x3) (bs x4))
      dsimp only [set5] at HS7
      refine wpAnyH_all (rs := [14]) (by kernel_rfl) (by simp) (fun j hj => ?_)
      obtain rfl : j = 14 := by simpa using hj
      refine wpOp_step rfl (fun K' hK => ?_)
      go_simp
      clear a0 a1 a2 a3 a4 af
      refine hK _ _ ⟨HS7.out, wpAnyH_done (by kernel_rfl) ?_ _⟩
      have KE := Lib.hid (KE.out.set5 rfl a (bs x1) (-1) (bs x3) (bs x4))
      have HR := Lib.hid (HR.out.set5_other (X := E) (by omega) a (bs x1) (-1) (bs x3) (bs x4))
      have HB := Lib.hid (set5_below HB.out (X := E) (Nat.le_of_lt hER) a (bs x1) (-1) (bs x3) (bs x4))
      dsimp only [set5] at KE HR HB
      clear HS7 HS6
      generalize (((((w5.setCell ⟨E, 0, none⟩ (.int .i64 a)).setCell ⟨E, 1, none⟩ (.string (bs x1))).setCell ⟨E, 2, none⟩ (.int .i64 (-1))).setCell ⟨E, 3, none⟩ (.string (bs x3))).setCell ⟨E, 4, none⟩ (.string (bs x4))) = w5 at *
      have a0 : w5.cell? ⟨E, 0, none⟩ = some (.int .i64 a) := KE.out.cell 0
      have a1 : w5.cell? ⟨E, 1, none⟩ = some (.string (bs x1)) := KE.out.cell 1
      have a2 : w5.cell? ⟨E, 2, none⟩ = some (.int .i64 (-1)) := KE.out.cell 2
      have a3 : w5.cell? ⟨E, 3, none⟩ = some (.string (bs x3)) := KE.out.cell 3
      have a4 : w5.cell? ⟨E, 4, none⟩ = some (.string (bs x4)) := KE.out.cell 4
      have af := KE.out.free
      have r0 : w5.cell? ⟨w.heap.size, 0, none⟩ = some (.int .i64 0) := HR.out.cell 0
      have r1 : w5.cell? ⟨w.heap.size, 1, none⟩ = some (.string ⟨#[]⟩) := HR.out.cell 1
      have r2 : w5.cell? ⟨w.heap.size, 2, none⟩ = some (.int .i64 0) := HR.out.cell 2
      have r3 : w5.cell? ⟨w.heap.size, 3, none⟩ = some (.string ⟨#[]⟩) := HR.out.cell 3
      have r4 : w5.cell? ⟨w.heap.size, 4, none⟩ = some (.string ⟨#[]⟩) := HR.out.cell 4
      have rf := HR.out.free
      have hne : E ≠ w.heap.size := by omega
      have hne2 : w.heap.size ≠ E := by omega
      have KX := Lib.hid (HR.out.set5 rfl a (bs x1) (-1) (bs x3) (bs x4))
      have KB := Lib.hid (set5_below HB.out (Nat.le_refl w.heap.size) a (bs x1) (-1) (bs x3) (bs x4))
      dsimp only [set5] at KX KB
      go_wp2_with fail
      clear a0 a1 a2 a3 a4 af r0 r1 r2 r3 r4 rf
      generalize (((((w5.setCell ⟨w.heap.size, 0, none⟩ (.int .i64 a)).setCell ⟨w.heap.size, 1, none⟩ (.string (bs x1))).setCell ⟨w.heap.size, 2, none⟩ (.int .i64 (-1))).setCell ⟨w.heap.size, 3, none⟩ (.string (bs x3))).setCell ⟨w.heap.size, 4, none⟩ (.string (bs x4))) = ws at *
      have q := KX.out.cell; have qf := KX.out.free
      exact bodyPost_ret (v := .tuple #[.agg #[.int .i64 a, .string (bs x1), .int .i64 (-1), .string (bs x3), .string (bs x4)], .int .i64 0]) (by simp [results, Tryz.results7, go_sem, q, qf]) rfl ⟨rfl, KB.out⟩
set_option maxRecDepth 100000 in
set_option maxHeartbeats 4000000 in
theorem rparse_nn (s x0 x1 x2 x3 x4 y3 y4 : Str) (hs : s.length ≤ 100000) (hl : pieces s = [x0, x1, x2, x3, x4]) (hz : x3.length ≤ 100000 ∧ x4.length ≤ 100000) (hz0 : x0.length ≤ 100000 ∧ x2.length ≤ 100000) (hc : tWord x1 = true) (h3 : Meant x3 y3) (h4 : Meant x4 y4)
    (hn : tDigs x0 = true) (a : Int) (ha : a = (tSat x0 : Int)) (hr : rdOk [110] x2 = false) (h45 : x2 = [45]) (hr1 : 999999 < a) (w : World) :
    Calls Tryz.prog 7 #[.string (bs s)] w (Makes (.tuple #[evZero, .int .i64 1]) w) := by
  have HS := Lib.hid (fun W => hl ▸ rsplit_of s hs W)
  have HR0 := Lib.hid (Blk.fresh w evZ 29 _ rfl)
  have HB0 := Lib.hid ((Below.refl w.heap.size w).alloc (Nat.le_refl _) (.cells evZ 29))
  have HW := Lib.hid (fun W => hc ▸ rword_of x1 W)
  have HT3 := Lib.hid (fun W => rtext_of x3 hz.1 W)
  have HT4 := Lib.hid (fun W => rtext_of x4 hz.2 W)
  have HN0 := Lib.hid (fun W => (show Calls Tryz.prog 29 #[.string (bs x0), .string ⟨#[35]⟩] W (MakesRd (tDigs x0) (tSat x0) W) from rread_of [] x0 (by simp) (by simp) hz0.1 W))
  have HN2 := Lib.hid (fun W => (show Calls Tryz.prog 29 #[.string (bs x2), .string ⟨#[110, 35]⟩] W (MakesRd (rdOk [110] x2) (tSat (x2.drop 1)) W) from rread_of [110] x2 (by simp) (by simp) hz0.2 W))
  clear hs hl hz hz0 hc
  rw [hn] at HN0
  rw [hr] at HN2
  have e45 : ((bs x2).toList == [45]) = true := by rw [bs_toList, h45]; rfl
  clear hr h45
  have hn0 : a ≤ 1000000 := by have := sat_le x0; omega
  have hnn : 0 ≤ a := by omega
  rw [← ha] at HN0
  clear hn ha
  rcases h3 with ⟨d3, m3⟩ | ⟨d3, n3, t3, m3⟩
  · subst m3
    have e3 : ((bs x3).toList == []) = false := by rw [bs_toList]; rw [d3]; rfl
    have g3 : ((bs x3).toList == [45]) = true := by rw [bs_toList]; rw [d3]; rfl
    clear d3
    rcases h4 with ⟨d4, m4⟩ | ⟨d4, n4, t4, m4⟩
    · subst m4
      have e4 : ((bs x4).toList == []) = false := by rw [bs_toList]; rw [d4]; rfl
      have g4 : ((bs x4).toList == [45]) = true := by rw [bs_toList]; rw [d4]; rfl
      clear d4
      go_enter Tryz.func7, Tryz.ntmps7
      go_wp2_with fail
      refine (HS.out _).mono ?_
      rintro e w1 ⟨v, rfl, hown, hb1⟩
      obtain ⟨g, cap, rfl, hg, hgl, c0, c1, c2, c3, c4⟩ := own5 hown
      have HR := Lib.hid (HR0.out.below hb1); have HB := Lib.hid (below_then HB0.out hb1)
      have HP := Lib.hid (P5.mk hgl c0 c1 c2 c3 c4)
      have hge : w.heap.size < g := by simp at hg; omega
      have HG := Lib.hid hge
      clear hown hb1 hg hgl hge
      go_wp2_with (first | (go_at_call 27; ((with_reducible refine (HW.out _).mono ?_); rintro e w6 ⟨rfl, rfl⟩)) | (go_at_call 28; ((with_reducible refine (HT3.out _).mono ?_); rintro e w6 ⟨rfl, rfl⟩)) | (go_at_call 28; ((with_reducible refine (HT4.out _).mono ?_); rintro e w6 ⟨rfl, rfl⟩)))
      refine (HN0.out _).mono ?_
      rintro e w2 ⟨v5, rfl, hok5, hb2⟩
      have HR := Lib.hid (HR.out.below hb2); have HP := Lib.hid (HP.out.below hb2); have HB := Lib.hid (below_then HB.out hb2)
      clear c0 c1 c2 c3 c4
      have HO5 := Lib.hid hok5
      clear hok5
      have c2 := HP.out.c2
      go_wp2_with fail
      refine (HN2.out _).mono ?_
      rintro e w3 ⟨v7, rfl, hok7, hb3⟩
      have HO7 := Lib.hid hok7
      clear hok7 c2
      have HR := Lib.hid (HR.out.below hb3); have HP := Lib.hid (HP.out.below hb3); have HB := Lib.hid (below_then HB.out hb3)
      have c2 := HP.out.c2
      obtain ⟨g5, cap5, rfl, hb5, hl5, q5⟩ := own1 (HO5.out (by simp))
      have c5 : w3.cell? ⟨g5, 0, none⟩ = some (.int .i64 a) := (hb3.cell (p := ⟨g5, 0, none⟩) hl5).trans q5
      have c1 := HP.out.c1; have c3 := HP.out.c3; have c4 := HP.out.c4
      clear q5
      go_upto_region 8 with (fail)
      have HR := Lib.hid HR.out.drew; have HB := Lib.hid HB.out.drew
      have c5 : w3.drew.cell? ⟨g5, 0, none⟩ = some (.int .i64 a) := c5
      have c1 : w3.drew.cell? ⟨g, 1, none⟩ = some (.string (bs x1)) := c1
      have c3 : w3.drew.cell? ⟨g, 3, none⟩ = some (.string (bs x3)) := c3
      have c4 : w3.drew.cell? ⟨g, 4, none⟩ = some (.string (bs x4)) := c4
      refine wp_region_held_drew (S := fun w' => w'.cell? ⟨g5, 0, none⟩ = some (.int .i64 a) ∧ w'.cell? ⟨g, 1, none⟩ = some (.string (bs x1)) ∧ w'.cell? ⟨g, 3, none⟩ = some (.string (bs x3)) ∧ w'.cell? ⟨g, 4, none⟩ = some (.string (bs x4))) (by kernel_rfl) ⟨c5, c1, c3, c4⟩ (fun hHeld => ?_)
      have HL := Lib.hid (And.intro (lt_of_cell c5) (lt_of_cell c1))
      have HS5 := Lib.hid (And.intro c5 (And.intro c1 (And.intro c3 c4)))
      clear c1 c2 c3 c4 c5
      generalize w3.drew = w4 at *
      refine wpAnyH_takeAt (v := ?_) (d := some 88) 0 rfl rfl (by kernel_rfl) (by kernel_rfl) (by kernel_rfl) (fun _ _ _ h => h) hHeld (by rfl) ?_ ?_
      rotate_left 1
      · (intro w' hS'; (try dsimp only at hS'); go_simp; (try with_reducible rfl))
      simp only [Act.put, List.setIfInBounds_toArray, List.set_cons_zero, List.set_cons_succ]
      refine wpAnyH_takeAt (v := ?_) (d := some 89) 1 rfl rfl (by kernel_rfl) (by kernel_rfl) (by kernel_rfl) (fun _ _ _ h => h) hHeld (by rfl) ?_ ?_
      rotate_left 1
      · (intro w' hS'; (try dsimp only at hS'); go_simp; (try with_reducible rfl))
      simp only [Act.put, List.setIfInBounds_toArray, List.set_cons_zero, List.set_cons_succ]
      refine wpAnyH_takeAt (v := ?_) (d := some 90) 2 rfl rfl (by kernel_rfl) (by kernel_rfl) (by kernel_rfl) (fun _ _ _ h => h) hHeld (by rfl) ?_ ?_
      rotate_left 1
      · (intro w' hS'; (try dsimp only at hS'); go_simp; (try with_reducible rfl))
      simp only [Act.put, List.setIfInBounds_toArray, List.set_cons_zero, List.set_cons_succ]
      refine wpAnyH_takeAt (v := ?_) (d := some 91) 3 rfl rfl (by kernel_rfl) (by kernel_rfl) (by kernel_rfl) (fun _ _ _ h => h) hHeld (by rfl) ?_ ?_
      rotate_left 1
      · (intro w' hS'; (try dsimp only at hS'); go_simp; (try with_reducible rfl))
      simp only [Act.put, List.setIfInBounds_toArray, List.set_cons_zero, List.set_cons_succ]
      refine wpAnyH_takeAt (v := ?_) (d := some 92) 4 rfl rfl (by kernel_rfl) (by kernel_rfl) (by kernel_rfl) (fun _ _ _ h => h) hHeld (by rfl) ?_ ?_
      rotate_left 1
      · (intro w' hS'; (try dsimp only at hS'); go_simp; (try with_reducible rfl))
      simp only [Act.put, List.setIfInBounds_toArray, List.set_cons_zero, List.set_cons_succ]
      refine wpAnyH_takeAt (v := ?_) (d := some 93) 5 rfl rfl (by kernel_rfl) (by kernel_rfl) (by kernel_rfl) (fun _ _ _ h => h) hHeld (by rfl) ?_ ?_
      rotate_left 1
      · (intro w' hS'; (try dsimp only at hS'); go_simp; (try with_reducible rfl))
      simp only [Act.put, List.setIfInBounds_toArray, List.set_cons_zero, List.set_cons_succ]
      refine wpAnyH_takeAt (v := ?_) (d := some 94) 6 rfl rfl (by kernel_rfl) (by kernel_rfl) (by kernel_rfl) (fun _ _ _ h => h) hHeld (by rfl) ?_ ?_
      rotate_left 1
      · (intro w' hS'; (try dsimp only at hS'); go_simp; (try with_reducible rfl))
      simp only [Act.put, List.setIfInBounds_toArray, List.set_cons_zero, List.set_cons_succ]
      refine wpAnyH_takeAt (v := ?_) (d := some 95) 7 rfl rfl (by kernel_rfl) (by kernel_rfl) (by kernel_rfl) (fun _ _ _ h => h) hHeld (by rfl) ?_ ?_
      rotate_left 1
      · (intro w' hS'; (try dsimp only at hS'); go_simp; (try with_reducible rfl))
      simp only [Act.put, List.setIfInBounds_toArray, List.set_cons_zero, List.set_cons_succ]
      refine wpAnyH_takeAt (v := ?_) (d := some 96) 8 rfl rfl (by kernel_rfl) (by kernel_rfl) (by kernel_rfl) (fun _ _ _ h => h) hHeld (by rfl) ?_ ?_
      rotate_left 1
      · (intro w' hS'; (try dsimp only at hS'); go_simp; (try with_reducible rfl))
      simp only [Act.put, List.setIfInBounds_toArray, List.set_cons_zero, List.set_cons_succ]
      refine wpAnyH_takeAt (v := ?_) (d := some 97) 9 rfl rfl (by kernel_rfl) (by kernel_rfl) (by kernel_rfl) (fun _ _ _ h => h) hHeld (by rfl) ?_ ?_
      rotate_left 1
      · (intro w' hS'; (try dsimp only at hS'); go_simp; (try with_reducible rfl))
      simp only [Act.put, List.setIfInBounds_toArray, List.set_cons_zero, List.set_cons_succ]
      refine wpAnyH_takeAt (v := ?_) (d := some 98) 10 rfl rfl (by kernel_rfl) (by kernel_rfl) (by kernel_rfl) (fun _ _ _ h => h) hHeld (by rfl) ?_ ?_
      rotate_left 1
      · (intro w' hS'; (try dsimp only at hS'); go_simp; (try with_reducible rfl))
      simp only [Act.put, List.setIfInBounds_toArray, List.set_cons_zero, List.set_cons_succ]
      refine wpAnyH_takeAt (v := ?_) (d := some 99) 11 rfl rfl (by kernel_rfl) (by kernel_rfl) (by kernel_rfl) (fun _ _ _ h => h) hHeld (by rfl) ?_ ?_
      rotate_left 1
      · (intro w' hS'; (try dsimp only at hS'); go_simp; (try with_reducible rfl))
      simp only [Act.put, List.setIfInBounds_toArray, List.set_cons_zero, List.set_cons_succ]
      refine wpAnyH_takeAt (v := ?_) (d := some 100) 12 rfl rfl (by kernel_rfl) (by kernel_rfl) (by kernel_rfl) (fun _ _ _ h => h) hHeld (by rfl) ?_ ?_
      rotate_left 1
      · (intro w' hS'; (try dsimp only at hS'); go_simp; (try with_reducible rfl))
      simp only [Act.put, List.setIfInBounds_toArray, List.set_cons_zero, List.set_cons_succ]
      have HS6 : Hid ((fun w' : World => w'.cell? ⟨g5, 0, none⟩ = some (.int .i64 a) ∧ w'.cell? ⟨g, 1, none⟩ = some (.string (bs x1)) ∧ w'.cell? ⟨g, 3, none⟩ = some (.string (bs x3)) ∧ w'.cell? ⟨g, 4, none⟩ = some (.string (bs x4))) (w4.alloc (.cells #[.int .i64 0, .string ⟨#[]⟩, .int .i64 0, .string ⟨#[]⟩, .string ⟨#[]⟩] 29))) := Lib.hid ⟨(World.cell?_alloc_lt _ _ ⟨g5, 0, none⟩ HL.out.1).trans HS5.out.1, (World.cell?_alloc_lt _ _ ⟨g, 1, none⟩ HL.out.2).trans HS5.out.2.1, (World.cell?_alloc_lt _ _ ⟨g, 3, none⟩ HL.out.2).trans HS5.out.2.2.1, (World.cell?_alloc_lt _ _ ⟨g, 4, none⟩ HL.out.2).trans HS5.out.2.2.2⟩
      refine wpAnyH_alone (d := some 9) 13 (.pointer (some ⟨w4.heap.size, 0, none⟩)) (w4.alloc (.cells #[.int .i64 0, .string ⟨#[]⟩, .int .i64 0, .string ⟨#[]⟩, .string ⟨#[]⟩] 29)) rfl rfl (by kernel_rfl) (by rfl) (by go_simp) HS6.out ?_
      simp only [Act.put, List.setIfInBounds_toArray, List.set_cons_zero, List.set_cons_succ]
      have KE := Lib.hid (Blk.fresh w4 #[.int .i64 0, .string ⟨#[]⟩, .int .i64 0, .string ⟨#[]⟩, .string ⟨#[]⟩] 29 _ rfl)
      have hER : w.heap.size < w4.heap.size := HR.out.lt
      have HL4 := Lib.hid (And.intro (show g5 ≠ w4.heap.size from Nat.ne_of_lt HL.out.1) (show g ≠ w4.heap.size from Nat.ne_of_lt HL.out.2))
      have HR := Lib.hid (HR.out.alloc (.cells #[.int .i64 0, .string ⟨#[]⟩, .int .i64 0, .string ⟨#[]⟩, .string ⟨#[]⟩] 29))
      have HB := Lib.hid (HB.out.alloc HB.out.size (.cells #[.int .i64 0, .string ⟨#[]⟩, .int .i64 0, .string ⟨#[]⟩, .string ⟨#[]⟩] 29))
      clear hHeld HS5
      generalize w4.alloc (.cells #[.int .i64 0, .string ⟨#[]⟩, .int .i64 0, .string ⟨#[]⟩, .string ⟨#[]⟩] 29) = w5 at *
      generalize w4.heap.size = E at *
      have a0 : w5.cell? ⟨E, 0, none⟩ = some (.int .i64 0) := KE.out.cell 0
      have a1 : w5.cell? ⟨E, 1, none⟩ = some (.string ⟨#[]⟩) := KE.out.cell 1
      have a2 : w5.cell? ⟨E, 2, none⟩ = some (.int .i64 0) := KE.out.cell 2
      have a3 : w5.cell? ⟨E, 3, none⟩ = some (.string ⟨#[]⟩) := KE.out.cell 3
      have a4 : w5.cell? ⟨E, 4, none⟩ = some (.string ⟨#[]⟩) := KE.out.cell 4
      have af := KE.out.free
      have HS7 := Lib.hid (held5 (E := E) (g5 := g5) (g := g) HS6.out HL4.out.1 HL4.out.2 a (bs x1) (-1) (bs x3) (bs x4))
      dsimp only [set5] at HS7
      refine wpAnyH_all (rs := [14]) (by kernel_rfl) (by simp) (fun j hj => ?_)
      obtain rfl : j = 14 := by simpa using hj
      refine wpOp_step rfl (fun K' hK => ?_)
      go_simp
      clear a0 a1 a2 a3 a4 af
      refine hK _ _ ⟨HS7.out, wpAnyH_done (by kernel_rfl) ?_ _⟩
      have KE := Lib.hid (KE.out.set5 rfl a (bs x1) (-1) (bs x3) (bs x4))
      have HR := Lib.hid (HR.out.set5_other (X := E) (by omega) a (bs x1) (-1) (bs x3) (bs x4))
      have HB := Lib.hid (set5_below HB.out (X := E) (Nat.le_of_lt hER) a (bs x1) (-1) (bs x3) (bs x4))
      dsimp only [set5] at KE HR HB
      clear HS7 HS6
      generalize (((((w5.setCell ⟨E, 0, none⟩ (.int .i64 a)).setCell ⟨E, 1, none⟩ (.string (bs x1))).setCell ⟨E, 2, none⟩ (.int .i64 (-1))).setCell ⟨E, 3, none⟩ (.string (bs x3))).setCell ⟨E, 4, none⟩ (.string (bs x4))) = w5 at *
      have a0 : w5.cell? ⟨E, 0, none⟩ = some (.int .i64 a) := KE.out.cell 0
      have a1 : w5.cell? ⟨E, 1, none⟩ = some (.string (bs x1)) := KE.out.cell 1
      have a2 : w5.cell? ⟨E, 2, none⟩ = some (.int .i64 (-1)) := KE.out.cell 2
      have a3 : w5.cell? ⟨E, 3, none⟩ = some (.string (bs x3)) := KE.out.cell 3
      have a4 : w5.cell? ⟨E, 4, none⟩ = some (.string (bs x4)) := KE.out.cell 4
      have af := KE.out.free
      have r0 : w5.cell? ⟨w.heap.size, 0, none⟩ = some (.int .i64 0) := HR.out.cell 0
      have r1 : w5.cell? ⟨w.heap.size, 1, none⟩ = some (.string ⟨#[]⟩) := HR.out.cell 1
      have r2 : w5.cell? ⟨w.heap.size, 2, none⟩ = some (.int .i64 0) := HR.out.cell 2
      have r3 : w5.cell? ⟨w.heap.size, 3, none⟩ = some (.string ⟨#[]⟩) := HR.out.cell 3
      have r4 : w5.cell? ⟨w.heap.size, 4, none⟩ = some (.string ⟨#[]⟩) := HR.out.cell 4
      have rf := HR.out.free
      have hne : E ≠ w.heap.size := by omega
      have hne2 : w.heap.size ≠ E := by omega
      have KX := Lib.hid (HR.out.set5 rfl 0 ⟨#[]⟩ 0 ⟨#[]⟩ ⟨#[]⟩)
      have KB := Lib.hid (set5_below HB.out (Nat.le_refl w.heap.size) 0 ⟨#[]⟩ 0 ⟨#[]⟩ ⟨#[]⟩)
      dsimp only [set5] at KX KB
      go_wp2_with fail
      clear a0 a1 a2 a3 a4 af r0 r1 r2 r3 r4 rf
      generalize (((((w5.setCell ⟨w.heap.size, 0, none⟩ (.int .i64 0)).setCell ⟨w.heap.size, 1, none⟩ (.string ⟨#[]⟩)).setCell ⟨w.heap.size, 2, none⟩ (.int .i64 0)).setCell ⟨w.heap.size, 3, none⟩ (.string ⟨#[]⟩)).setCell ⟨w.heap.size, 4, none⟩ (.string ⟨#[]⟩)) = ws at *
      have q := KX.out.cell; have qf := KX.out.free
      exact bodyPost_ret (v := .tuple #[.agg #[.int .i64 0, .string ⟨#[]⟩, .int .i64 0, .string ⟨#[]⟩, .string ⟨#[]⟩], .int .i64 1]) (by simp [results, Tryz.results7, go_sem, q, qf]) rfl ⟨rfl, KB.out⟩
    · obtain rfl : x4 = y4 := m4.symm
      have e4 : ((bs x4).toList == []) = false := by rw [bs_toList]; simpa using n4
      have g4 : ((bs x4).toList == [45]) = false := by rw [bs_toList]; simpa using d4
      rw [t4] at HT4
      clear n4 d4 t4
      go_enter Tryz.func7, Tryz.ntmps7
      go_wp2_with fail
      refine (HS.out _).mono ?_
      rintro e w1 ⟨v, rfl, hown, hb1⟩
      obtain ⟨g, cap, rfl, hg, hgl, c0, c1, c2, c3, c4⟩ := own5 hown
      have HR := Lib.hid (HR0.out.below hb1); have HB := Lib.hid (below_then HB0.out hb1)
      have HP := Lib.hid (P5.mk hgl c0 c1 c2 c3 c4)
      have hge : w.heap.size < g := by simp at hg; omega
      have HG := Lib.hid hge
      clear hown hb1 hg hgl hge
      go_wp2_with (first | (go_at_call 27; ((with_reducible refine (HW.out _).mono ?_); rintro e w6 ⟨rfl, rfl⟩)) | (go_at_call 28; ((with_reducible refine (HT3.out _).mono ?_); rintro e w6 ⟨rfl, rfl⟩)) | (go_at_call 28; ((with_reducible refine (HT4.out _).mono ?_); rintro e w6 ⟨rfl, rfl⟩)))
      refine (HN0.out _).mono ?_
      rintro e w2 ⟨v5, rfl, hok5, hb2⟩
      have HR := Lib.hid (HR.out.below hb2); have HP := Lib.hid (HP.out.below hb2); have HB := Lib.hid (below_then HB.out hb2)
      clear c0 c1 c2 c3 c4
      have HO5 := Lib.hid hok5
      clear hok5
      have c2 := HP.out.c2
      go_wp2_with fail
      refine (HN2.out _).mono ?_
      rintro e w3 ⟨v7, rfl, hok7, hb3⟩
      have HO7 := Lib.hid hok7
      clear hok7 c2
      have HR := Lib.hid (HR.out.below hb3); have HP := Lib.hid (HP.out.below hb3); have HB := Lib.hid (below_then HB.out hb3)
      have c2 := HP.out.c2
      obtain ⟨g5, cap5, rfl, hb5, hl5, q5⟩ := own1 (HO5.out (by simp))
      have c5 : w3.cell? ⟨g5, 0, none⟩ = some (.int .i64 a) := (hb3.cell (p := ⟨g5, 0, none⟩) hl5).trans q5
      have c1 := HP.out.c1; have c3 := HP.out.c3; have c4 := HP.out.c4
      clear q5
      go_upto_region 8 with (fail)
      have HR := Lib.hid HR.out.drew; have HB := Lib.hid HB.out.drew
      have c5 : w3.drew.cell? ⟨g5, 0, none⟩ = some (.int .i64 a) := c5
      have c1 : w3.drew.cell? ⟨g, 1, none⟩ = some (.string (bs x1)) := c1
      have c3 : w3.drew.cell? ⟨g, 3, none⟩ = some (.string (bs x3)) := c3
      have c4 : w3.drew.cell? ⟨g, 4, none⟩ = some (.string (bs x4)) := c4
      refine wp_region_held_drew (S := fun w' => w'.cell? ⟨g5, 0, none⟩ = some (.int .i64 a) ∧ w'.cell? ⟨g, 1, none⟩ = some (.string (bs x1)) ∧ w'.cell? ⟨g, 3, none⟩ = some (.string (bs x3)) ∧ w'.cell? ⟨g, 4, none⟩ = some (.string (bs x4))) (by kernel_rfl) ⟨c5, c1, c3, c4⟩ (fun hHeld => ?_)
      have HL := Lib.hid (And.intro (lt_of_cell c5) (lt_of_cell c1))
      have HS5 := Lib.hid (And.intro c5 (And.intro c1 (And.intro c3 c4)))
      clear c1 c2 c3 c4 c5
      generalize w3.drew = w4 at *
      refine wpAnyH_takeAt (v := ?_) (d := some 88) 0 rfl rfl (by kernel_rfl) (by kernel_rfl) (by kernel_rfl) (fun _ _ _ h => h) hHeld (by rfl) ?_ ?_
      rotate_left 1
      · (intro w' hS'; (try dsimp only at hS'); go_simp; (try with_reducible rfl))
      simp only [Act.put, List.setIfInBounds_toArray, List.set_cons_zero, List.set_cons_succ]
      refine wpAnyH_takeAt (v := ?_) (d := some 89) 1 rfl rfl (by kernel_rfl) (by kernel_rfl) (by kernel_rfl) (fun _ _ _ h => h) hHeld (by rfl) ?_ ?_
      rotate_left 1
      · (intro w' hS'; (try dsimp only at hS'); go_simp; (try with_reducible rfl))
      simp only [Act.put, List.setIfInBounds_toArray, List.set_cons_zero, List.set_cons_succ]
      refine wpAnyH_takeAt (v := ?_) (d := some 90) 2 rfl rfl (by kernel_rfl) (by kernel_rfl) (by kernel_rfl) (fun _ _ _ h => h) hHeld (by rfl) ?_ ?_
      rotate_left 1
      · (intro w' hS'; (try dsimp only at hS'); go_simp; (try with_reducible rfl))
      simp only [Act.put, List.setIfInBounds_toArray, List.set_cons_zero, List.set_cons_succ]
      refine wpAnyH_takeAt (v := ?_) (d := some 91) 3 rfl rfl (by kernel_rfl) (by kernel_rfl) (by kernel_rfl) (fun _ _ _ h => h) hHeld (by rfl) ?_ ?_
      rotate_left 1
      · (intro w' hS'; (try dsimp only at hS'); go_simp; (try with_reducible rfl))
      simp only [Act.put, List.setIfInBounds_toArray, List.set_cons_zero, List.set_cons_succ]
      refine wpAnyH_takeAt (v := ?_) (d := some 92) 4 rfl rfl (by kernel_rfl) (by kernel_rfl) (by kernel_rfl) (fun _ _ _ h => h) hHeld (by rfl) ?_ ?_
      rotate_left 1
      · (intro w' hS'; (try dsimp only at hS'); go_simp; (try with_reducible rfl))
      simp only [Act.put, List.setIfInBounds_toArray, List.set_cons_zero, List.set_cons_succ]
      refine wpAnyH_takeAt (v := ?_) (d := some 93) 5 rfl rfl (by kernel_rfl) (by kernel_rfl) (by kernel_rfl) (fun _ _ _ h => h) hHeld (by rfl) ?_ ?_
      rotate_left 1
      · (intro w' hS'; (try dsimp only at hS'); go_simp; (try with_reducible rfl))
      simp only [Act.put, List.setIfInBounds_toArray, List.set_cons_zero, List.set_cons_succ]
      refine wpAnyH_takeAt (v := ?_) (d := some 94) 6 rfl rfl (by kernel_rfl) (by kernel_rfl) (by kernel_rfl) (fun _ _ _ h => h) hHeld (by rfl) ?_ ?_
      rotate_left 1
      · (intro w' hS'; (try dsimp only at hS'); go_simp; (try with_reducible rfl))
      simp only [Act.put, List.setIfInBounds_toArray, List.set_cons_zero, List.set_cons_succ]
      refine wpAnyH_takeAt (v := ?_) (d := some 95) 7 rfl rfl (by kernel_rfl) (by kernel_rfl) (by kernel_rfl) (fun _ _ _ h => h) hHeld (by rfl) ?_ ?_
      rotate_left 1
      · (intro w' hS'; (try dsimp only at hS'); go_simp; (try with_reducible rfl))
      simp only [Act.put, List.setIfInBounds_toArray, List.set_cons_zero, List.set_cons_succ]
      refine wpAnyH_takeAt (v := ?_) (d := some 96) 8 rfl rfl (by kernel_rfl) (by kernel_rfl) (by kernel_rfl) (fun _ _ _ h => h) hHeld (by rfl) ?_ ?_
      rotate_left 1
      · (intro w' hS'; (try dsimp only at hS'); go_simp; (try with_reducible rfl))
      simp only [Act.put, List.setIfInBounds_toArray, List.set_cons_zero, List.set_cons_succ]
      refine wpAnyH_takeAt (v := ?_) (d := some 97) 9 rfl rfl (by kernel_rfl) (by kernel_rfl) (by kernel_rfl) (fun _ _ _ h => h) hHeld (by rfl) ?_ ?_
      rotate_left 1
      · (intro w' hS'; (try dsimp only at hS'); go_simp; (try with_reducible rfl))
      simp only [Act.put, List.setIfInBounds_toArray, List.set_cons_zero, List.set_cons_succ]
      refine wpAnyH_takeAt (v := ?_) (d := some 98) 10 rfl rfl (by kernel_rfl) (by kernel_rfl) (by kernel_rfl) (fun _ _ _ h => h) hHeld (by rfl) ?_ ?_
      rotate_left 1
      · (intro w' hS'; (try dsimp only at hS'); go_simp; (try with_reducible rfl))
      simp only [Act.put, List.setIfInBounds_toArray, List.set_cons_zero, List.set_cons_succ]
      refine wpAnyH_takeAt (v := ?_) (d := some 99) 11 rfl rfl (by kernel_rfl) (by kernel_rfl) (by kernel_rfl) (fun _ _ _ h => h) hHeld (by rfl) ?_ ?_
      rotate_left 1
      · (intro w' hS'; (try dsimp only at hS'); go_simp; (try with_reducible rfl))
      simp only [Act.put, List.setIfInBounds_toArray, List.set_cons_zero, List.set_cons_succ]
      refine wpAnyH_takeAt (v := ?_) (d := some 100) 12 rfl rfl (by kernel_rfl) (by kernel_rfl) (by kernel_rfl) (fun _ _ _ h => h) hHeld (by rfl) ?_ ?_
      rotate_left 1
      · (intro w' hS'; (try dsimp only at hS'); go_simp; (try with_reducible rfl))
      simp only [Act.put, List.setIfInBounds_toArray, List.set_cons_zero, List.set_cons_succ]
      have HS6 : Hid ((fun w' : World => w'.cell? ⟨g5, 0, none⟩ = some (.int .i64 a) ∧ w'.cell? ⟨g, 1, none⟩ = some (.string (bs x1)) ∧ w'.cell? ⟨g, 3, none⟩ = some (.string (bs x3)) ∧ w'.cell? ⟨g, 4, none⟩ = some (.string (bs x4))) (w4.alloc (.cells #[.int .i64 0, .string ⟨#[]⟩, .int .i64 0, .string ⟨#[]⟩, .string ⟨#[]⟩] 29))) := Lib.hid ⟨(World.cell?_alloc_lt _ _ ⟨g5, 0, none⟩ HL.out.1).trans HS5.out.1, (World.cell?_alloc_lt _ _ ⟨g, 1, none⟩ HL.out.2).trans HS5.out.2.1, (World.cell?_alloc_lt _ _ ⟨g, 3, none⟩ HL.out.2).trans HS5.out.2.2.1, (World.cell?_alloc_lt _ _ ⟨g, 4, none⟩ HL.out.2).trans HS5.out.2.2.2⟩
      refine wpAnyH_alone (d := some 9) 13 (.pointer (some ⟨w4.heap.size, 0, none⟩)) (w4.alloc (.cells #[.int .i64 0, .string ⟨#[]⟩, .int .i64 0, .string ⟨#[]⟩, .string ⟨#[]⟩] 29)) rfl rfl (by kernel_rfl) (by rfl) (by go_simp) HS6.out ?_
      simp only [Act.put, List.setIfInBounds_toArray, List.set_cons_zero, List.set_cons_succ]
      have KE := Lib.hid (Blk.fresh w4 #[.int .i64 0, .string ⟨#[]⟩, .int .i64 0, .string ⟨#[]⟩, .string ⟨#[]⟩] 29 _ rfl)
      have hER : w.heap.size < w4.heap.size := HR.out.lt
      have HL4 := Lib.hid (And.intro (show g5 ≠ w4.heap.size from Nat.ne_of_lt HL.out.1) (show g ≠ w4.heap.size from Nat.ne_of_lt HL.out.2))
      have HR := Lib.hid (HR.out.alloc (.cells #[.int .i64 0, .string ⟨#[]⟩, .int .i64 0, .string ⟨#[]⟩, .string ⟨#[]⟩] 29))
      have HB := Lib.hid (HB.out.alloc HB.out.size (.cells #[.int .i64 0, .string ⟨#[]⟩, .int .i64 0, .string ⟨#[]⟩, .string ⟨#[]⟩] 29))
      clear hHeld HS5
      generalize w4.alloc (.cells #[.int .i64 0, .string ⟨#[]⟩, .int .i64 0, .string ⟨#[]⟩, .string ⟨#[]⟩] 29) = w5 at *
      generalize w4.heap.size = E at *
      have a0 : w5.cell? ⟨E, 0, none⟩ = some (.int .i64 0) := KE.out.cell 0
      have a1 : w5.cell? ⟨E, 1, none⟩ = some (.string ⟨#[]⟩) := KE.out.cell 1
      have a2 : w5.cell? ⟨E, 2, none⟩ = some (.int .i64 0) := KE.out.cell 2
      have a3 : w5.cell? ⟨E, 3, none⟩ = some (.string ⟨#[]⟩) := KE.out.cell 3
      have a4 : w5.cell? ⟨E, 4, none⟩ = some (.string ⟨#[]⟩) := KE.out.cell 4
      have af := KE.out.free
      have HS7 := Lib.hid (held5 (E := E) (g5 := g5) (g := g) HS6.out HL4.out.1 HL4.out.2 a (bs x1) (-1) (bs x3) (bs x4))
      dsimp only [set5] at HS7
      refine wpAnyH_all (rs := [14]) (by kernel_rfl) (by simp) (fun j hj => ?_)
      obtain rfl : j = 14 := by simpa using hj
      refine wpOp_step rfl (fun K' hK => ?_)
      go_simp
      clear a0 a1 a2 a3 a4 af
      refine hK _ _ ⟨HS7.out, wpAnyH_done (by kernel_rfl) ?_ _⟩
      have KE := Lib.hid (KE.out.set5 rfl a (bs x1) (-1) (bs x3) (bs x4))
      have HR := Lib.hid (HR.out.set5_other (X := E) (by omega) a (bs x1) (-1) (bs x3) (bs x4))
      have HB := Lib.hid (set5_below HB.out (X := E) (Nat.le_of_lt hER) a (bs x1) (-1) (bs x3) (bs x4))
      dsimp only [set5] at KE HR HB
      clear HS7 HS6
      generalize (((((w5.setCell ⟨E, 0, none⟩ (.int .i64 a)).setCell ⟨E, 1, none⟩ (.string (bs x1))).setCell ⟨E, 2, none⟩ (.int .i64 (-1))).setCell ⟨E, 3, none⟩ (.string (bs x3))).setCell ⟨E, 4, none⟩ (.string (bs x4))) = w5 at *
      have a0 : w5.cell? ⟨E, 0, none⟩ = some (.int .i64 a) := KE.out.cell 0
      have a1 : w5.cell? ⟨E, 1, none⟩ = some (.string (bs x1)) := KE.out.cell 1
      have a2 : w5.cell? ⟨E, 2, none⟩ = some (.int .i64 (-1)) := KE.out.cell 2
      have a3 : w5.cell? ⟨E, 3, none⟩ = some (.string (bs x3)) := KE.out.cell 3
      have a4 : w5.cell? ⟨E, 4, none⟩ = some (.string (bs x4)) := KE.out.cell 4
      have af := KE.out.free
      have r0 : w5.cell? ⟨w.heap.size, 0, none⟩ = some (.int .i64 0) := HR.out.cell 0
      have r1 : w5.cell? ⟨w.heap.size, 1, none⟩ = some (.string ⟨#[]⟩) := HR.out.cell 1
      have r2 : w5.cell? ⟨w.heap.size, 2, none⟩ = some (.int .i64 0) := HR.out.cell 2
      have r3 : w5.cell? ⟨w.heap.size, 3, none⟩ = some (.string ⟨#[]⟩) := HR.out.cell 3
      have r4 : w5.cell? ⟨w.heap.size, 4, none⟩ = some (.string ⟨#[]⟩) := HR.out.cell 4
      have rf := HR.out.free
      have hne : E ≠ w.heap.size := by omega
      have hne2 : w.heap.size ≠ E := by omega
      have KX := Lib.hid (HR.out.set5 rfl 0 ⟨#[]⟩ 0 ⟨#[]⟩ ⟨#[]⟩)
      have KB := Lib.hid (set5_below HB.out (Nat.le_refl w.heap.size) 0 ⟨#[]⟩ 0 ⟨#[]⟩ ⟨#[]⟩)
      dsimp only [set5] at KX KB
      go_wp2_with fail
      clear a0 a1 a2 a3 a4 af r0 r1 r2 r3 r4 rf
      generalize (((((w5.setCell ⟨w.heap.size, 0, none⟩ (.int .i64 0)).setCell ⟨w.heap.size, 1, none⟩ (.string ⟨#[]⟩)).setCell ⟨w.heap.size, 2, none⟩ (.int .i64 0)).setCell ⟨w.heap.size, 3, none⟩ (.string ⟨#[]⟩)).setCell ⟨w.heap.size, 4, none⟩ (.string ⟨#[]⟩)) = ws at *
      have q := KX.out.cell; have qf := KX.out.free
      exact bodyPost_ret (v := .tuple #[.agg #[.int .i64 0, .string ⟨#[]⟩, .int .i64 0, .string ⟨#[]⟩, .string ⟨#[]⟩], .int .i64 1]) (by simp [results, Tryz.results7, go_sem, q, qf]) rfl ⟨rfl, KB.out⟩
  · obtain rfl : x3 = y3 := m3.symm
    have e3 : ((bs x3).toList == []) = false := by rw [bs_toList]; simpa using n3
    have g3 : ((bs x3).toList == [45]) = false := by rw [bs_toList]; simpa using d3
    rw [t3] at HT3
    clear n3 d3 t3
    rcases h4 with ⟨d4, m4⟩ | ⟨d4, n4, t4, m4⟩
    · subst m4
      have e4 : ((bs x4).toList == []) = false := by rw [bs_toList]; rw [d4]; rfl
      have g4 : ((bs x4).toList == [45]) = true := by rw [bs_toList]; rw [d4]; rfl
      clear d4
      go_enter Tryz.func7, Tryz.ntmps7
      go_wp2_with fail
      refine (HS.out _).mono ?_
      rintro e w1 ⟨v, rfl, hown, hb1⟩
      obtain ⟨g, cap, rfl, hg, hgl, c0, c1, c2, c3, c4⟩ := own5 hown
      have HR := Lib.hid (HR0.out.below hb1); have HB := Lib.hid (below_then HB0.out hb1)
      have HP := Lib.hid (P5.mk hgl c0 c1 c2 c3 c4)
      have hge : w.heap.size < g := by simp at hg; omega
      have HG := Lib.hid hge
      clear hown hb1 hg hgl hge
      go_wp2_with (first | (go_at_call 27; ((with_reducible refine (HW.out _).mono ?_); rintro e w6 ⟨rfl, rfl⟩)) | (go_at_call 28; ((with_reducible refine (HT3.out _).mono ?_); rintro e w6 ⟨rfl, rfl⟩)) | (go_at_call 28; ((with_reducible refine (HT4.out _).mono ?_); rintro e w6 ⟨rfl, rfl⟩)))
      refine (HN0.out _).mono ?_
      rintro e w2 ⟨v5, rfl, hok5, hb2⟩
      have HR := Lib.hid (HR.out.below hb2); have HP := Lib.hid (HP.out.below hb2); have HB := Lib.hid (below_then HB.out hb2)
      clear c0 c1 c2 c3 c4
      have HO5 := Lib.hid hok5
      clear hok5
      have c2 := HP.out.c2
      go_wp2_with fail
      refine (HN2.out _).mono ?_
      rintro e w3 ⟨v7, rfl, hok7, hb3⟩
      have HO7 := Lib.hid hok7
      clear hok7 c2
      have HR := Lib.hid (HR.out.below hb3); have HP := Lib.hid (HP.out.below hb3); have HB := Lib.hid (below_then HB.out hb3)
      have c2 := HP.out.c2
      obtain ⟨g5, cap5, rfl, hb5, hl5, q5⟩ := own1 (HO5.out (by simp))
      have c5 : w3.cell? ⟨g5, 0, none⟩ = some (.int .i64 a) := (hb3.cell (p := ⟨g5, 0, none⟩) hl5).trans q5
      have c1 := HP.out.c1; have c3 := HP.out.c3; have c4 := HP.out.c4
      clear q5
      go_upto_region 8 with (fail)
      have HR := Lib.hid HR.out.drew; have HB := Lib.hid HB.out.drew
      have c5 : w3.drew.cell? ⟨g5, 0, none⟩ = some (.int .i64 a) := c5
      have c1 : w3.drew.cell? ⟨g, 1, none⟩ = some (.string (bs x1)) := c1
      have c3 : w3.drew.cell? ⟨g, 3, none⟩ = some (.string (bs x3)) := c3
      have c4 : w3.drew.cell? ⟨g, 4, none⟩ = some (.string (bs x4)) := c4
      refine wp_region_held_drew (S := fun w' => w'.cell? ⟨g5, 0, none⟩ = some (.int .i64 a) ∧ w'.cell? ⟨g, 1, none⟩ = some (.string (bs x1)) ∧ w'.cell? ⟨g, 3, none⟩ = some (.string (bs x3)) ∧ w'.cell? ⟨g, 4, none⟩ = some (.string (bs x4))) (by kernel_rfl) ⟨c5, c1, c3, c4⟩ (fun hHeld => ?_)
      have HL := Lib.hid (And.intro (lt_of_cell c5) (lt_of_cell c1))
      have HS5 := Lib.hid (And.intro c5 (And.intro c1 (And.intro c3 c4)))
      clear c1 c2 c3 c4 c5
      generalize w3.drew = w4 at *
      refine wpAnyH_takeAt (v := ?_) (d := some 88) 0 rfl rfl (by kernel_rfl) (by kernel_rfl) (by kernel_rfl) (fun _ _ _ h => h) hHeld (by rfl) ?_ ?_
      rotate_left 1
      · (intro w' hS'; (try dsimp only at hS'); go_simp; (try with_reducible rfl))
      simp only [Act.put, List.setIfInBounds_toArray, List.set_cons_zero, List.set_cons_succ]
      refine wpAnyH_takeAt (v := ?_) (d := some 89) 1 rfl rfl (by kernel_rfl) (by kernel_rfl) (by kernel_rfl) (fun _ _ _ h => h) hHeld (by rfl) ?_ ?_
      rotate_left 1
      · (intro w' hS'; (try dsimp only at hS'); go_simp; (try with_reducible rfl))
      simp only [Act.put, List.setIfInBounds_toArray, List.set_cons_zero, List.set_cons_succ]
      refine wpAnyH_takeAt (v := ?_) (d := some 90) 2 rfl rfl (by kernel_rfl) (by kernel_rfl) (by kernel_rfl) (fun _ _ _ h => h) hHeld (by rfl) ?_ ?_
      rotate_left 1
      · (intro w' hS'; (try dsimp only at hS'); go_simp; (try with_reducible rfl))
      simp only [Act.put, List.setIfInBounds_toArray, List.set_cons_zero, List.set_cons_succ]
      refine wpAnyH_takeAt (v := ?_) (d := some 91) 3 rfl rfl (by kernel_rfl) (by kernel_rfl) (by kernel_rfl) (fun _ _ _ h => h) hHeld (by rfl) ?_ ?_
      rotate_left 1
      · (intro w' hS'; (try dsimp only at hS'); go_simp; (try with_reducible rfl))
      simp only [Act.put, List.setIfInBounds_toArray, List.set_cons_zero, List.set_cons_succ]
      refine wpAnyH_takeAt (v := ?_) (d := some 92) 4 rfl rfl (by kernel_rfl) (by kernel_rfl) (by kernel_rfl) (fun _ _ _ h => h) hHeld (by rfl) ?_ ?_
      rotate_left 1
      · (intro w' hS'; (try dsimp only at hS'); go_simp; (try with_reducible rfl))
      simp only [Act.put, List.setIfInBounds_toArray, List.set_cons_zero, List.set_cons_succ]
      refine wpAnyH_takeAt (v := ?_) (d := some 93) 5 rfl rfl (by kernel_rfl) (by kernel_rfl) (by kernel_rfl) (fun _ _ _ h => h) hHeld (by rfl) ?_ ?_
      rotate_left 1
      · (intro w' hS'; (try dsimp only at hS'); go_simp; (try with_reducible rfl))
      simp only [Act.put, List.setIfInBounds_toArray, List.set_cons_zero, List.set_cons_succ]
      refine wpAnyH_takeAt (v := ?_) (d := some 94) 6 rfl rfl (by kernel_rfl) (by kernel_rfl) (by kernel_rfl) (fun _ _ _ h => h) hHeld (by rfl) ?_ ?_
      rotate_left 1
      · (intro w' hS'; (try dsimp only at hS'); go_simp; (try with_reducible rfl))
      simp only [Act.put, List.setIfInBounds_toArray, List.set_cons_zero, List.set_cons_succ]
      refine wpAnyH_takeAt (v := ?_) (d := some 95) 7 rfl rfl (by kernel_rfl) (by kernel_rfl) (by kernel_rfl) (fun _ _ _ h => h) hHeld (by rfl) ?_ ?_
      rotate_left 1
      · (intro w' hS'; (try dsimp only at hS'); go_simp; (try with_reducible rfl))
      simp only [Act.put, List.setIfInBounds_toArray, List.set_cons_zero, List.set_cons_succ]
      refine wpAnyH_takeAt (v := ?_) (d := some 96) 8 rfl rfl (by kernel_rfl) (by kernel_rfl) (by kernel_rfl) (fun _ _ _ h => h) hHeld (by rfl) ?_ ?_
      rotate_left 1
      · (intro w' hS'; (try dsimp only at hS'); go_simp; (try with_reducible rfl))
      simp only [Act.put, List.setIfInBounds_toArray, List.set_cons_zero, List.set_cons_succ]
      refine wpAnyH_takeAt (v := ?_) (d := some 97) 9 rfl rfl (by kernel_rfl) (by kernel_rfl) (by kernel_rfl) (fun _ _ _ h => h) hHeld (by rfl) ?_ ?_
      rotate_left 1
      · (intro w' hS'; (try dsimp only at hS'); go_simp; (try with_reducible rfl))
      simp only [Act.put, List.setIfInBounds_toArray, List.set_cons_zero, List.set_cons_succ]
      refine wpAnyH_takeAt (v := ?_) (d := some 98) 10 rfl rfl (by kernel_rfl) (by kernel_rfl) (by kernel_rfl) (fun _ _ _ h => h) hHeld (by rfl) ?_ ?_
      rotate_left 1
      · (intro w' hS'; (try dsimp only at hS'); go_simp; (try with_reducible rfl))
      simp only [Act.put, List.setIfInBounds_toArray, List.set_cons_zero, List.set_cons_succ]
      refine wpAnyH_takeAt (v := ?_) (d := some 99) 11 rfl rfl (by kernel_rfl) (by kernel_rfl) (by kernel_rfl) (fun _ _ _ h => h) hHeld (by rfl) ?_ ?_
      rotate_left 1
      · (intro w' hS'; (try dsimp only at hS'); go_simp; (try with_reducible rfl))
      simp only [Act.put, List.setIfInBounds_toArray, List.set_cons_zero, List.set_cons_succ]
      refine wpAnyH_takeAt (v := ?_) (d := some 100) 12 rfl rfl (by kernel_rfl) (by kernel_rfl) (by kernel_rfl) (fun _ _ _ h => h) hHeld (by rfl) ?_ ?_
      rotate_left 1
      · (intro w' hS'; (try dsimp only at hS'); go_simp; (try with_reducible rfl))
      simp only [Act.put, List.setIfInBounds_toArray, List.set_cons_zero, List.set_cons_succ]
      have HS6 : Hid ((fun w' : World => w'.cell? ⟨g5, 0, none⟩ = some (.int .i64 a) ∧ w'.cell? ⟨g, 1, none⟩ = some (.string (bs x1)) ∧ w'.cell? ⟨g, 3, none⟩ = some (.string (bs x3)) ∧ w'.cell? ⟨g, 4, none⟩ = some (.string (bs x4))) (w4.alloc (.cells #[.int .i64 0, .string ⟨#[]⟩, .int .i64 0, .string ⟨#[]⟩, .string ⟨#[]⟩] 29))) := Lib.hid ⟨(World.cell?_alloc_lt _ _ ⟨g5, 0, none⟩ HL.out.1).trans HS5.out.1, (World.cell?_alloc_lt _ _ ⟨g, 1, none⟩ HL.out.2).trans HS5.out.2.1, (World.cell?_alloc_lt _ _ ⟨g, 3, none⟩ HL.out.2).trans HS5.out.2.2.1, (World.cell?_alloc_lt _ _ ⟨g, 4, none⟩ HL.out.2).trans HS5.out.2.2.2⟩
      refine wpAnyH_alone (d := some 9) 13 (.pointer (some ⟨w4.heap.size, 0, none⟩)) (w4.alloc (.cells #[.int .i64 0, .string ⟨#[]⟩, .int .i64 0, .string ⟨#[]⟩, .string ⟨#[]⟩] 29)) rfl rfl (by kernel_rfl) (by rfl) (by go_simp) HS6.out ?_
      simp only [Act.put, List.setIfInBounds_toArray, List.set_cons_zero, List.set_cons_succ]
      have KE := Lib.hid (Blk.fresh w4 #[.int .i64 0, .string ⟨#[]⟩, .int .i64 0, .string ⟨#[]⟩, .string ⟨#[]⟩] 29 _ rfl)
      have hER : w.heap.size < w4.heap.size := HR.out.lt
      have HL4 := Lib.hid (And.intro (show g5 ≠ w4.heap.size from Nat.ne_of_lt HL.out.1) (show g ≠ w4.heap.size from Nat.ne_of_lt HL.out.2))
      have HR := Lib.hid (HR.out.alloc (.cells #[.int .i64 0, .string ⟨#[]⟩, .int .i64 0, .string ⟨#[]⟩, .string ⟨#[]⟩] 29))
      have HB := Lib.hid (HB.out.alloc HB.out.size (.cells #[.int .i64 0, .string ⟨#[]⟩, .int .i64 0, .string ⟨#[]⟩, .string ⟨#[]⟩] 29))
      clear hHeld HS5
      generalize w4.alloc (.cells #[.int .i64 0, .string ⟨#[]⟩, .int .i64 0, .string ⟨#[]⟩, .string ⟨#[]⟩] 29) = w5 at *
      generalize w4.heap.size = E at *
      have a0 : w5.cell? ⟨E, 0, none⟩ = some (.int .i64 0) := KE.out.cell 0
      have a1 : w5.cell? ⟨E, 1, none⟩ = some (.string ⟨#[]⟩) := KE.out.cell 1
      have a2 : w5.cell? ⟨E, 2, none⟩ = some (.int .i64 0) := KE.out.cell 2
      have a3 : w5.cell? ⟨E, 3, none⟩ = some (.string ⟨#[]⟩) := KE.out.cell 3
      have a4 : w5.cell? ⟨E, 4, none⟩ = some (.string ⟨#[]⟩) := KE.out.cell 4
      have af := KE.out.free
      have HS7 := Lib.hid (held5 (E := E) (g5 := g5) (g := g) HS6.out HL4.out.1 HL4.out.2 a (bs x1) (-1) (bs x3) (bs x4))
      dsimp only [set5] at HS7
      refine wpAnyH_all (rs := [14]) (by kernel_rfl) (by simp) (fun j hj => ?_)
      obtain rfl : j = 14 := by simpa using hj
      refine wpOp_step rfl (fun K' hK => ?_)
      go_simp
      clear a0 a1 a2 a3 a4 af
      refine hK _ _ ⟨HS7.out, wpAnyH_done (by kernel_rfl) ?_ _⟩
      have KE := Lib.hid (KE.out.set5 rfl a (bs x1) (-1) (bs x3) (bs x4))
      have HR := Lib.hid (HR.out.set5_other (X := E) (by omega) a (bs x1) (-1) (bs x3) (bs x4))
      have HB := Lib.hid (set5_below HB.out (X := E) (Nat.le_of_lt hER) a (bs x1) (-1) (bs x3) (bs x4))
      dsimp only [set5] at KE HR HB
      clear HS7 HS6
      generalize (((((w5.setCell ⟨E, 0, none⟩ (.int .i64 a)).setCell ⟨E, 1, none⟩ (.string (bs x1))).setCell ⟨E, 2, none⟩ (.int .i64 (-1))).setCell ⟨E, 3, none⟩ (.string (bs x3))).setCell ⟨E, 4, none⟩ (.string (bs x4))) = w5 at *
      have a0 : w5.cell? ⟨E, 0, none⟩ = some (.int .i64 a) := KE.out.cell 0
      have a1 : w5.cell? ⟨E, 1, none⟩ = some (.string (bs x1)) := KE.out.cell 1
      have a2 : w5.cell? ⟨E, 2, none⟩ = some (.int .i64 (-1)) := KE.out.cell 2
      have a3 : w5.cell? ⟨E, 3, none⟩ = some (.string (bs x3)) := KE.out.cell 3
      have a4 : w5.cell? ⟨E, 4, none⟩ = some (.string (bs x4)) := KE.out.cell 4
      have af := KE.out.free
      have r0 : w5.cell? ⟨w.heap.size, 0, none⟩ = some (.int .i64 0) := HR.out.cell 0
      have r1 : w5.cell? ⟨w.heap.size, 1, none⟩ = some (.string ⟨#[]⟩) := HR.out.cell 1
      have r2 : w5.cell? ⟨w.heap.size, 2, none⟩ = some (.int .i64 0) := HR.out.cell 2
      have r3 : w5.cell? ⟨w.heap.size, 3, none⟩ = some (.string ⟨#[]⟩) := HR.out.cell 3
      have r4 : w5.cell? ⟨w.heap.size, 4, none⟩ = some (.string ⟨#[]⟩) := HR.out.cell 4
      have rf := HR.out.free
      have hne : E ≠ w.heap.size := by omega
      have hne2 : w.heap.size ≠ E := by omega
      have KX := Lib.hid (HR.out.set5 rfl 0 ⟨#[]⟩ 0 ⟨#[]⟩ ⟨#[]⟩)
      have KB := Lib.hid (set5_below HB.out (Nat.le_refl w.heap.size) 0 ⟨#[]⟩ 0 ⟨#[]⟩ ⟨#[]⟩)
      dsimp only [set5] at KX KB
      go_wp2_with fail
      clear a0 a1 a2 a3 a4 af r0 r1 r2 r3 r4 rf
      generalize (((((w5.setCell ⟨w.heap.size, 0, none⟩ (.int .i64 0)).setCell ⟨w.heap.size, 1, none⟩ (.string ⟨#[]⟩)).setCell ⟨w.heap.size, 2, none⟩ (.int .i64 0)).setCell ⟨w.heap.size, 3, none⟩ (.string ⟨#[]⟩)).setCell ⟨w.heap.size, 4, none⟩ (.string ⟨#[]⟩)) = ws at *
      have q := KX.out.cell; have qf := KX.out.free
      exact bodyPost_ret (v := .tuple #[.agg #[.int .i64 0, .string ⟨#[]⟩, .int .i64 0, .string ⟨#[]⟩, .string ⟨#[]⟩], .int .i64 1]) (by simp [results, Tryz.results7, go_sem, q, qf]) rfl ⟨rfl, KB.out⟩
    · obtain rfl : x4 = y4 := m4.symm
      have e4 : ((bs x4).toList == []) = false := by rw [bs_toList]; simpa using n4
      have g4 : ((bs x4).toList == [45]) = false := by rw [bs_toList]; simpa using d4
      rw [t4] at HT4
      clear n4 d4 t4
      go_enter Tryz.func7, Tryz.ntmps7
      go_wp2_with fail
      refine (HS.out _).mono ?_
      rintro e w1 ⟨v, rfl, hown, hb1⟩
      obtain ⟨g, cap, rfl, hg, hgl, c0, c1, c2, c3, c4⟩ := own5 hown
      have HR := Lib.hid (HR0.out.below hb1); have HB := Lib.hid (below_then HB0.out hb1)
      have HP := Lib.hid (P5.mk hgl c0 c1 c2 c3 c4)
      have hge : w.heap.size < g := by simp at hg; omega
      have HG := Lib.hid hge
      clear hown hb1 hg hgl hge
      go_wp2_with (first | (go_at_call 27; ((with_reducible refine (HW.out _).mono ?_); rintro e w6 ⟨rfl, rfl⟩)) | (go_at_call 28; ((with_reducible refine (HT3.out _).mono ?_); rintro e w6 ⟨rfl, rfl⟩)) | (go_at_call 28; ((with_reducible refine (HT4.out _).mono ?_); rintro e w6 ⟨rfl, rfl⟩)))
      refine (HN0.out _).mono ?_
      rintro e w2 ⟨v5, rfl, hok5, hb2⟩
      have HR := Lib.hid (HR.out.below hb2); have HP := Lib.hid (HP.out.below hb2); have HB := Lib.hid (below_then HB.out hb2)
      clear c0 c1 c2 c3 c4
      have HO5 := Lib.hid hok5
      clear hok5
      have c2 := HP.out.c2
      go_wp2_with fail
      refine (HN2.out _).mono ?_
      rintro e w3 ⟨v7, rfl, hok7, hb3⟩
      have HO7 := Lib.hid hok7
      clear hok7 c2
      have HR := Lib.hid (HR.out.below hb3); have HP := Lib.hid (HP.out.below hb3); have HB := Lib.hid (below_then HB.out hb3)
      have c2 := HP.out.c2
      obtain ⟨g5, cap5, rfl, hb5, hl5, q5⟩ := own1 (HO5.out (by simp))
      have c5 : w3.cell? ⟨g5, 0, none⟩ = some (.int .i64 a) := (hb3.cell (p := ⟨g5, 0, none⟩) hl5).trans q5
      have c1 := HP.out.c1; have c3 := HP.out.c3; have c4 := HP.out.c4
      clear q5
      go_upto_region 8 with (fail)
      have HR := Lib.hid HR.out.drew; have HB := Lib.hid HB.out.drew
      have c5 : w3.drew.cell? ⟨g5, 0, none⟩ = some (.int .i64 a) := c5
      have c1 : w3.drew.cell? ⟨g, 1, none⟩ = some (.string (bs x1)) := c1
      have c3 : w3.drew.cell? ⟨g, 3, none⟩ = some (.string (bs x3)) := c3
      have c4 : w3.drew.cell? ⟨g, 4, none⟩ = some (.string (bs x4)) := c4
      refine wp_region_held_drew (S := fun w' => w'.cell? ⟨g5, 0, none⟩ = some (.int .i64 a) ∧ w'.cell? ⟨g, 1, none⟩ = some (.string (bs x1)) ∧ w'.cell? ⟨g, 3, none⟩ = some (.string (bs x3)) ∧ w'.cell? ⟨g, 4, none⟩ = some (.string (bs x4))) (by kernel_rfl) ⟨c5, c1, c3, c4⟩ (fun hHeld => ?_)
      have HL := Lib.hid (And.intro (lt_of_cell c5) (lt_of_cell c1))
      have HS5 := Lib.hid (And.intro c5 (And.intro c1 (And.intro c3 c4)))
      clear c1 c2 c3 c4 c5
      generalize w3.drew = w4 at *
      refine wpAnyH_takeAt (v := ?_) (d := some 88) 0 rfl rfl (by kernel_rfl) (by kernel_rfl) (by kernel_rfl) (fun _ _ _ h => h) hHeld (by rfl) ?_ ?_
      rotate_left 1
      · (intro w' hS'; (try dsimp only at hS'); go_simp; (try with_reducible rfl))
      simp only [Act.put, List.setIfInBounds_toArray, List.set_cons_zero, List.set_cons_succ]
      refine wpAnyH_takeAt (v := ?_) (d := some 89) 1 rfl rfl (by kernel_rfl) (by kernel_rfl) (by kernel_rfl) (fun _ _ _ h => h) hHeld (by rfl) ?_ ?_
      rotate_left 1
      · (intro w' hS'; (try dsimp only at hS'); go_simp; (try with_reducible rfl))
      simp only [Act.put, List.setIfInBounds_toArray, List.set_cons_zero, List.set_cons_succ]
      refine wpAnyH_takeAt (v := ?_) (d := some 90) 2 rfl rfl (by kernel_rfl) (by kernel_rfl) (by kernel_rfl) (fun _ _ _ h => h) hHeld (by rfl) ?_ ?_
      rotate_left 1
      · (intro w' hS'; (try dsimp only at hS'); go_simp; (try with_reducible rfl))
      simp only [Act.put, List.setIfInBounds_toArray, List.set_cons_zero, List.set_cons_succ]
      refine wpAnyH_takeAt (v := ?_) (d := some 91) 3 rfl rfl (by kernel_rfl) (by kernel_rfl) (by kernel_rfl) (fun _ _ _ h => h) hHeld (by rfl) ?_ ?_
      rotate_left 1
      · (intro w' hS'; (try dsimp only at hS'); go_simp; (try with_reducible rfl))
      simp only [Act.put, List.setIfInBounds_toArray, List.set_cons_zero, List.set_cons_succ]
      refine wpAnyH_takeAt (v := ?_) (d := some 92) 4 rfl rfl (by kernel_rfl) (by kernel_rfl) (by kernel_rfl) (fun _ _ _ h => h) hHeld (by rfl) ?_ ?_
      rotate_left 1
      · (intro w' hS'; (try dsimp only at hS'); go_simp; (try with_reducible rfl))
      simp only [Act.put, List.setIfInBounds_toArray, List.set_cons_zero, List.set_cons_succ]
      refine wpAnyH_takeAt (v := ?_) (d := some 93) 5 rfl rfl (by kernel_rfl) (by kernel_rfl) (by kernel_rfl) (fun _ _ _ h => h) hHeld (by rfl) ?_ ?_
      rotate_left 1
      · (intro w' hS'; (try dsimp only at hS'); go_simp; (try with_reducible rfl))
      simp only [Act.put, List.setIfInBounds_toArray, List.set_cons_zero, List.set_cons_succ]
      refine wpAnyH_takeAt (v := ?_) (d := some 94) 6 rfl rfl (by kernel_rfl) (by kernel_rfl) (by kernel_rfl) (fun _ _ _ h => h) hHeld (by rfl) ?_ ?_
      rotate_left 1
      · (intro w' hS'; (try dsimp only at hS'); go_simp; (try with_reducible rfl))
      simp only [Act.put, List.setIfInBounds_toArray, List.set_cons_zero, List.set_cons_succ]
      refine wpAnyH_takeAt (v := ?_) (d := some 95) 7 rfl rfl (by kernel_rfl) (by kernel_rfl) (by kernel_rfl) (fun _ _ _ h => h) hHeld (by rfl) ?_ ?_
      rotate_left 1
      · (intro w' hS'; (try dsimp only at hS'); go_simp; (try with_reducible rfl))
      simp only [Act.put, List.setIfInBounds_toArray, List.set_cons_zero, List.set_cons_succ]
      refine wpAnyH_takeAt (v := ?_) (d := some 96) 8 rfl rfl (by kernel_rfl) (by kernel_rfl) (by kernel_rfl) (fun _ _ _ h => h) hHeld (by rfl) ?_ ?_
      rotate_left 1
      · (intro w' hS'; (try dsimp only at hS'); go_simp; (try with_reducible rfl))
      simp only [Act.put, List.setIfInBounds_toArray, List.set_cons_zero, List.set_cons_succ]
      refine wpAnyH_takeAt (v := ?_) (d := some 97) 9 rfl rfl (by kernel_rfl) (by kernel_rfl) (by kernel_rfl) (fun _ _ _ h => h) hHeld (by rfl) ?_ ?_
      rotate_left 1
      · (intro w' hS'; (try dsimp only at hS'); go_simp; (try with_reducible rfl))
      simp only [Act.put, List.setIfInBounds_toArray, List.set_cons_zero, List.set_cons_succ]
      refine wpAnyH_takeAt (v := ?_) (d := some 98) 10 rfl rfl (by kernel_rfl) (by kernel_rfl) (by kernel_rfl) (fun _ _ _ h => h) hHeld (by rfl) ?_ ?_
      rotate_left 1
      · (intro w' hS'; (try dsimp only at hS'); go_simp; (try with_reducible rfl))
      simp only [Act.put, List.setIfInBounds_toArray, List.set_cons_zero, List.set_cons_succ]
      refine wpAnyH_takeAt (v := ?_) (d := some 99) 11 rfl rfl (by kernel_rfl) (by kernel_rfl) (by kernel_rfl) (fun _ _ _ h => h) hHeld (by rfl) ?_ ?_
      rotate_left 1
      · (intro w' hS'; (try dsimp only at hS'); go_simp; (try with_reducible rfl))
      simp only [Act.put, List.setIfInBounds_toArray, List.set_cons_zero, List.set_cons_succ]
      refine wpAnyH_takeAt (v := ?_) (d := some 100) 12 rfl rfl (by kernel_rfl) (by kernel_rfl) (by kernel_rfl) (fun _ _ _ h => h) hHeld (by rfl) ?_ ?_
      rotate_left 1
      · (intro w' hS'; (try dsimp only at hS'); go_simp; (try with_reducible rfl))
      simp only [Act.put, List.setIfInBounds_toArray, List.set_cons_zero, List.set_cons_succ]
      have HS6 : Hid ((fun w' : World => w'.cell? ⟨g5, 0, none⟩ = some (.int .i64 a) ∧ w'.cell? ⟨g, 1, none⟩ = some (.string (bs x1)) ∧ w'.cell? ⟨g, 3, none⟩ = some (.string (bs x3)) ∧ w'.cell? ⟨g, 4, none⟩ = some (.string (bs x4))) (w4.alloc (.cells #[.int .i64 0, .string ⟨#[]⟩, .int .i64 0, .string ⟨#[]⟩, .string ⟨#[]⟩] 29))) := Lib.hid ⟨(World.cell?_alloc_lt _ _ ⟨g5, 0, none⟩ HL.out.1).trans HS5.out.1, (World.cell?_alloc_lt _ _ ⟨g, 1, none⟩ HL.out.2).trans HS5.out.2.1, (World.cell?_alloc_lt _ _ ⟨g, 3, none⟩ HL.out.2).trans HS5.out.2.2.1, (World.cell?_alloc_lt _ _ ⟨g, 4, none⟩ HL.out.2).trans HS5.out.2.2.2⟩
      refine wpAnyH_alone (d := some 9) 13 (.pointer (some ⟨w4.heap.size, 0, none⟩)) (w4.alloc (.cells #[.int .i64 0, .string ⟨#[]⟩, .int .i64 0, .string ⟨#[]⟩, .string ⟨#[]⟩] 29)) rfl rfl (by kernel_rfl) (by rfl) (by go_simp) HS6.out ?_
      simp only [Act.put, List.setIfInBounds_toArray, List.set_cons_zero, List.set_cons_succ]
      have KE := Lib.hid (Blk.fresh w4 #[.int .i64 0, .string ⟨#[]⟩, .int .i64 0, .string ⟨#[]⟩, .string ⟨#[]⟩] 29 _ rfl)
      have hER : w.heap.size < w4.heap.size := HR.out.lt
      have HL4 := Lib.hid (And.intro (show g5 ≠ w4.heap.size from Nat.ne_of_lt HL.out.1) (show g ≠ w4.heap.size from Nat.ne_of_lt HL.out.2))
      have HR := Lib.hid (HR.out.alloc (.cells #[.int .i64 0, .string ⟨#[]⟩, .int .i64 0, .string ⟨#[]⟩, .string ⟨#[]⟩] 29))
      have HB := Lib.hid (HB.out.alloc HB.out.size (.cells #[.int .i64 0, .string ⟨#[]⟩, .int .i64 0, .string ⟨#[]⟩, .string ⟨#[]⟩] 29))
      clear hHeld HS5
      generalize w4.alloc (.cells #[.int .i64 0, .string ⟨#[]⟩, .int .i64 0, .string ⟨#[]⟩, .string ⟨#[]⟩] 29) = w5 at *
      generalize w4.heap.size = E at *
      have a0 : w5.cell? ⟨E, 0, none⟩ = some (.int .i64 0) := KE.out.cell 0
      have a1 : w5.cell? ⟨E, 1, none⟩ = some (.string ⟨#[]⟩) := KE.out.cell 1
      have a2 : w5.cell? ⟨E, 2, none⟩ = some (.int .i64 0) := KE.out.cell 2
      have a3 : w5.cell? ⟨E, 3, none⟩ = some (.string ⟨#[]⟩) := KE.out.cell 3
      have a4 : w5.cell? ⟨E, 4, none⟩ = some (.string ⟨#[]⟩) := KE.out.cell 4
      have af := KE.out.free
      have HS7 := Lib.hid (held5 (E := E) (g5 := g5) (g := g) HS6.out HL4.out.1 HL4.out.2 a (bs x1) (-1) (bs x3) (bs x4))
      dsimp only [set5] at HS7
      refine wpAnyH_all (rs := [14]) (by kernel_rfl) (by simp) (fun j hj => ?_)
      obtain rfl : j = 14 := by simpa using hj
      refine wpOp_step rfl (fun K' hK => ?_)
      go_simp
      clear a0 a1 a2 a3 a4 af
      refine hK _ _ ⟨HS7.out, wpAnyH_done (by kernel_rfl) ?_ _⟩
      have KE := Lib.hid (KE.out.set5 rfl a (bs x1) (-1) (bs x3) (bs x4))
      have HR := Lib.hid (HR.out.set5_other (X := E) (by omega) a (bs x1) (-1) (bs x3) (bs x4))
      have HB := Lib.hid (set5_below HB.out (X := E) (Nat.le_of_lt hER) a (bs x1) (-1) (bs x3) (bs x4))
      dsimp only [set5] at KE HR HB
      clear HS7 HS6
      generalize (((((w5.setCell ⟨E, 0, none⟩ (.int .i64 a)).setCell ⟨E, 1, none⟩ (.string (bs x1))).setCell ⟨E, 2, none⟩ (.int .i64 (-1))).setCell ⟨E, 3, none⟩ (.string (bs x3))).setCell ⟨E, 4, none⟩ (.string (bs x4))) = w5 at *
      have a0 : w5.cell? ⟨E, 0, none⟩ = some (.int .i64 a) := KE.out.cell 0
      have a1 : w5.cell? ⟨E, 1, none⟩ = some (.string (bs x1)) := KE.out.cell 1
      have a2 : w5.cell? ⟨E, 2, none⟩ = some (.int .i64 (-1)) := KE.out.cell 2
      have a3 : w5.cell? ⟨E, 3, none⟩ = some (.string (bs x3)) := KE.out.cell 3
      have a4 : w5.cell? ⟨E, 4, none⟩ = some (.string (bs x4)) := KE.out.cell 4
      have af := KE.out.free
      have r0 : w5.cell? ⟨w.heap.size, 0, none⟩ = some (.int .i64 0) := HR.out.cell 0
      have r1 : w5.cell? ⟨w.heap.size, 1, none⟩ = some (.string ⟨#[]⟩) := HR.out.cell 1
      have r2 : w5.cell? ⟨w.heap.size, 2, none⟩ = some (.int .i64 0) := HR.out.cell 2
      have r3 : w5.cell? ⟨w.heap.size, 3, none⟩ = some (.string ⟨#[]⟩) := HR.out.cell 3
      have r4 : w5.cell? ⟨w.heap.size, 4, none⟩ = some (.string ⟨#[]⟩) := HR.out.cell 4
      have rf := HR.out.free
      have hne : E ≠ w.heap.size := by omega
      have hne2 : w.heap.size ≠ E := by omega
      have KX := Lib.hid (HR.out.set5 rfl 0 ⟨#[]⟩ 0 ⟨#[]⟩ ⟨#[]⟩)
      have KB := Lib.hid (set5_below HB.out (Nat.le_refl w.heap.size) 0 ⟨#[]⟩ 0 ⟨#[]⟩ ⟨#[]⟩)
      dsimp only [set5] at KX KB
      go_wp2_with fail
      clear a0 a1 a2 a3 a4 af r0 r1 r2 r3 r4 rf
      generalize (((((w5.setCell ⟨w.heap.size, 0, none⟩ (.int .i64 0)).setCell ⟨w.heap.size, 1, none⟩ (.string ⟨#[]⟩)).setCell ⟨w.heap.size, 2, none⟩ (.int .i64 0)).setCell ⟨w.heap.size, 3, none⟩ (.string ⟨#[]⟩)).setCell ⟨w.heap.size, 4, none⟩ (.string ⟨#[]⟩)) = ws at *
      have q := KX.out.cell; have qf := KX.out.free
      exact bodyPost_ret (v := .tuple #[.agg #[.int .i64 0, .string ⟨#[]⟩, .int .i64 0, .string ⟨#[]⟩, .string ⟨#[]⟩], .int .i64 1]) (by simp [results, Tryz.results7, go_sem, q, qf]) rfl ⟨rfl, KB.out⟩
end Go.Proofs.YthjdaehiebcoaaaGreatDoor
