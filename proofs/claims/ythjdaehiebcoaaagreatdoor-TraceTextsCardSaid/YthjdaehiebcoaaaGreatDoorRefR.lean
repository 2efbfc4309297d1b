/- The walk of liaisonref27.Parse: lines whose form is wrong. -/
import Derived.Test.YthjdaehiebcoaaaGreatDoorRows
import Derived.WalkKit
import Derived.WalkSpells
import Derived.WalkLawsBesides
import Derived.BigQuiet
import Derived.Deep.QuietTactic
import Derived.StillTailTactics
import Derived.Handy
import Derived.Lib.Hide
import Derived.Test.YthjdaehiebcoaaaGreatDoorRefQ
import Derived.Test.YthjdaehiebcoaaaGreatDoorTrcI
set_option linter.unusedSimpArgs false
set_option linter.unusedVariables false
namespace Go.Proofs.YthjdaehiebcoaaaGreatDoor
open Go.RowKit

/-- five texts of a slice of its own -/
theorem own5 {B : Nat} {v : Value} {x0 x1 x2 x3 x4 : Str} {w : World} (h : OwnT B v [x0, x1, x2, x3, x4] w) : ∃ g cap, v = .slice (some ⟨g, 0, none⟩) 5 cap ∧ B ≤ g ∧ g < w.heap.size ∧
    w.cell? ⟨g, 0, none⟩ = some (.string (bs x0)) ∧ w.cell? ⟨g, 1, none⟩ = some (.string (bs x1)) ∧ w.cell? ⟨g, 2, none⟩ = some (.string (bs x2)) ∧ w.cell? ⟨g, 3, none⟩ = some (.string (bs x3)) ∧ w.cell? ⟨g, 4, none⟩ = some (.string (bs x4)) := by
  obtain ⟨g, cap, hv, hb, hlt⟩ := World.ownsRow.form h (by simp)
  have hc := World.ownsRow.cells (g := g) h (by rw [hv]; rfl)
  refine ⟨g, cap, hv, hb, hlt, ?_, ?_, ?_, ?_, ?_⟩
  · exact hc 0 _ rfl
  · exact hc 1 _ rfl
  · exact hc 2 _ rfl
  · exact hc 3 _ rfl
  · exact hc 4 _ rfl
/-- a piece that may stand in a line -/
def okPiece (x : Str) : Bool := !(x == []) && (x == [45] || tText x)
theorem piece_eq (x : Str) : (x == [45] || !(x == []) && tText x) = okPiece x := by
  unfold okPiece
  by_cases h : x = []
  · subst h; rfl
  · by_cases h2 : x = [45]
    · subst h2; rfl
    · have e1 : (x == [45]) = false := by simpa using h2
      have e2 : (x == []) = false := by simpa using h
      rw [e1, e2]; cases tText x <;> rfl
abbrev evZero : Value := .agg #[.int .i64 0, .string ⟨#[]⟩, .int .i64 0, .string ⟨#[]⟩, .string ⟨#[]⟩]
theorem MakesT.out {xs : List Str} {w w' : World} {e : Ending} (h : MakesT xs w e w') : ∃ v, e = .returned v ∧ OwnT w.heap.size v xs w' ∧ Below w.heap.size w w' := h
theorem own_len {B : Nat} {v : Value} {xs : List Str} {w : World} (h : OwnT B v xs w) : ∃ a cap, v = .slice a xs.length cap := row_slice (xs := strs xs) h
set_option maxHeartbeats 1000000 in
theorem rparse_len (s : Str) (hs : s.length ≤ 100000) (hl : (pieces s).length ≠ 5) (w : World) :
    Calls Tryz.prog 7 #[.string (bs s)] w (Makes (.tuple #[evZero, .int .i64 4]) w) := by
  have HS := Lib.hid (fun W => rsplit_of s hs W)
  have HR0 := Lib.hid (Blk.fresh w evZ 29 _ rfl)
  have HB0 := Lib.hid ((Below.refl w.heap.size w).alloc (Nat.le_refl _) (.cells evZ 29))
  have hne : (((pieces s).length : Int) != 5) = true := by rw [bne_iff_ne]; omega
  have HNE := Lib.hid hne
  clear hne hs hl
  go_enter Tryz.func7, Tryz.ntmps7
  go_wp2_with fail
  refine (HS.out _).mono ?_
  rintro e w1 ⟨v, rfl, hown, hb1⟩
  obtain ⟨a, cap, rfl⟩ := own_len hown
  have HR := Lib.hid (HR0.out.below hb1); have HB := Lib.hid (below_then HB0.out hb1)
  clear hown hb1
  obtain ⟨n, hn⟩ : ∃ n, n = (pieces s).length := ⟨_, rfl⟩
  rw [← hn] at HNE ⊢
  have hne := HNE.out
  clear hn
  have KX := Lib.hid (HR.out.set5 rfl 0 ⟨#[]⟩ 0 ⟨#[]⟩ ⟨#[]⟩)
  have KB := Lib.hid (set5_below HB.out (Nat.le_refl w.heap.size) 0 ⟨#[]⟩ 0 ⟨#[]⟩ ⟨#[]⟩)
  have r0 : w1.cell? ⟨w.heap.size, 0, none⟩ = some (.int .i64 0) := HR.out.cell 0
  have r1 : w1.cell? ⟨w.heap.size, 1, none⟩ = some (.string ⟨#[]⟩) := HR.out.cell 1
  have r2 : w1.cell? ⟨w.heap.size, 2, none⟩ = some (.int .i64 0) := HR.out.cell 2
  have r3 : w1.cell? ⟨w.heap.size, 3, none⟩ = some (.string ⟨#[]⟩) := HR.out.cell 3
  have r4 : w1.cell? ⟨w.heap.size, 4, none⟩ = some (.string ⟨#[]⟩) := HR.out.cell 4
  have r5 := HR.out.free
  dsimp only [set5] at KX KB
  go_wp2_with fail
  clear r0 r1 r2 r3 r4 r5
  generalize (((((w1.setCell ⟨w.heap.size, 0, none⟩ (.int .i64 0)).setCell ⟨w.heap.size, 1, none⟩ (.string ⟨#[]⟩)).setCell ⟨w.heap.size, 2, none⟩ (.int .i64 0)).setCell ⟨w.heap.size, 3, none⟩ (.string ⟨#[]⟩)).setCell ⟨w.heap.size, 4, none⟩ (.string ⟨#[]⟩)) = ws at *
  have q := KX.out.cell; have qf := KX.out.free
  exact bodyPost_ret (v := .tuple #[.agg #[.int .i64 0, .string ⟨#[]⟩, .int .i64 0, .string ⟨#[]⟩, .string ⟨#[]⟩], .int .i64 4]) (by simp [results, Tryz.results7, go_sem, q, qf]) rfl ⟨rfl, KB.out⟩
set_option maxHeartbeats 1000000 in
theorem rparse_form (s x0 x1 x2 x3 x4 : Str) (hs : s.length ≤ 100000) (hl : pieces s = [x0, x1, x2, x3, x4]) (hz : x3.length ≤ 100000 ∧ x4.length ≤ 100000) (hc : (tWord x1 && okPiece x3 && okPiece x4) = false) (w : World) :
    Calls Tryz.prog 7 #[.string (bs s)] w (Makes (.tuple #[evZero, .int .i64 4]) w) := by
  have HS := Lib.hid (fun W => hl ▸ rsplit_of s hs W)
  have HR0 := Lib.hid (Blk.fresh w evZ 29 _ rfl)
  have HB0 := Lib.hid ((Below.refl w.heap.size w).alloc (Nat.le_refl _) (.cells evZ 29))
  have HW := Lib.hid (fun W => rword_of x1 W)
  have HT3 := Lib.hid (fun W => rtext_of x3 hz.1 W)
  have HT4 := Lib.hid (fun W => rtext_of x4 hz.2 W)
  clear hs hl hz
  have hcase : tWord x1 = false ∨ (tWord x1 = true ∧ x3 = []) ∨ (tWord x1 = true ∧ x3 ≠ [] ∧ x4 = []) ∨ (tWord x1 = true ∧ x3 ≠ [] ∧ x4 ≠ [] ∧ x3 ≠ [45] ∧ tText x3 = false) ∨
      (tWord x1 = true ∧ x3 ≠ [] ∧ x4 ≠ [] ∧ (x3 = [45] ∨ x3 ≠ [45] ∧ tText x3 = true) ∧ x4 ≠ [45] ∧ tText x4 = false) := by
    cases h1 : tWord x1 with
    | false => exact .inl rfl
    | true =>
      rw [h1] at hc
      right
      by_cases h3 : x3 = []
      · exact .inl ⟨rfl, h3⟩
      · right
        by_cases h4 : x4 = []
        · exact .inl ⟨rfl, h3, h4⟩
        · right
          by_cases g3 : x3 = [45]
          · right
            subst g3
            refine ⟨rfl, h3, h4, .inl rfl, ?_⟩
            by_cases g4 : x4 = [45]
            · subst g4; exact absurd hc (by decide)
            · refine ⟨g4, ?_⟩
              have e : okPiece [45] = true := rfl
              rw [e] at hc
              unfold okPiece at hc
              simpa [h4, g4] using hc
          · cases t3 : tText x3 with
            | false => exact .inl ⟨rfl, h3, h4, g3, rfl⟩
            | true =>
              right
              have e : okPiece x3 = true := by unfold okPiece; simp [h3, t3]
              rw [e] at hc
              refine ⟨rfl, h3, h4, .inr ⟨g3, rfl⟩, ?_⟩
              by_cases g4 : x4 = [45]
              · subst g4; exact absurd hc (by decide)
              · refine ⟨g4, ?_⟩
                unfold okPiece at hc
                simpa [h4, g4] using hc
  clear hc
  go_enter Tryz.func7, Tryz.ntmps7
  go_wp2_with fail
  refine (HS.out _).mono ?_
  rintro e w1 ⟨v, rfl, hown, hb1⟩
  obtain ⟨g, cap, rfl, hg, hgl, c0, c1, c2, c3, c4⟩ := own5 hown
  have HR := Lib.hid (HR0.out.below hb1); have HB := Lib.hid (below_then HB0.out hb1)
  have hge : w.heap.size < g := by simp at hg; omega
  have HG := Lib.hid hge
  clear hown hb1 hg hgl hge
  rcases hcase with h1 | ⟨h1, h3⟩ | ⟨h1, h3, h4⟩ | ⟨h1, h3, h4, g3, t3⟩ | ⟨h1, h3, h4, g3 | ⟨g3, t3⟩, g4, t4⟩
  · rw [h1] at HW
    clear h1
    have KX := Lib.hid (HR.out.set5 rfl 0 ⟨#[]⟩ 0 ⟨#[]⟩ ⟨#[]⟩)
    have KB := Lib.hid (set5_below HB.out (Nat.le_refl w.heap.size) 0 ⟨#[]⟩ 0 ⟨#[]⟩ ⟨#[]⟩)
    have r0 : w1.cell? ⟨w.heap.size, 0, none⟩ = some (.int .i64 0) := HR.out.cell 0
    have r1 : w1.cell? ⟨w.heap.size, 1, none⟩ = some (.string ⟨#[]⟩) := HR.out.cell 1
    have r2 : w1.cell? ⟨w.heap.size, 2, none⟩ = some (.int .i64 0) := HR.out.cell 2
    have r3 : w1.cell? ⟨w.heap.size, 3, none⟩ = some (.string ⟨#[]⟩) := HR.out.cell 3
    have r4 : w1.cell? ⟨w.heap.size, 4, none⟩ = some (.string ⟨#[]⟩) := HR.out.cell 4
    have r5 := HR.out.free
    dsimp only [set5] at KX KB
    go_wp2_with (first | (go_at_call 27; ((with_reducible refine (HW.out _).mono ?_); rintro e w6 ⟨rfl, rfl⟩)) | (go_at_call 28; ((with_reducible refine (HT3.out _).mono ?_); rintro e w6 ⟨rfl, rfl⟩)) | (go_at_call 28; ((with_reducible refine (HT4.out _).mono ?_); rintro e w6 ⟨rfl, rfl⟩)))
    clear r0 r1 r2 r3 r4 r5
    generalize (((((w1.setCell ⟨w.heap.size, 0, none⟩ (.int .i64 0)).setCell ⟨w.heap.size, 1, none⟩ (.string ⟨#[]⟩)).setCell ⟨w.heap.size, 2, none⟩ (.int .i64 0)).setCell ⟨w.heap.size, 3, none⟩ (.string ⟨#[]⟩)).setCell ⟨w.heap.size, 4, none⟩ (.string ⟨#[]⟩)) = ws at *
    have q := KX.out.cell; have qf := KX.out.free
    exact bodyPost_ret (v := .tuple #[.agg #[.int .i64 0, .string ⟨#[]⟩, .int .i64 0, .string ⟨#[]⟩, .string ⟨#[]⟩], .int .i64 4]) (by simp [results, Tryz.results7, go_sem, q, qf]) rfl ⟨rfl, KB.out⟩
  · rw [h1] at HW
    have e3 : (bs x3).toList = [] := by rw [bs_toList, h3]
    clear h1 h3
    have KX := Lib.hid (HR.out.set5 rfl 0 ⟨#[]⟩ 0 ⟨#[]⟩ ⟨#[]⟩)
    have KB := Lib.hid (set5_below HB.out (Nat.le_refl w.heap.size) 0 ⟨#[]⟩ 0 ⟨#[]⟩ ⟨#[]⟩)
    have r0 : w1.cell? ⟨w.heap.size, 0, none⟩ = some (.int .i64 0) := HR.out.cell 0
    have r1 : w1.cell? ⟨w.heap.size, 1, none⟩ = some (.string ⟨#[]⟩) := HR.out.cell 1
    have r2 : w1.cell? ⟨w.heap.size, 2, none⟩ = some (.int .i64 0) := HR.out.cell 2
    have r3 : w1.cell? ⟨w.heap.size, 3, none⟩ = some (.string ⟨#[]⟩) := HR.out.cell 3
    have r4 : w1.cell? ⟨w.heap.size, 4, none⟩ = some (.string ⟨#[]⟩) := HR.out.cell 4
    have r5 := HR.out.free
    dsimp only [set5] at KX KB
    go_wp2_with (first | (go_at_call 27; ((with_reducible refine (HW.out _).mono ?_); rintro e w6 ⟨rfl, rfl⟩)) | (go_at_call 28; ((with_reducible refine (HT3.out _).mono ?_); rintro e w6 ⟨rfl, rfl⟩)) | (go_at_call 28; ((with_reducible refine (HT4.out _).mono ?_); rintro e w6 ⟨rfl, rfl⟩)))
    clear r0 r1 r2 r3 r4 r5
    generalize (((((w1.setCell ⟨w.heap.size, 0, none⟩ (.int .i64 0)).setCell ⟨w.heap.size, 1, none⟩ (.string ⟨#[]⟩)).setCell ⟨w.heap.size, 2, none⟩ (.int .i64 0)).setCell ⟨w.heap.size, 3, none⟩ (.string ⟨#[]⟩)).setCell ⟨w.heap.size, 4, none⟩ (.string ⟨#[]⟩)) = ws at *
    have q := KX.out.cell; have qf := KX.out.free
    exact bodyPost_ret (v := .tuple #[.agg #[.int .i64 0, .string ⟨#[]⟩, .int .i64 0, .string ⟨#[]⟩, .string ⟨#[]⟩], .int .i64 4]) (by simp [results, Tryz.results7, go_sem, q, qf]) rfl ⟨rfl, KB.out⟩
  · rw [h1] at HW
    have e3 : ((bs x3).toList == []) = false := by rw [bs_toList]; simpa using h3
    have e4 : (bs x4).toList = [] := by rw [bs_toList, h4]
    clear h1 h3 h4
    have KX := Lib.hid (HR.out.set5 rfl 0 ⟨#[]⟩ 0 ⟨#[]⟩ ⟨#[]⟩)
    have KB := Lib.hid (set5_below HB.out (Nat.le_refl w.heap.size) 0 ⟨#[]⟩ 0 ⟨#[]⟩ ⟨#[]⟩)
    have r0 : w1.cell? ⟨w.heap.size, 0, none⟩ = some (.int .i64 0) := HR.out.cell 0
    have r1 : w1.cell? ⟨w.heap.size, 1, none⟩ = some (.string ⟨#[]⟩) := HR.out.cell 1
    have r2 : w1.cell? ⟨w.heap.size, 2, none⟩ = some (.int .i64 0) := HR.out.cell 2
    have r3 : w1.cell? ⟨w.heap.size, 3, none⟩ = some (.string ⟨#[]⟩) := HR.out.cell 3
    have r4 : w1.cell? ⟨w.heap.size, 4, none⟩ = some (.string ⟨#[]⟩) := HR.out.cell 4
    have r5 := HR.out.free
    dsimp only [set5] at KX KB
    go_wp2_with (first | (go_at_call 27; ((with_reducible refine (HW.out _).mono ?_); rintro e w6 ⟨rfl, rfl⟩)) | (go_at_call 28; ((with_reducible refine (HT3.out _).mono ?_); rintro e w6 ⟨rfl, rfl⟩)) | (go_at_call 28; ((with_reducible refine (HT4.out _).mono ?_); rintro e w6 ⟨rfl, rfl⟩)))
    clear r0 r1 r2 r3 r4 r5
    generalize (((((w1.setCell ⟨w.heap.size, 0, none⟩ (.int .i64 0)).setCell ⟨w.heap.size, 1, none⟩ (.string ⟨#[]⟩)).setCell ⟨w.heap.size, 2, none⟩ (.int .i64 0)).setCell ⟨w.heap.size, 3, none⟩ (.string ⟨#[]⟩)).setCell ⟨w.heap.size, 4, none⟩ (.string ⟨#[]⟩)) = ws at *
    have q := KX.out.cell; have qf := KX.out.free
    exact bodyPost_ret (v := .tuple #[.agg #[.int .i64 0, .string ⟨#[]⟩, .int .i64 0, .string ⟨#[]⟩, .string ⟨#[]⟩], .int .i64 4]) (by simp [results, Tryz.results7, go_sem, q, qf]) rfl ⟨rfl, KB.out⟩
  · rw [h1] at HW
    rw [t3] at HT3
    have e3 : ((bs x3).toList == []) = false := by rw [bs_toList]; simpa using h3
    have e4 : ((bs x4).toList == []) = false := by rw [bs_toList]; simpa using h4
    have g3' : ((bs x3).toList == [45]) = false := by rw [bs_toList]; simpa using g3
    clear h1 h3 h4 g3 t3
    have KX := Lib.hid (HR.out.set5 rfl 0 ⟨#[]⟩ 0 ⟨#[]⟩ ⟨#[]⟩)
    have KB := Lib.hid (set5_below HB.out (Nat.le_refl w.heap.size) 0 ⟨#[]⟩ 0 ⟨#[]⟩ ⟨#[]⟩)
    have r0 : w1.cell? ⟨w.heap.size, 0, none⟩ = some (.int .i64 0) := HR.out.cell 0
    have r1 : w1.cell? ⟨w.heap.size, 1, none⟩ = some (.string ⟨#[]⟩) := HR.out.cell 1
    have r2 : w1.cell? ⟨w.heap.size, 2, none⟩ = some (.int .i64 0) := HR.out.cell 2
    have r3 : w1.cell? ⟨w.heap.size, 3, none⟩ = some (.string ⟨#[]⟩) := HR.out.cell 3
    have r4 : w1.cell? ⟨w.heap.size, 4, none⟩ = some (.string ⟨#[]⟩) := HR.out.cell 4
    have r5 := HR.out.free
    dsimp only [set5] at KX KB
    go_wp2_with (first | (go_at_call 27; ((with_reducible refine (HW.out _).mono ?_); rintro e w6 ⟨rfl, rfl⟩)) | (go_at_call 28; ((with_reducible refine (HT3.out _).mono ?_); rintro e w6 ⟨rfl, rfl⟩)) | (go_at_call 28; ((with_reducible refine (HT4.out _).mono ?_); rintro e w6 ⟨rfl, rfl⟩)))
    clear r0 r1 r2 r3 r4 r5
    generalize (((((w1.setCell ⟨w.heap.size, 0, none⟩ (.int .i64 0)).setCell ⟨w.heap.size, 1, none⟩ (.string ⟨#[]⟩)).setCell ⟨w.heap.size, 2, none⟩ (.int .i64 0)).setCell ⟨w.heap.size, 3, none⟩ (.string ⟨#[]⟩)).setCell ⟨w.heap.size, 4, none⟩ (.string ⟨#[]⟩)) = ws at *
    have q := KX.out.cell; have qf := KX.out.free
    exact bodyPost_ret (v := .tuple #[.agg #[.int .i64 0, .string ⟨#[]⟩, .int .i64 0, .string ⟨#[]⟩, .string ⟨#[]⟩], .int .i64 4]) (by simp [results, Tryz.results7, go_sem, q, qf]) rfl ⟨rfl, KB.out⟩
  · rw [h1] at HW
    rw [t4] at HT4
    have e3 : ((bs x3).toList == []) = false := by rw [bs_toList]; simpa using h3
    have e4 : ((bs x4).toList == []) = false := by rw [bs_toList]; simpa using h4
    have g3' : ((bs x3).toList == [45]) = true := by rw [bs_toList]; simpa using g3
    have g4' : ((bs x4).toList == [45]) = false := by rw [bs_toList]; simpa using g4
    clear h1 h3 h4 g3 g4 t4
    have KX := Lib.hid (HR.out.set5 rfl 0 ⟨#[]⟩ 0 ⟨#[]⟩ ⟨#[]⟩)
    have KB := Lib.hid (set5_below HB.out (Nat.le_refl w.heap.size) 0 ⟨#[]⟩ 0 ⟨#[]⟩ ⟨#[]⟩)
    have r0 : w1.cell? ⟨w.heap.size, 0, none⟩ = some (.int .i64 0) := HR.out.cell 0
    have r1 : w1.cell? ⟨w.heap.size, 1, none⟩ = some (.string ⟨#[]⟩) := HR.out.cell 1
    have r2 : w1.cell? ⟨w.heap.size, 2, none⟩ = some (.int .i64 0) := HR.out.cell 2
    have r3 : w1.cell? ⟨w.heap.size, 3, none⟩ = some (.string ⟨#[]⟩) := HR.out.cell 3
    have r4 : w1.cell? ⟨w.heap.size, 4, none⟩ = some (.string ⟨#[]⟩) := HR.out.cell 4
    have r5 := HR.out.free
    dsimp only [set5] at KX KB
    go_wp2_with (first | (go_at_call 27; ((with_reducible refine (HW.out _).mono ?_); rintro e w6 ⟨rfl, rfl⟩)) | (go_at_call 28; ((with_reducible refine (HT3.out _).mono ?_); rintro e w6 ⟨rfl, rfl⟩)) | (go_at_call 28; ((with_reducible refine (HT4.out _).mono ?_); rintro e w6 ⟨rfl, rfl⟩)))
    clear r0 r1 r2 r3 r4 r5
    generalize (((((w1.setCell ⟨w.heap.size, 0, none⟩ (.int .i64 0)).setCell ⟨w.heap.size, 1, none⟩ (.string ⟨#[]⟩)).setCell ⟨w.heap.size, 2, none⟩ (.int .i64 0)).setCell ⟨w.heap.size, 3, none⟩ (.string ⟨#[]⟩)).setCell ⟨w.heap.size, 4, none⟩ (.string ⟨#[]⟩)) = ws at *
    have q := KX.out.cell; have qf := KX.out.free
    exact bodyPost_ret (v := .tuple #[.agg #[.int .i64 0, .string ⟨#[]⟩, .int .i64 0, .string ⟨#[]⟩, .string ⟨#[]⟩], .int .i64 4]) (by simp [results, Tryz.results7, go_sem, q, qf]) rfl ⟨rfl, KB.out⟩
  · rw [h1] at HW
    rw [t3] at HT3
    rw [t4] at HT4
    have e3 : ((bs x3).toList == []) = false := by rw [bs_toList]; simpa using h3
    have e4 : ((bs x4).toList == []) = false := by rw [bs_toList]; simpa using h4
    have g3' : ((bs x3).toList == [45]) = false := by rw [bs_toList]; simpa using g3
    have g4' : ((bs x4).toList == [45]) = false := by rw [bs_toList]; simpa using g4
    clear h1 h3 h4 g3 g4 t3 t4
    have KX := Lib.hid (HR.out.set5 rfl 0 ⟨#[]⟩ 0 ⟨#[]⟩ ⟨#[]⟩)
    have KB := Lib.hid (set5_below HB.out (Nat.le_refl w.heap.size) 0 ⟨#[]⟩ 0 ⟨#[]⟩ ⟨#[]⟩)
    have r0 : w1.cell? ⟨w.heap.size, 0, none⟩ = some (.int .i64 0) := HR.out.cell 0
    have r1 : w1.cell? ⟨w.heap.size, 1, none⟩ = some (.string ⟨#[]⟩) := HR.out.cell 1
    have r2 : w1.cell? ⟨w.heap.size, 2, none⟩ = some (.int .i64 0) := HR.out.cell 2
    have r3 : w1.cell? ⟨w.heap.size, 3, none⟩ = some (.string ⟨#[]⟩) := HR.out.cell 3
    have r4 : w1.cell? ⟨w.heap.size, 4, none⟩ = some (.string ⟨#[]⟩) := HR.out.cell 4
    have r5 := HR.out.free
    dsimp only [set5] at KX KB
    go_wp2_with (first | (go_at_call 27; ((with_reducible refine (HW.out _).mono ?_); rintro e w6 ⟨rfl, rfl⟩)) | (go_at_call 28; ((with_reducible refine (HT3.out _).mono ?_); rintro e w6 ⟨rfl, rfl⟩)) | (go_at_call 28; ((with_reducible refine (HT4.out _).mono ?_); rintro e w6 ⟨rfl, rfl⟩)))
    clear r0 r1 r2 r3 r4 r5
    generalize (((((w1.setCell ⟨w.heap.size, 0, none⟩ (.int .i64 0)).setCell ⟨w.heap.size, 1, none⟩ (.string ⟨#[]⟩)).setCell ⟨w.heap.size, 2, none⟩ (.int .i64 0)).setCell ⟨w.heap.size, 3, none⟩ (.string ⟨#[]⟩)).setCell ⟨w.heap.size, 4, none⟩ (.string ⟨#[]⟩)) = ws at *
    have q := KX.out.cell; have qf := KX.out.free
    exact bodyPost_ret (v := .tuple #[.agg #[.int .i64 0, .string ⟨#[]⟩, .int .i64 0, .string ⟨#[]⟩, .string ⟨#[]⟩], .int .i64 4]) (by simp [results, Tryz.results7, go_sem, q, qf]) rfl ⟨rfl, KB.out⟩
end Go.Proofs.YthjdaehiebcoaaaGreatDoor
