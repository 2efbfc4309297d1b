/- The laid errors of package api. -/
import Derived.Test.YthjdaehiebcoaaaGreatDoorRows
import Derived.WalkKit
import Derived.WalkSpells
import Derived.WalkLawsBesides
import Derived.BigQuiet
import Derived.Deep.QuietTactic
import Derived.StillTailTactics
import Derived.Handy
import Derived.Lib.Hide
import Derived.Test.YthjdaehiebcoaaaGreatDoorSent
set_option linter.unusedSimpArgs false
set_option linter.unusedVariables false
namespace Go.Proofs.YthjdaehiebcoaaaGreatDoor
open Go.ChangeShapes Go.WideShapes Go.ChangeAt Go.WideMaps Go.WideElems Go.RowKit

def err1 : LaidE := ⟨1, "liaison/api.ErrRange", 1, [108, 105, 97, 105, 115, 111, 110, 58, 32, 114, 97, 110, 103, 101]⟩
theorem ok_err1 : err1.ok := ⟨by kernel_rfl, by kernel_rfl⟩
def err2 : LaidE := ⟨2, "liaison/api.ErrShort", 2, [108, 105, 97, 105, 115, 111, 110, 58, 32, 115, 104, 111, 114, 116]⟩
theorem ok_err2 : err2.ok := ⟨by kernel_rfl, by kernel_rfl⟩
def err3 : LaidE := ⟨3, "liaison/api.ErrLong", 3, [108, 105, 97, 105, 115, 111, 110, 58, 32, 108, 111, 110, 103]⟩
theorem ok_err3 : err3.ok := ⟨by kernel_rfl, by kernel_rfl⟩
def err4 : LaidE := ⟨4, "liaison/api.ErrForm", 0, [108, 105, 97, 105, 115, 111, 110, 58, 32, 102, 111, 114, 109]⟩
theorem ok_err4 : err4.ok := ⟨by kernel_rfl, by kernel_rfl⟩
def err5 : LaidE := ⟨5, "liaison/api.ErrCheck", 4, [108, 105, 97, 105, 115, 111, 110, 58, 32, 99, 104, 101, 99, 107]⟩
theorem ok_err5 : err5.ok := ⟨by kernel_rfl, by kernel_rfl⟩
def err6 : LaidE := ⟨6, "liaison/api.ErrFull", 5, [108, 105, 97, 105, 115, 111, 110, 58, 32, 102, 117, 108, 108]⟩
theorem ok_err6 : err6.ok := ⟨by kernel_rfl, by kernel_rfl⟩
def err7 : LaidE := ⟨7, "liaison/api.ErrPower", 6, [108, 105, 97, 105, 115, 111, 110, 58, 32, 112, 111, 119, 101, 114]⟩
theorem ok_err7 : err7.ok := ⟨by kernel_rfl, by kernel_rfl⟩
def err8 : LaidE := ⟨8, "liaison/api.ErrNone", 7, [108, 105, 97, 105, 115, 111, 110, 58, 32, 110, 111, 110, 101]⟩
theorem ok_err8 : err8.ok := ⟨by kernel_rfl, by kernel_rfl⟩
def err9 : LaidE := ⟨9, "liaison/api.ErrState", 8, [108, 105, 97, 105, 115, 111, 110, 58, 32, 115, 116, 97, 116, 101]⟩
theorem ok_err9 : err9.ok := ⟨by kernel_rfl, by kernel_rfl⟩
def err10 : LaidE := ⟨10, "liaison/api.ErrTwice", 9, [108, 105, 97, 105, 115, 111, 110, 58, 32, 116, 119, 105, 99, 101]⟩
theorem ok_err10 : err10.ok := ⟨by kernel_rfl, by kernel_rfl⟩
def err11 : LaidE := ⟨11, "liaison/api.ErrDepth", 10, [108, 105, 97, 105, 115, 111, 110, 58, 32, 100, 101, 112, 116, 104]⟩
theorem ok_err11 : err11.ok := ⟨by kernel_rfl, by kernel_rfl⟩
def err12 : LaidE := ⟨12, "liaison/api.ErrExpired", 11, [108, 105, 97, 105, 115, 111, 110, 58, 32, 101, 120, 112, 105, 114, 101, 100]⟩
theorem ok_err12 : err12.ok := ⟨by kernel_rfl, by kernel_rfl⟩
def err13 : LaidE := ⟨13, "liaison/api.ErrPanic", 12, [108, 105, 97, 105, 115, 111, 110, 58, 32, 112, 97, 110, 105, 99]⟩
theorem ok_err13 : err13.ok := ⟨by kernel_rfl, by kernel_rfl⟩
def err14 : LaidE := ⟨14, "liaison/api.ErrProtocol", 13, [108, 105, 97, 105, 115, 111, 110, 58, 32, 112, 114, 111, 116, 111, 99, 111, 108]⟩
theorem ok_err14 : err14.ok := ⟨by kernel_rfl, by kernel_rfl⟩
def errs14 : List LaidE := [err1, err2, err3, err4, err5, err6, err7, err8, err9, err10, err11, err12, err13, err14]
theorem num14 (i : Int) (h1 : 1 ≤ i) (h2 : i ≤ 14) : ∃ x ∈ errs14, x.num = i := by
  obtain ⟨n, rfl⟩ := nat14 ⟨h1, h2⟩
  have h0 : n ≠ 0 := fun h => by rw [h] at h1; exact absurd h1 (by decide)
  revert n
  decide
theorem ok14 : ∀ x ∈ errs14, x.ok := by
  intro x hx
  simp only [errs14, List.mem_cons, List.not_mem_nil, or_false] at hx
  rcases hx with rfl | rfl | rfl | rfl | rfl | rfl | rfl | rfl | rfl | rfl | rfl | rfl | rfl | rfl
  · exact ok_err1
  · exact ok_err2
  · exact ok_err3
  · exact ok_err4
  · exact ok_err5
  · exact ok_err6
  · exact ok_err7
  · exact ok_err8
  · exact ok_err9
  · exact ok_err10
  · exact ok_err11
  · exact ok_err12
  · exact ok_err13
  · exact ok_err14

theorem errs_of_laid {W : World} {l : List (String × DataW Unit)} (hl : l = errs14.map LaidE.datum) (h : laidMetH Tryz.prog l W) : ∃ ea, Errs ea W := by
  rw [MakeChecks.laidMetH_plain _ _ _ (by rw [hl]; rfl)] at h
  obtain ⟨ps, h, hnd, hrows⟩ := h
  rw [hl] at h
  obtain ⟨ea, h1, h2⟩ := sentinels errs14 ps (by decide) ok14 h hnd hrows
  have hm : ∀ i : Int, 1 ≤ i → i ≤ 14 → ∃ x ∈ errs14, x.num = i := num14
  refine ⟨ea, (h1 err1 (by simp [errs14])).1, (h1 err2 (by simp [errs14])).1, (h1 err3 (by simp [errs14])).1, (h1 err4 (by simp [errs14])).1, (h1 err5 (by simp [errs14])).1, (h1 err6 (by simp [errs14])).1, (h1 err7 (by simp [errs14])).1, (h1 err8 (by simp [errs14])).1, (h1 err9 (by simp [errs14])).1, (h1 err10 (by simp [errs14])).1, (h1 err11 (by simp [errs14])).1, (h1 err12 (by simp [errs14])).1, (h1 err13 (by simp [errs14])).1, (h1 err14 (by simp [errs14])).1, ?_, ?_⟩
  · intro i j a b c d he
    obtain ⟨x, hx, rfl⟩ := hm i a b
    obtain ⟨y, hy, rfl⟩ := hm j c d
    exact h2 x hx y hy he
  · intro i a b
    obtain ⟨x, hx, rfl⟩ := hm i a b
    exact (hrows _ _ (h1 x hx).2).1

end Go.Proofs.YthjdaehiebcoaaaGreatDoor
