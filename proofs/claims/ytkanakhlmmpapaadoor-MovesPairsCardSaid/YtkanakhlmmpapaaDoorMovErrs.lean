/- The five laid errors of the laws on pairs. -/
import Derived.Test.YtkanakhlmmpapaaDoorRows
import Derived.WalkKit
import Derived.WalkSpells
import Derived.WalkLawsBesides
import Derived.BigQuiet
import Derived.Deep.QuietTactic
import Derived.StillTailTactics
import Derived.Handy
import Derived.Lib.Hide
import Derived.Test.YtkanakhlmmpapaaDoorErrs
import Derived.Test.YtkanakhlmmpapaaDoorMovI
set_option linter.unusedSimpArgs false
set_option linter.unusedVariables false
namespace Go.Proofs.YtkanakhlmmpapaaDoor
open Go.ChangeShapes Go.WideShapes Go.ChangeAt Go.WideMaps Go.WideElems Go.RowKit

def errs5 : List LaidE := [err1, err4, err6, err9, err14]
theorem err5_of_laid {W : World} {l : List (String × DataW Unit)} (hl : l = errs5.map LaidE.datum) (h : laidMetH Tryd.prog l W) : ∃ ea, Err5 ea W := by
  rw [MakeChecks.laidMetH_plain _ _ _ (by rw [hl]; rfl)] at h
  obtain ⟨ps, h, hnd, hrows⟩ := h
  rw [hl] at h
  obtain ⟨ea, h1, h2⟩ := sentinels errs5 ps (by decide) (fun x hx => ok14 x (by
    simp only [errs5, List.mem_cons, List.not_mem_nil, or_false] at hx
    rcases hx with rfl | rfl | rfl | rfl | rfl <;> simp [errs14])) h hnd hrows
  exact ⟨ea, ⟨(h1 err1 (by simp [errs5])).1, (h1 err4 (by simp [errs5])).1, (h1 err14 (by simp [errs5])).1⟩, (h1 err6 (by simp [errs5])).1, (h1 err9 (by simp [errs5])).1⟩
theorem Errs.five {ea : Int → Addr} {W : World} (h : Errs ea W) : Err5 ea W := ⟨⟨h.e1, h.e4, h.e14⟩, h.e6, h.e9⟩
end Go.Proofs.YtkanakhlmmpapaaDoor
