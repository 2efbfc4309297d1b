/- What the rows on lines lay: fourteen errors, the table of ten's powers, a number in bytealg.MaxLen. -/
import Derived.Test.YthjdaehiebcoaaaGreatDoorWrapS
import Derived.Test.YthjdaehiebcoaaaGreatDoorErrs
import Derived.Test.YthjdaehiebcoaaaGreatDoorShT
import Derived.Lib.LaidTab
namespace Go.Proofs.YthjdaehiebcoaaaGreatDoor
open Go.ChangeShapes Go.WideShapes Go.ChangeAt Go.WideMaps Go.WideElems Go.RowKit

set_option maxRecDepth 100000 in
theorem pow10_data : (Lib.tabData .u64 Lib.pow10Tab : DataW Unit) = Rows.laid_internal_strconv_uint64pow10 := by kernel_rfl
theorem errs_of_met {W : World} (h : laidMet Tryz.prog (errs14.map LaidE.datum) W) : ∃ ea, Errs ea W :=
  errs_of_laid rfl (by rw [MakeChecks.laidMetH_plain _ _ _ (by rfl)]; exact h)
theorem max_of_shape {W : World} (h : W.ShapedOpen Tryz.prog) : ∃ m, W.cell? ⟨14, 0, none⟩ = some (.int .i64 m) :=
  cell_of_shapedOpen_int (P := Tryz.prog) (g := 14) (t := 3) (zero := #[.int .i64 0]) h (of_decide_eq_true (by kernel_rfl)) (by kernel_rfl) rfl (by kernel_rfl) (by kernel_rfl) Tryz.underlying3
set_option maxRecDepth 100000 in
theorem env_of_laid {W : World} {A : List (String × DataW Unit)} {B : List (String × DataW Unit)} {l : List (String × DataW Unit)}
    (hl : l = A ++ (("internal/strconv.uint64pow10", Lib.tabData .u64 Lib.pow10Tab) :: B) ∧ ∃ C D, B = C ++ (errs14.map LaidE.datum ++ D)) (hp : (l.all fun x => x.2.handleName?.isNone) = true) (h : laidMetH Tryz.prog l W) (hs : W.ShapedOpen Tryz.prog) : ∃ ea, Env ea W := by
  rw [MakeChecks.laidMetH_plain _ _ _ hp] at h
  obtain ⟨rfl, C, D, rfl⟩ := hl
  have h2 := (laidMet_parts h).2
  have h3 := (laidMet_parts (A := [("internal/strconv.uint64pow10", Lib.tabData .u64 Lib.pow10Tab)]) (B := C ++ (errs14.map LaidE.datum ++ D)) h2).2
  have h4 := (laidMet_parts (laidMet_parts h3).2).1
  obtain ⟨ea, he⟩ := errs_of_met h4
  exact ⟨ea, he, Lib.tabIs_of_head (g := 15) (t := 131) (e := 123) (n := 20) (by kernel_rfl) (by kernel_rfl) Tryz.underlying131 Tryz.underlying123 (by kernel_rfl) (by kernel_rfl) h2, max_of_shape hs⟩
end Go.Proofs.YthjdaehiebcoaaaGreatDoor
