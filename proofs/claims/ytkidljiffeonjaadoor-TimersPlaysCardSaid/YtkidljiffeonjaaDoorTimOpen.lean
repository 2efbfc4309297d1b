/- A slice of floats, opened; the four laid errors of the laws on timers. -/
import Derived.Test.YtkidljiffeonjaaDoorRows
import Derived.WalkKit
import Derived.WalkSpells
import Derived.WalkLawsBesides
import Derived.BigQuiet
import Derived.Deep.QuietTactic
import Derived.StillTailTactics
import Derived.Handy
import Derived.Lib.Hide
import Derived.Test.YtkidljiffeonjaaDoorFlOpen
import Derived.Test.YtkidljiffeonjaaDoorLawComes
import Derived.Test.YtkidljiffeonjaaDoorErrs
import Derived.Deep.Slices
import Derived.ChangeArms
import Derived.Laws.Cover2
set_option linter.unusedSimpArgs false
set_option linter.unusedVariables false
namespace Go.Proofs.YtkidljiffeonjaaDoor
open Go.RowKit Go.Deep Go.ChangeShapes Go.WideShapes Go.ChangeAt Go.WideMaps Go.WideElems

theorem list_of {α : Type} {C : Nat → α → Prop} : ∀ n, (∀ i, i < n → ∃ o, C i o) → ∃ l : List α, l.length = n ∧ ∀ i (h : i < l.length), C i l[i]
  | 0, _ => ⟨[], rfl, fun i h => absurd h (by simp)⟩
  | n + 1, h => by
    obtain ⟨l, hl, hc⟩ := list_of n (fun i hi => h i (by omega))
    obtain ⟨o, ho⟩ := h n (by omega)
    refine ⟨l ++ [o], by simp [hl], fun i hi => ?_⟩
    by_cases hlt : i < l.length
    · rw [List.getElem_append_left hlt]; exact hc i hlt
    · have : i = n := by simp at hi; omega
      subst this
      rw [List.getElem_append_right (by omega)]
      simpa [hl] using ho
set_option maxRecDepth 100000 in
theorem open_floats {H : Type} {enc : TypeId × Value → H} {W : World} {a0 : Option Addr} {len cap : Nat} {d : DataW H} {p : List MemPlace} {sp : Nat → Bool} (h : DataW.Trod enc Tryd.prog W 0 sp true 69 (.slice a0 len cap) d p) : ∃ xs, FloatRow W (.slice a0 len cap) xs ∧ ∀ z ∈ xs, F64 z := by
  obtain ⟨fuel, hf⟩ := h
  rcases open_slice1 Tryd.underlying69 (by kernel_rfl) hf with ⟨hcs, hx⟩ | ⟨a, len', cap', m, n, V, D, Pl, hcs, hb, hl, hm, hmm, hx, hall⟩
  · simp [Value.cells] at hcs
    obtain ⟨rfl, rfl, rfl⟩ := hcs
    exact ⟨[], ⟨none, 0, rfl, fun j h => absurd h (by simp)⟩, by simp⟩
  · simp [Value.cells] at hcs
    obtain ⟨rfl, rfl, rfl⟩ := hcs
    have hlm : len ≤ m := by rw [hmm]; split <;> omega
    have each : ∀ i, i < len → ∃ o : Nat, W.cell? (a.add i) = some (.float .f64 o) ∧ F64 o := by
      intro i hi
      obtain ⟨h1, h2⟩ := hall i (by omega)
      obtain ⟨b, e, hb⟩ := trod_f64 Tryd.underlying22 h2
      rw [e] at h1
      exact ⟨b, h1, hb⟩
    obtain ⟨xs, hlen, hc⟩ := list_of len each
    subst hlen
    refine ⟨xs, ⟨some a, cap, rfl, fun j hj => ?_⟩, fun z hz => ?_⟩
    · have h0 := hc j hj
      have hs0 : a.spot = none := by simpa [Addr.add] using World.cell?_spot (hc 0 (by omega)).1
      obtain ⟨b, off, spot⟩ := a
      have hsp : spot = none := hs0
      subst hsp
      have h1 := h0.1
      simp only [Addr.add_lit] at h1
      exact ⟨b, off, rfl, h1⟩
    · obtain ⟨j, hj, rfl⟩ := List.getElem_of_mem hz
      exact (hc j hj).2
theorem f64_wf {b : Nat} (h : (Lit.float .f64 b).wf = true) : F64 b := by simpa [Lit.wf, F64] using h
def errs4 : List LaidE := [err1, err4, err6, err8]
theorem err4_of_laid {W : World} {l : List (String × DataW Unit)} (hl : l = errs4.map LaidE.datum) (h : laidMetH Tryd.prog l W) : ∃ ea, Err4 ea W := by
  rw [MakeChecks.laidMetH_plain _ _ _ (by rw [hl]; rfl)] at h
  obtain ⟨ps, h, hnd, hrows⟩ := h
  rw [hl] at h
  obtain ⟨ea, h1, h2⟩ := sentinels errs4 ps (by decide) (fun x hx => ok14 x (by
    simp only [errs4, List.mem_cons, List.not_mem_nil, or_false] at hx
    rcases hx with rfl | rfl | rfl | rfl <;> simp [errs14])) h hnd hrows
  exact ⟨ea, (h1 err1 (by simp [errs4])).1, (h1 err4 (by simp [errs4])).1, (h1 err6 (by simp [errs4])).1, (h1 err8 (by simp [errs4])).1⟩
theorem law_comes (v : Value) (xs : List Nat) {x y : Nat} (ea : Int → Addr) (w : World) (hE : Err4 ea w) (fx : F64 x) (fy : F64 y) (hv : FloatRow w v xs ∧ ∀ z ∈ xs, F64 z) :
    Calls Tryd.prog 7 #[flV x, flV y, v] w (Makes (.bool true) w) := by
  cases hd : fdelay x && fdelay y
  · exact comes_bad v xs x y ea w fx fy hd hv.1 hE
  · rw [Bool.and_eq_true] at hd
    exact comes_good v xs x y ea w fx fy hd.1 hd.2 hv.1 hv.2 hE
end Go.Proofs.YtkidljiffeonjaaDoor
