/- A slice of seats, opened; the two laid errors of VerdictAsks. -/
import Derived.Test.YtkidljiffeonjaaDoorRows
import Derived.WalkKit
import Derived.WalkSpells
import Derived.WalkLawsBesides
import Derived.BigQuiet
import Derived.Deep.QuietTactic
import Derived.StillTailTactics
import Derived.Handy
import Derived.Lib.Hide
import Derived.Test.YtkidljiffeonjaaDoorLawVer
import Derived.Test.YtkidljiffeonjaaDoorErrs
import Derived.Deep.Slices
import Derived.ChangeArms
set_option linter.unusedSimpArgs false
set_option linter.unusedVariables false
namespace Go.Proofs.YtkidljiffeonjaaDoor
open Go.RowKit Go.Deep Go.ChangeShapes Go.WideShapes Go.ChangeAt Go.WideMaps Go.WideElems

theorem list_of {α : Type} {C : Nat → α → Prop} : ∀ n, (∀ i, i < n → ∃ o, C i o) → ∃ l : List α, l.length = n ∧ ∀ i (h : i < l.length), C i l[i]
  | 0, _ => ⟨[], rfl, fun i h => absurd h (by simp)⟩
  | n + 1, h => by
    obtain ⟨l, hl, hc⟩ := list_of n (fun i hi => h i (by omega))
    obtain ⟨o, ho⟩ := h n (by omega)
    refine ⟨l ++ [o], by simp [hl], fun i hi => ?_⟩
    by_cases hlt : i < l.length
    · rw [List.getElem_append_left hlt]; exact hc i hlt
    · have : i = n := by simp at hi; omega
      subst this
      rw [List.getElem_append_right (by omega)]
      simpa [hl] using ho
set_option maxRecDepth 100000 in
theorem open_seats {H : Type} {enc : TypeId × Value → H} {W : World} {a0 : Option Addr} {len cap : Nat} {d : DataW H} {p : List MemPlace} {sp : Nat → Bool} (h : DataW.Trod enc Tryd.prog W 0 sp true 40 (.slice a0 len cap) d p) : ∃ xs2, ReadSeats W (.slice a0 len cap) xs2 := by
  obtain ⟨fuel, hf⟩ := h
  rcases open_slice Tryd.underlying40 hf with ⟨hcs, hx⟩ | ⟨a, len', cap', m, n, D, Pl, hcs, hb, hl, hm, hmm, hx, hall⟩
  · simp [Value.cells] at hcs
    obtain ⟨rfl, rfl, rfl⟩ := hcs
    exact ⟨[], none, 0, rfl, fun h => absurd rfl h⟩
  · simp [Value.cells] at hcs
    obtain ⟨rfl, rfl, rfl⟩ := hcs
    have hlm : len ≤ m := by rw [hmm]; split <;> omega
    have each : ∀ i, i < len → ∃ o : MSeat, W.cell? (a.add (i * 4)) = some (.int .i64 o.p) ∧ W.cell? (a.add (i * 4 + 1)) = some (.int .i64 o.d) ∧ W.cell? (a.add (i * 4 + 2)) = some (.int .i64 o.s) ∧ W.cell? (a.add (i * 4 + 3)) = some (.int .i64 o.h) := by
      intro i hi
      obtain ⟨cs', h1, h2⟩ := hall i (by omega)
      rw [show Tryd.prog.cellsOf 52 = 4 by kernel_rfl] at h1
      obtain ⟨_, hlen, hcell⟩ := World.cells?_some h1
      obtain ⟨xs, k, hk, hxy, _, hxl, hfs⟩ := DataW.trod_struct Tryd.underlying52 h2
      match xs, hxl, cs', hlen with
      | [y0, y1, y2, y3], _, [v0, v1, v2, v3], _ =>
        have g0 := hfs 0 _ rfl
        have g1 := hfs 1 _ rfl
        have g2 := hfs 2 _ rfl
        have g3 := hfs 3 _ rfl
        simp [show Tryd.prog.cellsOf 3 = 1 by kernel_rfl] at g0 g1 g2 g3
        obtain ⟨n0, e0, _⟩ := DataW.trod_int Tryd.underlying3 g0
        obtain ⟨n1, e1, _⟩ := DataW.trod_int Tryd.underlying3 g1
        obtain ⟨n2, e2, _⟩ := DataW.trod_int Tryd.underlying3 g2
        obtain ⟨n3, e3, _⟩ := DataW.trod_int Tryd.underlying3 g3
        simp only [List.cons.injEq, and_true] at e0
        simp only [List.cons.injEq, and_true] at e1
        simp only [List.cons.injEq, and_true] at e2
        simp only [List.cons.injEq, and_true] at e3
        subst e0 e1 e2 e3
        have c0 := hcell 0 (by omega)
        have c1 := hcell 1 (by omega)
        have c2 := hcell 2 (by omega)
        have c3 := hcell 3 (by omega)
        rw [add_add] at c0 c1 c2 c3
        exact ⟨⟨n0, n1, n2, n3⟩, by simpa using c0, by simpa using c1, by simpa using c2, by simpa using c3⟩
    obtain ⟨xs2, hlen, hc⟩ := list_of len each
    subst hlen
    refine ⟨xs2, some a, cap, rfl, fun hne => ?_⟩
    have h0 : 0 < xs2.length := List.length_pos_iff.2 hne
    have hs0 : a.spot = none := by simpa [Addr.add] using World.cell?_spot (hc 0 h0).1
    obtain ⟨b, off, spot⟩ := a
    have hsp : spot = none := hs0
    subst hsp
    have hlt := World.block_lt_of_cell? W _ (hc 0 h0).1
    refine ⟨b, off, rfl, by simpa [Addr.add] using hlt, fun i hi => ?_⟩
    have := hc i hi
    simp only [Addr.add_lit] at this
    exact this

def errs2 : List LaidE := [err1, err14]
theorem err2_of_laid {W : World} {l : List (String × DataW Unit)} (hl : l = errs2.map LaidE.datum) (h : laidMetH Tryd.prog l W) : ∃ ea, Err2 ea W := by
  rw [MakeChecks.laidMetH_plain _ _ _ (by rw [hl]; rfl)] at h
  obtain ⟨ps, h, hnd, hrows⟩ := h
  rw [hl] at h
  obtain ⟨ea, h1, h2⟩ := sentinels errs2 ps (by decide) (fun x hx => ok14 x (by
    simp only [errs2, List.mem_cons, List.not_mem_nil, or_false] at hx
    rcases hx with rfl | rfl <;> simp [errs14])) h hnd hrows
  exact ⟨ea, (h1 err1 (by simp [errs2])).1, (h1 err14 (by simp [errs2])).1⟩
end Go.Proofs.YtkidljiffeonjaaDoor
