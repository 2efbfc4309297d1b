/- A slice of events, opened. -/
import Derived.Test.YthjdaehiebcoaaaGreatDoorRows
import Derived.WalkKit
import Derived.WalkSpells
import Derived.WalkLawsBesides
import Derived.BigQuiet
import Derived.Deep.QuietTactic
import Derived.StillTailTactics
import Derived.Handy
import Derived.Lib.Hide
import Derived.Test.YthjdaehiebcoaaaGreatDoorReadE
import Derived.Deep.Slices
import Derived.ChangeArms
import Derived.Laws.Cover2
import Derived.Deep.Fields
set_option linter.unusedSimpArgs false
set_option linter.unusedVariables false
namespace Go.Proofs.YthjdaehiebcoaaaGreatDoor
open Go.RowKit Go.Deep Go.ChangeShapes Go.WideShapes Go.ChangeAt Go.WideMaps Go.WideElems

theorem ev_list_of {α : Type} {C : Nat → α → Prop} : ∀ n, (∀ i, i < n → ∃ o, C i o) → ∃ l : List α, l.length = n ∧ ∀ i (h : i < l.length), C i l[i]
  | 0, _ => ⟨[], rfl, fun i h => absurd h (by simp)⟩
  | n + 1, h => by
    obtain ⟨l, hl, hc⟩ := ev_list_of n (fun i hi => h i (by omega))
    obtain ⟨o, ho⟩ := h n (by omega)
    refine ⟨l ++ [o], by simp [hl], fun i hi => ?_⟩
    by_cases hlt : i < l.length
    · rw [List.getElem_append_left hlt]; exact hc i hlt
    · have : i = n := by simp at hi; omega
      subst this
      rw [List.getElem_append_right (by omega)]
      simpa [hl] using ho
set_option maxRecDepth 100000 in
theorem open_events {H : Type} {enc : TypeId × Value → H} {W : World} {a0 : Option Addr} {len cap : Nat} {d : DataW H} {p : List MemPlace} {sp : Nat → Bool} (h : DataW.Trod enc Tryz.prog W 0 sp true 33 (.slice a0 len cap) d p) : ∃ es, RowV W (.slice a0 len cap) es := by
  obtain ⟨fuel, hf⟩ := h
  rcases open_slice Tryz.underlying33 hf with ⟨hcs, hx⟩ | ⟨a, len', cap', m, n, D, Pl, hcs, hb, hl, hm, hmm, hx, hall⟩
  · simp [Value.cells] at hcs
    obtain ⟨rfl, rfl, rfl⟩ := hcs
    exact ⟨[], 0, 0, none, 0, rfl, fun h => by simp at h, fun j h => by simp at h⟩
  · simp [Value.cells] at hcs
    obtain ⟨rfl, rfl, rfl⟩ := hcs
    have hlm : len ≤ m := by rw [hmm]; split <;> omega
    have each : ∀ i, i < len → ∃ o : Ev, W.cell? (a.add (i * 5)) = some (.int .i64 o.step) ∧ W.cell? (a.add (i * 5 + 1)) = some (.string (bs o.what)) ∧ W.cell? (a.add (i * 5 + 2)) = some (.int .i64 o.node) ∧ W.cell? (a.add (i * 5 + 3)) = some (.string (bs o.first)) ∧ W.cell? (a.add (i * 5 + 4)) = some (.string (bs o.second)) := by
      intro i hi
      obtain ⟨cs', h1, h2⟩ := hall i (by omega)
      rw [show Tryz.prog.cellsOf 24 = 5 by kernel_rfl] at h1
      obtain ⟨_, hlen, hcell⟩ := World.cells?_some h1
      obtain ⟨xs, k, hk, hxy, _, hxl, hfs⟩ := DataW.trod_struct Tryz.underlying24 h2
      match xs, hxl, cs', hlen with
      | [y0, y1, y2, y3, y4], _, [v0, v1, v2, v3, v4], _ =>
        have g0 := hfs 0 _ rfl
        have g1 := hfs 1 _ rfl
        have g2 := hfs 2 _ rfl
        have g3 := hfs 3 _ rfl
        have g4 := hfs 4 _ rfl
        simp [show Tryz.prog.cellsOf 3 = 1 by kernel_rfl, show Tryz.prog.cellsOf 9 = 1 by kernel_rfl] at g0 g1 g2 g3 g4
        obtain ⟨n0, e0, _⟩ := DataW.trod_int Tryz.underlying3 g0
        obtain ⟨n1, e1, _⟩ := DataW.trod_string Tryz.underlying9 g1
        obtain ⟨n2, e2, _⟩ := DataW.trod_int Tryz.underlying3 g2
        obtain ⟨n3, e3, _⟩ := DataW.trod_string Tryz.underlying9 g3
        obtain ⟨n4, e4, _⟩ := DataW.trod_string Tryz.underlying9 g4
        simp only [List.cons.injEq, and_true] at e0
        simp only [List.cons.injEq, and_true] at e1
        simp only [List.cons.injEq, and_true] at e2
        simp only [List.cons.injEq, and_true] at e3
        simp only [List.cons.injEq, and_true] at e4
        subst e0 e1 e2 e3 e4
        have c0 := hcell 0 (by omega)
        have c1 := hcell 1 (by omega)
        have c2 := hcell 2 (by omega)
        have c3 := hcell 3 (by omega)
        have c4 := hcell 4 (by omega)
        rw [add_add] at c0 c1 c2 c3 c4
        exact ⟨⟨n0, n1.data.toList, n2, n3.data.toList, n4.data.toList⟩, by simpa using c0, by simpa [bs_of] using c1, by simpa using c2, by simpa [bs_of] using c3, by simpa [bs_of] using c4⟩
    obtain ⟨es, hlen, hc⟩ := ev_list_of len each
    subst hlen
    rcases Nat.eq_zero_or_pos es.length with h0 | hp
    · exact ⟨es, 0, 0, some a, cap, rfl, fun h => by omega, fun j h => by omega⟩
    · have hs0 : a.spot = none := by simpa [Addr.add] using World.cell?_spot (hc 0 hp).1
      obtain ⟨b, off, spot⟩ := a
      have hsp : spot = none := hs0
      subst hsp
      have hlt : b < W.heap.size := by
        have := (hc 0 hp).1
        simp only [Addr.add_lit] at this
        exact lt_of_cell this
      refine ⟨es, b, off, some ⟨b, off, none⟩, cap, rfl, fun _ => ⟨rfl, hlt⟩, fun j hj => ?_⟩
      obtain ⟨c0, c1, c2, c3, c4⟩ := hc j hj
      simp only [Addr.add_lit, ← Nat.add_assoc] at c0 c1 c2 c3 c4
      exact ⟨c0, c1, c2, c3, c4⟩
end Go.Proofs.YthjdaehiebcoaaaGreatDoor
