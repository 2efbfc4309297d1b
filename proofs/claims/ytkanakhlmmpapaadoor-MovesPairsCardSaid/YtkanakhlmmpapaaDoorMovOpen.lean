/- The script of ops, opened. -/
import Derived.Test.YtkanakhlmmpapaaDoorRows
import Derived.WalkKit
import Derived.WalkSpells
import Derived.WalkLawsBesides
import Derived.BigQuiet
import Derived.Deep.QuietTactic
import Derived.StillTailTactics
import Derived.Handy
import Derived.Lib.Hide
import Derived.Test.YtkanakhlmmpapaaDoorMovN
import Derived.Deep.Slices
import Derived.ChangeArms
set_option linter.unusedSimpArgs false
set_option linter.unusedVariables false
namespace Go.Proofs.YtkanakhlmmpapaaDoor
open Go.RowKit Go.Deep Go.ChangeShapes Go.WideShapes

theorem list_of {α : Type} {C : Nat → α → Prop} : ∀ n, (∀ i, i < n → ∃ o, C i o) → ∃ l : List α, l.length = n ∧ ∀ i (h : i < l.length), C i l[i]
  | 0, _ => ⟨[], rfl, fun i h => absurd h (by simp)⟩
  | n + 1, h => by
    obtain ⟨l, hl, hc⟩ := list_of n (fun i hi => h i (by omega))
    obtain ⟨o, ho⟩ := h n (by omega)
    refine ⟨l ++ [o], by simp [hl], fun i hi => ?_⟩
    by_cases hlt : i < l.length
    · rw [List.getElem_append_left hlt]; exact hc i hlt
    · have : i = n := by simp at hi; omega
      subst this
      rw [List.getElem_append_right (by omega)]
      simpa [hl] using ho
/-- the five cells of an op -/
def OpAt (w : World) (b o : Nat) (x : MOp) : Prop := w.cell? ⟨b, o, none⟩ = some (.int .i64 x.what) ∧ w.cell? ⟨b, o + 1, none⟩ = some (.int .i64 x.side) ∧ w.cell? ⟨b, o + 2, none⟩ = some (.int .i64 x.kind) ∧ w.cell? ⟨b, o + 3, none⟩ = some (.int .i64 x.at_) ∧ w.cell? ⟨b, o + 4, none⟩ = some (.bool x.copies)
def OpsAt (w : World) (b off : Nat) (ops : List MOp) : Prop := ∀ i (h : i < ops.length), OpAt w b (off + i * 5) ops[i]
/-- a slice of ops -/
def ReadOps (w : World) (v : Value) (ops : List MOp) : Prop := ∃ a cap, v = .slice a ops.length cap ∧ (ops ≠ [] → ∃ b off, a = some ⟨b, off, none⟩ ∧ b < w.heap.size ∧ OpsAt w b off ops)
theorem OpAt.below {w w' : World} {b o : Nat} {x : MOp} (h : OpAt w b o x) (hb : Below w.heap.size w w') (hl : b < w.heap.size) : OpAt w' b o x :=
  ⟨(hb.cell (p := ⟨b, o, none⟩) hl).trans h.1, (hb.cell (p := ⟨b, o + 1, none⟩) hl).trans h.2.1, (hb.cell (p := ⟨b, o + 2, none⟩) hl).trans h.2.2.1, (hb.cell (p := ⟨b, o + 3, none⟩) hl).trans h.2.2.2.1, (hb.cell (p := ⟨b, o + 4, none⟩) hl).trans h.2.2.2.2⟩
theorem ReadOps.below {w w' : World} {v : Value} {ops : List MOp} (h : ReadOps w v ops) (hb : Below w.heap.size w w') : ReadOps w' v ops := by
  obtain ⟨a, cap, rfl, hn⟩ := h
  refine ⟨a, cap, rfl, fun hne => ?_⟩
  obtain ⟨b, off, rfl, hl, ho⟩ := hn hne
  exact ⟨b, off, rfl, Nat.lt_of_lt_of_le hl hb.size, fun i hi => (ho i hi).below hb hl⟩

set_option maxRecDepth 100000 in
theorem open_ops {H : Type} {enc : TypeId × Value → H} {W : World} {a0 : Option Addr} {len cap : Nat} {d : DataW H} {p : List MemPlace} {sp : Nat → Bool} (h : DataW.Trod enc Tryd.prog W 0 sp true 22 (.slice a0 len cap) d p) : ∃ ops, ReadOps W (.slice a0 len cap) ops := by
  obtain ⟨fuel, hf⟩ := h
  rcases open_slice Tryd.underlying22 hf with ⟨hcs, hx⟩ | ⟨a, len', cap', m, n, D, Pl, hcs, hb, hl, hm, hmm, hx, hall⟩
  · simp [Value.cells] at hcs
    obtain ⟨rfl, rfl, rfl⟩ := hcs
    exact ⟨[], none, 0, rfl, fun h => absurd rfl h⟩
  · simp [Value.cells] at hcs
    obtain ⟨rfl, rfl, rfl⟩ := hcs
    have hlm : len ≤ m := by rw [hmm]; split <;> omega
    have each : ∀ i, i < len → ∃ o : MOp, W.cell? (a.add (i * 5)) = some (.int .i64 o.what) ∧ W.cell? (a.add (i * 5 + 1)) = some (.int .i64 o.side) ∧ W.cell? (a.add (i * 5 + 2)) = some (.int .i64 o.kind) ∧ W.cell? (a.add (i * 5 + 3)) = some (.int .i64 o.at_) ∧ W.cell? (a.add (i * 5 + 4)) = some (.bool o.copies) := by
      intro i hi
      obtain ⟨cs', h1, h2⟩ := hall i (by omega)
      rw [show Tryd.prog.cellsOf 30 = 5 by kernel_rfl] at h1
      obtain ⟨_, hlen, hcell⟩ := World.cells?_some h1
      obtain ⟨xs, k, hk, hxy, _, hxl, hfs⟩ := DataW.trod_struct Tryd.underlying30 h2
      match xs, hxl, cs', hlen with
      | [y0, y1, y2, y3, y4], _, [v0, v1, v2, v3, v4], _ =>
        have g0 := hfs 0 _ rfl
        have g1 := hfs 1 _ rfl
        have g2 := hfs 2 _ rfl
        have g3 := hfs 3 _ rfl
        have g4 := hfs 4 _ rfl
        simp [show Tryd.prog.cellsOf 3 = 1 by kernel_rfl, show Tryd.prog.cellsOf 4 = 1 by kernel_rfl] at g0 g1 g2 g3 g4
        obtain ⟨n0, e0, _⟩ := DataW.trod_int Tryd.underlying3 g0
        obtain ⟨n1, e1, _⟩ := DataW.trod_int Tryd.underlying3 g1
        obtain ⟨n2, e2, _⟩ := DataW.trod_int Tryd.underlying3 g2
        obtain ⟨n3, e3, _⟩ := DataW.trod_int Tryd.underlying3 g3
        obtain ⟨b4, e4, _⟩ := DataW.trod_bool Tryd.underlying4 g4
        simp only [List.cons.injEq, and_true] at e0
        simp only [List.cons.injEq, and_true] at e1
        simp only [List.cons.injEq, and_true] at e2
        simp only [List.cons.injEq, and_true] at e3
        simp only [List.cons.injEq, and_true] at e4
        subst e0 e1 e2 e3 e4
        have c0 := hcell 0 (by omega)
        have c1 := hcell 1 (by omega)
        have c2 := hcell 2 (by omega)
        have c3 := hcell 3 (by omega)
        have c4 := hcell 4 (by omega)
        rw [add_add] at c0 c1 c2 c3 c4
        exact ⟨⟨n0, n1, n2, n3, b4⟩, by simpa using c0, by simpa using c1, by simpa using c2, by simpa using c3, by simpa using c4⟩
    obtain ⟨ops, hlen, hc⟩ := list_of len each
    subst hlen
    refine ⟨ops, some a, cap, rfl, fun hne => ?_⟩
    have h0 : 0 < ops.length := List.length_pos_iff.2 hne
    have hs0 : a.spot = none := by simpa [Addr.add] using World.cell?_spot (hc 0 h0).1
    obtain ⟨b, off, spot⟩ := a
    have hsp : spot = none := hs0
    subst hsp
    have hlt := World.block_lt_of_cell? W _ (hc 0 h0).1
    refine ⟨b, off, rfl, by simpa [Addr.add] using hlt, fun i hi => ?_⟩
    have := hc i hi
    simp only [Addr.add_lit] at this
    exact this
end Go.Proofs.YtkanakhlmmpapaaDoor
