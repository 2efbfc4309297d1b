/- Blocks of the call's own memory: small laws. -/
import Derived.Test.YthjdaehiebcoaaaGreatDoorRows
import Derived.WalkKit
import Derived.WalkSpells
import Derived.WalkLawsBesides
import Derived.BigQuiet
import Derived.Deep.QuietTactic
import Derived.StillTailTactics
import Derived.Handy
import Derived.Lib.Hide
import Derived.Test.YthjdaehiebcoaaaGreatDoorBase
set_option linter.unusedSimpArgs false
set_option linter.unusedVariables false
namespace Go.Proofs.YthjdaehiebcoaaaGreatDoor
open Go.RowKit

/-- block b holds just these cells, and none is frozen -/
structure Blk (w : World) (b : Nat) (C : Array Value) : Prop where
  lt : b < w.heap.size
  cell : ∀ i, w.cell? ⟨b, i, none⟩ = C[i]?
  free : ∀ i, w.frozen? ⟨b, i, none⟩ = false
theorem Blk.below {w w' : World} {b : Nat} {C : Array Value} (h : Blk w b C) (hb : Below w.heap.size w w') : Blk w' b C :=
  ⟨Nat.lt_of_lt_of_le h.lt hb.size, fun i => (hb.cell (p := ⟨b, i, none⟩) h.lt).trans (h.cell i), fun i => (hb.frozen (p := ⟨b, i, none⟩) h.lt).trans (h.free i)⟩
theorem Blk.alloc {w : World} {b : Nat} {C : Array Value} (h : Blk w b C) (o : Obj) : Blk (w.alloc o) b C :=
  h.below ((Below.refl _ _).alloc (Nat.le_refl _) o)
theorem Blk.fresh (w : World) (C : Array Value) (T : TypeId) (n : Nat) (hn : n = w.heap.size) : Blk (w.alloc (.cells C T)) n C := by
  subst hn
  exact ⟨by simp, fun i => by simp, fun i => by simp⟩
theorem Blk.drew {w : World} {b : Nat} {C : Array Value} (h : Blk w b C) : Blk w.drew b C :=
  h.below ((Below.refl _ _).drew)
theorem Blk.other {w : World} {b : Nat} {C : Array Value} (h : Blk w b C) {p : Addr} (hp : p.block ≠ b) (v : Value) : Blk (w.setCell p v) b C := by
  have e := Below.heap_setCell w p v b (by omega)
  exact ⟨by simpa using h.lt, fun i => (World.cell?_of_block (w := w) (a := ⟨b, i, none⟩) e).trans (h.cell i), fun i => (World.frozen?_of_block (w := w) (a := ⟨b, i, none⟩) e).trans (h.free i)⟩
theorem Blk.out {w : World} {b : Nat} {C : Array Value} (h : Blk w b C) : (∀ i, w.cell? ⟨b, i, none⟩ = C[i]?) ∧ (∀ i, w.frozen? ⟨b, i, none⟩ = false) := ⟨h.cell, h.free⟩
end Go.Proofs.YthjdaehiebcoaaaGreatDoor
