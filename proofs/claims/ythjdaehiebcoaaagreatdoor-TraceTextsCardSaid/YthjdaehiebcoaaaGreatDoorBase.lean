/- Words that every walk uses: results, what a call leaves, errors. -/
import Derived.Test.YthjdaehiebcoaaaGreatDoorRows
import Derived.WalkKit
import Derived.WalkSpells
import Derived.WalkLawsBesides
import Derived.BigQuiet
import Derived.Deep.QuietTactic
import Derived.StillTailTactics
import Derived.Handy
import Derived.Lib.Hide
import Derived.Lib.SmallJoins
set_option linter.unusedSimpArgs false
set_option linter.unusedVariables false
namespace Go.Proofs.YthjdaehiebcoaaaGreatDoor
open Go.RowKit

theorem ret_bool {a b : Bool} (h : a = b) : Ending.returned (.bool a) = .returned (.bool b) := by rw [h]
theorem ret_int {a b : Int} (h : a = b) : Ending.returned (.int .i64 a) = .returned (.int .i64 b) := by rw [h]
def cell3 (c : Int × Int × Int) : Value := .agg #[.int .i64 c.1, .int .i64 c.2.1, .int .i64 c.2.2]
theorem ret_cell {a b c : Int} {x : Int × Int × Int} (h : x = (a, b, c)) : Ending.returned (.agg #[.int .i64 a, .int .i64 b, .int .i64 c]) = .returned (cell3 x) := by rw [h]; rfl
/-- what a function that only computes leaves: its result, nothing turned -/
def Gives (v : Value) (w : World) (e : Ending) (w' : World) : Prop := e = .returned v ∧ w = w'
/-- a function that makes memory of its own: nothing that was there has turned -/
def Makes (v : Value) (w : World) (e : Ending) (w' : World) : Prop := e = .returned v ∧ Below w.heap.size w w'

theorem below_then {w W0 w1 : World} (h : Below w.heap.size w W0) (hb : Below W0.heap.size W0 w1) : Below w.heap.size w w1 := h.trans (hb.mono h.size)
theorem bcell {W w1 : World} (hb : Below W.heap.size W w1) : (∀ b o, b < W.heap.size → w1.cell? ⟨b, o, none⟩ = W.cell? ⟨b, o, none⟩) ∧ (∀ b o, b < W.heap.size → w1.frozen? ⟨b, o, none⟩ = W.frozen? ⟨b, o, none⟩) :=
  ⟨fun b o h => hb.cell (p := ⟨b, o, none⟩) h, fun b o h => hb.frozen (p := ⟨b, o, none⟩) h⟩

theorem lt_of_cell {w : World} {a : Addr} {v : Value} (h : w.cell? a = some v) : a.block < w.heap.size := by
  rcases Nat.lt_or_ge a.block w.heap.size with h' | h'
  · exact h'
  · simp [World.cell?, Array.getElem?_eq_none h'] at h

abbrev errV (a : Addr) : Value := .iface 145 (.pointer (some a))
/-- a package-level variable holds such an error -/
def ErrIs (w : World) (g : Nat) (a : Addr) : Prop := w.cell? ⟨g, 0, none⟩ = some (errV a)
theorem ErrIs.below {w w' : World} {g : Nat} {a : Addr} (h : ErrIs w g a) (hb : Below w.heap.size w w') : ErrIs w' g a := by
  have hlt := lt_of_cell h
  exact (hb.cell (p := ⟨g, 0, none⟩) hlt).trans h

def errOf (ea : Int → Addr) (n : Int) : Value := if n = 0 then .nilIface else errV (ea n)
theorem nat14 {k : Int} (h : 1 ≤ k ∧ k ≤ 14) : ∃ n : Fin 15, k = ((n.val : Nat) : Int) := ⟨⟨k.toNat, by omega⟩, by simp; omega⟩
end Go.Proofs.YthjdaehiebcoaaaGreatDoor
