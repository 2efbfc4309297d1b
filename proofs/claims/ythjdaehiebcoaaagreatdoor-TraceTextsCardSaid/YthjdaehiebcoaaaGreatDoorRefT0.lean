/- The walk of liaisonref27.Parse: what is read. -/
import Derived.Test.YthjdaehiebcoaaaGreatDoorRows
import Derived.WalkKit
import Derived.WalkSpells
import Derived.WalkLawsBesides
import Derived.BigQuiet
import Derived.Deep.QuietTactic
import Derived.StillTailTactics
import Derived.Handy
import Derived.Lib.Hide
import Derived.Test.YthjdaehiebcoaaaGreatDoorRefS
set_option linter.unusedSimpArgs false
set_option linter.unusedVariables false
namespace Go.Proofs.YthjdaehiebcoaaaGreatDoor
open Go.RowKit

theorem set5_cell {w : World} {X g i : Nat} {v : Value} (hne : X ≠ g) (h : w.cell? ⟨g, i, none⟩ = some v) (a : Int) (b : ByteArray) (c : Int) (d f : ByteArray) : (set5 w X a b c d f).cell? ⟨g, i, none⟩ = some v := by
  have hn : ∀ k, (⟨X, k, none⟩ : Addr) ≠ ⟨g, i, none⟩ := fun k e => hne (congrArg Addr.block e)
  unfold set5
  rw [World.cell?_setCell_other _ _ _ _ (hn 4), World.cell?_setCell_other _ _ _ _ (hn 3), World.cell?_setCell_other _ _ _ _ (hn 2), World.cell?_setCell_other _ _ _ _ (hn 1), World.cell?_setCell_other _ _ _ _ (hn 0)]
  exact h
theorem held5 {w5 : World} {E g5 g : Nat} {v5 v1 v3 v4 : Value} (h : w5.cell? ⟨g5, 0, none⟩ = some v5 ∧ w5.cell? ⟨g, 1, none⟩ = some v1 ∧ w5.cell? ⟨g, 3, none⟩ = some v3 ∧ w5.cell? ⟨g, 4, none⟩ = some v4) (h5 : g5 ≠ E) (hg : g ≠ E) (a : Int) (b : ByteArray) (c : Int) (d f : ByteArray) :
    (set5 w5 E a b c d f).cell? ⟨g5, 0, none⟩ = some v5 ∧ (set5 w5 E a b c d f).cell? ⟨g, 1, none⟩ = some v1 ∧ (set5 w5 E a b c d f).cell? ⟨g, 3, none⟩ = some v3 ∧ (set5 w5 E a b c d f).cell? ⟨g, 4, none⟩ = some v4 :=
  ⟨set5_cell (Ne.symm h5) h.1 a b c d f, set5_cell (Ne.symm hg) h.2.1 a b c d f, set5_cell (Ne.symm hg) h.2.2.1 a b c d f, set5_cell (Ne.symm hg) h.2.2.2 a b c d f⟩

end Go.Proofs.YthjdaehiebcoaaaGreatDoor
