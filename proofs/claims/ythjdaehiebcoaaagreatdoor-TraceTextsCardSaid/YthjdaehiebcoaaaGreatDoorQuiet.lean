/- A region that draws its order, whose last operation panics or makes memory: read ahead of it once, in the text's order. -/
import Derived.Test.YthjdaehiebcoaaaGreatDoorRows
import Derived.WalkKit
import Derived.WalkSpells
import Derived.WalkLawsBesides
import Derived.BigQuiet
import Derived.Deep.QuietTactic
import Derived.StillTailTactics
import Derived.Handy
import Derived.Lib.Hide
import Derived.StillTail
set_option linter.unusedSimpArgs false
set_option linter.unusedVariables false
namespace Go.Proofs.YthjdaehiebcoaaaGreatDoor
open Go.RowKit

theorem wpStill_of_quiet {P : Program} {ops : Array Oper} {W : World} {Q : Act → Prop} : ∀ (l : List Oper) (a : Act), wpQuiet P ops (fun w' => w' = W) Q l a → wpStill P ops W Q l a
  | [], _, h => h
  | o :: rest, a, h => by
    unfold wpQuiet at h
    unfold wpStill
    split at h
    · next hw =>
      rw [if_pos hw]
      obtain ⟨v, h1, h2⟩ := h
      have h3 := h1 W rfl
      have h4 := wpStill_of_quiet rest _ h2
      unfold Oper.still
      unfold Oper.quietAt at h3
      cases hr : (execOp a.eval o).run P W with
      | ok r w' =>
        rw [hr] at h3
        cases r with
        | value u =>
          obtain ⟨e1, e2⟩ := h3
          subst e2
          exact ⟨e1, h4⟩
        | skip =>
          obtain ⟨e1, e2⟩ := h3
          rw [e2] at h4
          exact ⟨e1, h4⟩
        | enter f args =>
          obtain ⟨e1, e2⟩ := h3
          exact ⟨e1, v, e2, h4⟩
        | _ => exact h3.elim
      | _ => rw [hr] at h3; exact h3.elim
    · next hw =>
      rw [if_neg hw]
      exact wpStill_of_quiet rest _ h
theorem wp_region_quiet_tail {P : Program} {id : Nat} {Q : Exit → Act → World → Prop} {a : Act} {w : World} {l : List Oper} (n : Nat) (l1 l2 : List Oper) (h1 : l.take n = l1) (h2 : l.drop n = l2) (hm : P.follows .mixedOrders = true) (hB : Region.lexTailB .any l.toArray n = true)
    (h : wpQuiet P l.toArray (fun w' => w' = w.drew) (fun a' => wpList P l.toArray Q l2 a' w.drew) l1 a) : (Code.region id l.toArray true).wp P Q a w := by
  subst h1; subst h2
  exact wp_region_still_tail n hm hB (wpStill_of_quiet _ _ h)
end Go.Proofs.YthjdaehiebcoaaaGreatDoor
