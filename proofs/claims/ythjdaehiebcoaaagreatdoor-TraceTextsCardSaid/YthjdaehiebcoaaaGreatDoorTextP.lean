/- All lines are read as their events, plain. -/
import Derived.Test.YthjdaehiebcoaaaGreatDoorRows
import Derived.WalkKit
import Derived.WalkSpells
import Derived.WalkLawsBesides
import Derived.BigQuiet
import Derived.Deep.QuietTactic
import Derived.StillTailTactics
import Derived.Handy
import Derived.Lib.Hide
import Derived.Test.YthjdaehiebcoaaaGreatDoorTextA
import Derived.Test.YthjdaehiebcoaaaGreatDoorLinP
set_option linter.unusedSimpArgs false
set_option linter.unusedVariables false
namespace Go.Proofs.YthjdaehiebcoaaaGreatDoor
open Go.RowKit

theorem dig_nofeed {s : Str} (h : s.all tDig = true) : ∀ x ∈ s, x ≠ 10 := by
  intro x hx e
  have := List.all_eq_true.1 h x hx
  subst e
  exact absurd this (by decide)
theorem text_nofeed {s : Str} (h : tText s = true) : ∀ x ∈ s, x ≠ 10 := by
  intro x hx e
  unfold tText at h
  simp only [Bool.and_eq_true] at h
  have := List.all_eq_true.1 h.1.1 x hx
  subst e
  exact absurd this (by decide)
theorem word_nofeed {s : Str} (h : tWord s = true) : ∀ x ∈ s, x ≠ 10 := by
  intro x hx e
  unfold tWord at h
  simp only [Bool.or_eq_true, beq_iff_eq] at h
  subst e
  rcases h with ((((h | h) | h) | h) | h) | h <;> (subst h; simp at hx)
theorem shown_nofeed {s : Str} (h : tText s = true) : ∀ x ∈ tShown s, x ≠ 10 := by
  intro x hx
  unfold tShown at hx
  split at hx
  · intro e; subst e; simp at hx
  · exact text_nofeed h x hx
theorem place_nofeed (n : Int) : ∀ x ∈ tPlace n, x ≠ 10 := by
  intro x hx
  unfold tPlace at hx
  split at hx
  · intro e; subst e; simp at hx
  · rcases List.mem_cons.1 hx with h | h
    · subst h; decide
    · exact dig_nofeed (dec_dig _) x h
theorem line_nofeed {e : Ev} (h : tLineN e = 0) : ∀ x ∈ tLineOf e, x ≠ 10 := by
  unfold tLineN at h
  split at h
  next h1 =>
    simp only [Bool.and_eq_true] at h1
    obtain ⟨⟨hw, hf⟩, hs⟩ := h1
    intro x hx
    unfold tLineOf at hx
    simp only [List.mem_append, List.mem_cons] at hx
    rcases hx with hx | hx | hx | hx | hx | hx | hx | hx | hx
    · exact dig_nofeed (dec_dig _) x hx
    · subst hx; decide
    · exact word_nofeed hw x hx
    · subst hx; decide
    · exact place_nofeed _ x hx
    · subst hx; decide
    · exact shown_nofeed hf x hx
    · subst hx; decide
    · exact shown_nofeed hs x hx
  next => cases h
theorem lines_all : ∀ (l : List Ev), tAllN l = 0 → tLines (tAll l) = l.map tLineOf ∧ (l.map tLineOf).map tParse = l.map Said.ev
  | [], _ => ⟨rfl, rfl⟩
  | e :: r, h => by
    unfold tAllN at h
    by_cases he : tLineN e = 0
    · rw [if_pos he] at h
      obtain ⟨h1, h2⟩ := lines_all r h
      refine ⟨?_, ?_⟩
      · have e1 : tAll (e :: r) = tLineOf e ++ 10 :: tAll r := by unfold tAll; rw [List.flatMap_cons]; simp
        rw [e1, lines_cut _ _ (line_nofeed he), h1]; rfl
      · rw [List.map_cons, List.map_cons, List.map_cons, h2, parse_line e he]
    · rw [if_neg he] at h; exact absurd h he
theorem all_last : ∀ (l : List Ev), tAll l = [] ∨ (tAll l).getLast? = some 10
  | [] => .inl rfl
  | e :: r => by
    right
    have e1 : tAll (e :: r) = tLineOf e ++ 10 :: tAll r := by unfold tAll; rw [List.flatMap_cons]; simp
    rw [e1]
    rcases all_last r with h | h
    · rw [h]; simp
    · have hne : tAll r ≠ [] := fun e => by rw [e] at h; cases h
      rw [List.getLast?_append, List.getLast?_cons, h]; rfl
theorem read_all {l : List Ev} (h : tAllN l = 0) : tRead (tAll l) = .evs l := by
  unfold tRead
  obtain ⟨h1, h2⟩ := lines_all l h
  rw [if_pos (all_last l), h1]
  exact reads_all _ l h2
theorem allN_all : ∀ {l : List Ev}, tAllN l = 0 → ∀ e ∈ l, tLineN e = 0
  | [], _, e, he => by simp at he
  | x :: r, h, e, he => by
    unfold tAllN at h
    by_cases hx : tLineN x = 0
    · rw [if_pos hx] at h
      rcases List.mem_cons.1 he with e1 | e1
      · rw [e1]; exact hx
      · exact allN_all h e e1
    · rw [if_neg hx] at h; exact absurd h hx
end Go.Proofs.YthjdaehiebcoaaaGreatDoor
