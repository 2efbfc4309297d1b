/- Lines, plain: what strings.Lines hands out, a line feed taken off. -/
import Derived.Test.YthjdaehiebcoaaaGreatDoorRows
import Derived.WalkKit
import Derived.WalkSpells
import Derived.WalkLawsBesides
import Derived.BigQuiet
import Derived.Deep.QuietTactic
import Derived.StillTailTactics
import Derived.Handy
import Derived.Lib.Hide
import Derived.Test.YthjdaehiebcoaaaGreatDoorTrcP
import Derived.Lib.IndexLaws
import Derived.Lib.Bytealg
set_option linter.unusedSimpArgs false
set_option linter.unusedVariables false
namespace Go.Proofs.YthjdaehiebcoaaaGreatDoor
open Go.RowKit

def trimN (x : Str) : Str := Lib.trimSuffix x [10]
theorem lines_cut : ∀ (a b : Str), (∀ x ∈ a, x ≠ 10) → tLines (a ++ 10 :: b) = a :: tLines b
  | [], b, _ => by rw [List.nil_append, tLines, if_pos rfl]
  | c :: a, b, h => by
    rw [List.cons_append, tLines, if_neg (h c (by simp)), lines_cut a b (fun x hx => h x (by simp [hx]))]
    rfl
theorem lines_last : ∀ (r : Str), r ≠ [] → (∀ x ∈ r, x ≠ 10) → tLines r = [r]
  | [], h, _ => absurd rfl h
  | [c], _, h => by rw [tLines, if_neg (h c (by simp))]; rfl
  | c :: d :: r, _, h => by
    rw [tLines, if_neg (h c (by simp)), lines_last (d :: r) (by simp) (fun x hx => h x (by simp [hx]))]
    rfl
theorem trim_cut (a : Str) : trimN (a ++ [10]) = a := by
  unfold trimN Lib.trimSuffix
  have : Lib.hasSuffix (a ++ [10]) [10] = true := by
    unfold Lib.hasSuffix
    rw [List.isSuffixOf_iff_suffix]
    exact ⟨a, rfl⟩
  rw [if_pos this]
  simp
theorem trim_last (r : Str) (h : ∀ x ∈ r, x ≠ 10) : trimN r = r := by
  unfold trimN Lib.trimSuffix
  have : Lib.hasSuffix r [10] = false := by
    rw [Bool.eq_false_iff]
    unfold Lib.hasSuffix
    intro e
    obtain ⟨t, ht⟩ := List.isSuffixOf_iff_suffix.1 e
    exact h 10 (by rw [← ht]; simp) rfl
  rw [this]; rfl
theorem index_no {r : Str} (h : Lib.indexByte r 10 = -1) : ∀ x ∈ r, x ≠ 10 := by
  intro x hx e
  subst e
  obtain ⟨k, hk, e⟩ := List.getElem_of_mem hx
  exact Lib.indexByte_none h k (by rw [List.getElem?_eq_getElem hk, e])
theorem index_yes {r : Str} {o : Nat} (h : Lib.indexByte r 10 = o) : o < r.length ∧ r = r.take o ++ 10 :: r.drop (o + 1) ∧ ∀ x ∈ r.take o, x ≠ 10 := by
  obtain ⟨h1, h2⟩ := Lib.indexByte_some h
  obtain ⟨ho, he⟩ := List.getElem?_eq_some_iff.1 h1
  refine ⟨ho, ?_, fun x hx e => ?_⟩
  · conv => lhs; rw [← List.take_append_drop o r]
    rw [List.drop_eq_getElem_cons ho, he]
  · subst e
    obtain ⟨k, hk, e⟩ := List.getElem_of_mem hx
    rw [List.length_take] at hk
    rw [List.getElem_take] at e
    exact h2 k (by omega) (by rw [List.getElem?_eq_getElem (by omega), e])
/-- one step of strings.Lines -/
theorem step_yes {s r : Str} {o : Nat} {pre : List Str} (h : Lib.indexByte r 10 = o) (hp : pre.map trimN ++ tLines r = tLines s) : (pre ++ [r.take (o + 1)]).map trimN ++ tLines (r.drop (o + 1)) = tLines s := by
  obtain ⟨ho, hr, hn⟩ := index_yes h
  have ht : r.take (o + 1) = r.take o ++ [10] := by
    rw [List.take_succ_eq_append_getElem ho]
    obtain ⟨h1, _⟩ := Lib.indexByte_some h
    rw [List.getElem?_eq_getElem ho] at h1
    rw [Option.some.inj h1]
  rw [← hp]
  conv => rhs; rw [hr, lines_cut _ _ hn]
  rw [List.map_append, List.map_singleton, ht, trim_cut]
  simp
theorem step_no {s r : Str} {pre : List Str} (h0 : r ≠ []) (h : Lib.indexByte r 10 = -1) (hp : pre.map trimN ++ tLines r = tLines s) : (pre ++ [r]).map trimN ++ tLines [] = tLines s := by
  rw [← hp, lines_last r h0 (index_no h), List.map_append, List.map_singleton, trim_last r (index_no h)]
  simp [tLines]
theorem lines_length : ∀ (s : Str), (tLines s).length ≤ s.length
  | [] => Nat.le_refl _
  | c :: l => by
    have h := lines_length l
    unfold tLines
    split
    · simp only [List.length_cons]; omega
    · unfold consHd
      split
      · simp
      · next p r he =>
        rw [he] at h
        simp only [List.length_cons] at h ⊢; omega
/-- the lines of a text, read -/
theorem reads_all : ∀ (ls : List Str) (es : List Ev), ls.map tParse = es.map Said.ev → tReads ls = .evs es
  | [], [], _ => rfl
  | [], e :: es, h => by simp at h
  | x :: ls, [], h => by simp at h
  | x :: ls, e :: es, h => by
    simp only [List.map_cons, List.cons.injEq] at h
    unfold tReads
    rw [h.1, reads_all ls es h.2]
theorem reads_no : ∀ (ls : List Str) (es : List Ev) (x : Str) (rest : List Str) (n : Int), ls.map tParse = es.map Said.ev → tParse x = .no n → tReads (ls ++ x :: rest) = .no n
  | [], [], x, rest, n, _, hx => by
    rw [List.nil_append]
    unfold tReads
    rw [hx]
  | [], e :: es, _, _, _, h, _ => by simp at h
  | y :: ls, [], _, _, _, h, _ => by simp at h
  | y :: ls, e :: es, x, rest, n, h, hx => by
    simp only [List.map_cons, List.cons.injEq] at h
    rw [List.cons_append]
    unfold tReads
    rw [h.1, reads_no ls es x rest n h.2 hx]
end Go.Proofs.YthjdaehiebcoaaaGreatDoor
