/- Events and their lines, plain: words, texts, numbers, pieces between blanks, what a line says. -/
import Derived.Test.YthjdaehiebcoaaaGreatDoorRows
import Derived.WalkKit
import Derived.WalkSpells
import Derived.WalkLawsBesides
import Derived.BigQuiet
import Derived.Deep.QuietTactic
import Derived.StillTailTactics
import Derived.Handy
import Derived.Lib.Hide
import Derived.Lib.SplitLaws
import Derived.Lib.ItoaNum
import Derived.Lib.Strings
set_option linter.unusedSimpArgs false
set_option linter.unusedVariables false
namespace Go.Proofs.YthjdaehiebcoaaaGreatDoor
open Go.RowKit

abbrev Str := List UInt8
def bs (l : Str) : ByteArray := ⟨l.toArray⟩
theorem bs_list (l : Str) : (bs l).data.toList = l := rfl
theorem bs_of (b : ByteArray) : bs b.data.toList = b := by cases b; simp [bs]
theorem bs_inj {a b : Str} (h : bs a = bs b) : a = b := by
  have := congrArg (fun x : ByteArray => x.data.toList) h
  simpa [bs] using this
theorem bs_size (l : Str) : (bs l).size = l.length := by simp [bs, ByteArray.size]
theorem data_inj {a b : ByteArray} (h : a.data.toList = b.data.toList) : a = b := by
  cases a; cases b; simp at h; subst h; rfl

def tWord (s : Str) : Bool := s == [111, 112] || s == [115, 101, 110, 116] || s == [108, 111, 115, 116] || s == [116, 111, 108, 100] || s == [115, 101, 97, 116] || s == [119, 111, 114, 107]
def tByte (c : UInt8) : Bool := !(decide (c < 33) || decide (126 < c))
def tText (s : Str) : Bool := s.all tByte && decide (s.length ≤ 200) && !(s == [45])
def tShown (s : Str) : Str := if s = [] then [45] else s
def tMeant (s : Str) : Str := if s = [45] then [] else s
/-- an event -/
structure Ev where
  step : Int
  what : Str
  node : Int
  first : Str
  second : Str
deriving DecidableEq
def ev0 : Ev := ⟨0, [], 0, [], []⟩
def tPlace (n : Int) : Str := if n = -1 then [45] else 110 :: Lib.decDigits n.toNat
def tLineOf (e : Ev) : Str := Lib.decDigits e.step.toNat ++ 32 :: (e.what ++ 32 :: (tPlace e.node ++ 32 :: (tShown e.first ++ 32 :: tShown e.second)))
/-- the error's number of an event's line; 0: it has one -/
def tLineN (e : Ev) : Int :=
  if tWord e.what && tText e.first && tText e.second then
    if 0 ≤ e.step ∧ e.step ≤ 999999 ∧ -1 ≤ e.node ∧ e.node ≤ 3 then 0 else 1
  else 4
def tLine (e : Ev) : Str := if tLineN e = 0 then tLineOf e else []

/-- a number's digits -/
def tDig (c : UInt8) : Bool := decide (48 ≤ c) && decide (c ≤ 57)
def tDigs (s : Str) : Bool := !(s == []) && (s == [48] || !(s.head? == some 48)) && s.all tDig
def dgv (n : Nat) (c : UInt8) : Nat := 10 * n + (c.toNat - 48)
def tVal (s : Str) : Nat := s.foldl dgv 0
def tVal7 (s : Str) : Nat := tVal (s.take 7)
def satv (n : Nat) (c : UInt8) : Nat := min (10 * n + (c.toNat - 48)) 1000000
def tSat (s : Str) : Nat := s.foldl satv 0
theorem sat_min : ∀ (s : Str) (n : Nat), s.foldl satv (min n 1000000) = min (s.foldl dgv n) 1000000
  | [], n => rfl
  | c :: s, n => by
    simp only [List.foldl_cons]
    have : satv (min n 1000000) c = min (dgv n c) 1000000 := by unfold satv dgv; omega
    rw [this]
    exact sat_min s _
theorem tSat_eq (s : Str) : tSat s = min (tVal s) 1000000 := sat_min s 0
theorem val_ge : ∀ (s : Str) (n : Nat), n ≤ s.foldl dgv n
  | [], n => Nat.le_refl _
  | c :: s, n => by
    have := val_ge s (dgv n c)
    simp only [List.foldl_cons]
    unfold dgv at this ⊢
    omega
theorem val_pow : ∀ (s : Str) (n : Nat), n * 10 ^ s.length ≤ s.foldl dgv n
  | [], n => by simp
  | c :: s, n => by
    have h := val_pow s (dgv n c)
    simp only [List.foldl_cons, List.length_cons]
    refine Nat.le_trans ?_ h
    rw [Nat.pow_succ, Nat.mul_comm (10 ^ s.length) 10, ← Nat.mul_assoc]
    refine Nat.mul_le_mul_right _ ?_
    unfold dgv; omega
theorem val_lt : ∀ (s : Str) (n : Nat), s.all tDig = true → s.foldl dgv n < (n + 1) * 10 ^ s.length
  | [], n, _ => by simp
  | c :: s, n, h => by
    simp only [List.all_cons, Bool.and_eq_true] at h
    have := val_lt s (dgv n c) h.2
    simp only [List.foldl_cons, List.length_cons]
    refine Nat.lt_of_lt_of_le this ?_
    rw [Nat.pow_succ, Nat.mul_comm (10 ^ s.length) 10, ← Nat.mul_assoc]
    refine Nat.mul_le_mul_right _ ?_
    have hc := h.1
    simp only [tDig, Bool.and_eq_true, decide_eq_true_eq, UInt8.le_iff_toNat_le] at hc
    have h57 : (57 : UInt8).toNat = 57 := rfl
    unfold dgv; omega
theorem val7_lt (s : Str) (h : s.all tDig = true) : tVal7 s < 10000000 := by
  have h2 : (s.take 7).all tDig = true := List.all_eq_true.2 fun x hx => List.all_eq_true.1 h x (List.mem_of_mem_take hx)
  have := val_lt (s.take 7) 0 h2
  have hl : (s.take 7).length ≤ 7 := by rw [List.length_take]; omega
  have : 10 ^ (s.take 7).length ≤ 10 ^ 7 := Nat.pow_le_pow_right (by omega) hl
  unfold tVal7 tVal
  omega
/-- of more than seven digits both say too great -/
theorem val7_cases (s : Str) (h : tDigs s = true) : tVal7 s = tSat s ∧ tVal7 s ≤ 1000000 ∨ 1000000 ≤ tVal7 s ∧ tSat s = 1000000 := by
  unfold tDigs at h
  simp only [Bool.and_eq_true, Bool.not_eq_true', beq_eq_false_iff_ne, ne_eq, Bool.or_eq_true, beq_iff_eq] at h
  obtain ⟨⟨hne, h0⟩, hd⟩ := h
  by_cases hl : s.length ≤ 6
  · left
    have ht : s.take 7 = s := List.take_of_length_le (by omega)
    have hv := val_lt s 0 hd
    have hp : 10 ^ s.length ≤ 10 ^ 6 := Nat.pow_le_pow_right (by omega) hl
    rw [tSat_eq]
    unfold tVal7
    rw [ht]
    unfold tVal
    omega
  · have hlong : 1000000 ≤ tVal7 s := by
      match s, hne, h0, hd, hl with
      | c :: r, _, h0, hd, hl =>
        have hc : c ≠ 48 := by
          rcases h0 with h0 | h0
          · rw [h0] at hl; simp at hl
          · simpa using h0
        simp only [List.all_cons, Bool.and_eq_true] at hd
        have hc1 := hd.1
        simp only [tDig, Bool.and_eq_true, decide_eq_true_eq, UInt8.le_iff_toNat_le] at hc1
        have h48 : (48 : UInt8).toNat = 48 := rfl
        have hcn : c.toNat ≠ 48 := fun h => hc (UInt8.toNat_inj.1 (by rw [h, h48]))
        have := val_pow (r.take 6) (dgv 0 c)
        have hlr : (r.take 6).length = 6 := by rw [List.length_take]; simp at hl; omega
        rw [hlr] at this
        have e7 : tVal7 (c :: r) = (r.take 6).foldl dgv (dgv 0 c) := by simp [tVal7, tVal]
        rw [e7]
        have hdg : 1 ≤ dgv 0 c := by unfold dgv; omega
        omega
    have hge : tVal7 s ≤ tVal s := by
      have e : tVal s = (s.drop 7).foldl dgv (tVal7 s) := by
        unfold tVal7 tVal
        rw [← List.foldl_append, List.take_append_drop]
      rw [e]
      exact val_ge _ _
    right
    refine ⟨hlong, ?_⟩
    rw [tSat_eq]; omega

/-- a text's pieces between blanks -/
def consHd (a : Str) : List Str → List Str
  | [] => [a]
  | p :: r => (a ++ p) :: r
def pieces : Str → List Str
  | [] => [[]]
  | c :: l => if c = 32 then [] :: pieces l else consHd [c] (pieces l)
theorem pieces_ne (l : Str) : pieces l ≠ [] := by
  cases l with
  | nil => simp [pieces]
  | cons c l =>
    unfold pieces
    split
    · simp
    · unfold consHd; split <;> simp
theorem consHd_app (a b : Str) (L : List Str) (h : L ≠ []) : consHd a (consHd b L) = consHd (a ++ b) L := by
  cases L with
  | nil => exact absurd rfl h
  | cons p r => simp [consHd]
theorem pieces_app : ∀ (a b : Str), (∀ x ∈ a, x ≠ 32) → pieces (a ++ b) = consHd a (pieces b)
  | [], b, _ => by
    have := pieces_ne b
    cases h : pieces b with
    | nil => exact absurd h this
    | cons p r => simp [consHd, h]
  | c :: a, b, h => by
    have hc : c ≠ 32 := h c (by simp)
    rw [List.cons_append, pieces, if_neg hc, pieces_app a b (fun x hx => h x (by simp [hx])), consHd_app _ _ _ (pieces_ne b)]
    rfl
theorem pieces_blank (a b : Str) (h : ∀ x ∈ a, x ≠ 32) : pieces (a ++ 32 :: b) = a :: pieces b := by
  rw [pieces_app a _ h, pieces, if_pos rfl]
  simp [consHd]
theorem pieces_end (a : Str) (h : ∀ x ∈ a, x ≠ 32) : pieces a = [a] := by
  have := pieces_app a [] h
  rw [List.append_nil] at this
  rw [this]
  simp [pieces, consHd]
theorem pieces_length (l : Str) : (pieces l).length = l.count 32 + 1 := by
  induction l with
  | nil => rfl
  | cons c l ih =>
    unfold pieces
    by_cases hc : c = 32
    · rw [if_pos hc, hc]
      simp [ih]
    · rw [if_neg hc]
      have hp := pieces_ne l
      cases h : pieces l with
      | nil => exact absurd h hp
      | cons p r =>
        rw [h] at ih
        simp only [consHd, List.length_cons] at ih ⊢
        rw [List.count_cons_of_ne (fun h => hc h)]
        exact ih

/-- what a line says: an event, or the error's number -/
inductive Said where
  | ev (e : Ev)
  | no (n : Int)
deriving DecidableEq
def tNode (c : Str) : Option Str := match c with
  | 110 :: r => if tDigs r then some r else none
  | _ => none
def tForm (a b c d e : Str) : Bool := tWord b && tDigs a && (d == [45] || !(d == []) && tText d) && (e == [45] || !(e == []) && tText e) && (c == [45] || (tNode c).isSome)
def tNodeV (c : Str) : Int := if c = [45] then -1 else (tVal7 (c.drop 1) : Int)
def tSay (a b c d e : Str) : Said :=
  if tForm a b c d e then
    if (tVal7 a : Int) ≤ 999999 ∧ tNodeV c ≤ 3 then .ev ⟨tVal7 a, b, tNodeV c, tMeant d, tMeant e⟩ else .no 1
  else .no 4
def tParse (s : Str) : Said := match pieces s with
  | [a, b, c, d, e] => tSay a b c d e
  | _ => .no 4
def Said.num : Said → Int
  | .ev _ => 0
  | .no n => n
def Said.get : Said → Ev
  | .ev e => e
  | .no _ => ev0
theorem said_num (a b c d e : Str) : (tSay a b c d e).num = 0 ∨ (tSay a b c d e).num = 1 ∨ (tSay a b c d e).num = 4 := by
  unfold tSay
  split
  · split
    · exact .inl rfl
    · exact .inr (.inl rfl)
  · exact .inr (.inr rfl)
theorem parse_num (s : Str) : (tParse s).num = 0 ∨ (tParse s).num = 1 ∨ (tParse s).num = 4 := by
  unfold tParse
  split
  · exact said_num _ _ _ _ _
  · exact .inr (.inr rfl)
theorem line_num (e : Ev) : tLineN e = 0 ∨ tLineN e = 1 ∨ tLineN e = 4 := by
  unfold tLineN
  split
  · split
    · exact .inl rfl
    · exact .inr (.inl rfl)
  · exact .inr (.inr rfl)

/-- the digits of a number are digits, and say it -/
theorem dec_val : ∀ (n : Nat), tVal (Lib.decDigits n) = n := by
  intro n
  induction n using Nat.strongRecOn with
  | _ n ih =>
    rw [Lib.decDigits]
    split
    · next h =>
      have : (UInt8.ofNat (48 + n)).toNat = 48 + n := by rw [UInt8.toNat_ofNat']; omega
      simp only [tVal, List.foldl_cons, List.foldl_nil, dgv, this]; omega
    · next h =>
      have e := ih (n / 10) (by omega)
      have : (UInt8.ofNat (48 + n % 10)).toNat = 48 + n % 10 := by rw [UInt8.toNat_ofNat']; omega
      simp only [tVal] at e
      simp only [tVal, List.foldl_append, List.foldl_cons, List.foldl_nil, e, dgv, this]; omega
theorem dec_dig : ∀ (n : Nat), (Lib.decDigits n).all tDig = true := by
  intro n
  induction n using Nat.strongRecOn with
  | _ n ih =>
    have dig : ∀ k, k < 10 → tDig (UInt8.ofNat (48 + k)) = true := by decide
    rw [Lib.decDigits]
    split
    · next h => rw [List.all_cons, dig n h]; rfl
    · next h =>
      have e := ih (n / 10) (by omega)
      rw [List.all_append, e, List.all_cons, dig (n % 10) (by omega)]; rfl
theorem dec_ne (n : Nat) : Lib.decDigits n ≠ [] := by
  rw [Lib.decDigits]
  split <;> simp
theorem dec_head : ∀ (n : Nat), n ≠ 0 → (Lib.decDigits n).head? ≠ some 48 := by
  intro n
  induction n using Nat.strongRecOn with
  | _ n ih =>
    intro h0
    rw [Lib.decDigits]
    split
    · next h =>
      have dig : ∀ k, k < 10 → k ≠ 0 → UInt8.ofNat (48 + k) ≠ 48 := by decide
      simpa using dig n h h0
    · next h =>
      have e := ih (n / 10) (by omega) (by omega)
      have hne := dec_ne (n / 10)
      cases hd : Lib.decDigits (n / 10) with
      | nil => exact absurd hd hne
      | cons c r => rw [hd] at e; simpa using e
theorem dec_zero : Lib.decDigits 0 = [48] := by rw [Lib.decDigits]; rfl
theorem dec_digs (n : Nat) : tDigs (Lib.decDigits n) = true := by
  unfold tDigs
  rw [dec_dig n]
  by_cases h : n = 0
  · subst h; rw [dec_zero]; rfl
  · have h1 := dec_head n h
    have h2 := dec_ne n
    simp only [Bool.and_true, Bool.and_eq_true, Bool.not_eq_true', beq_eq_false_iff_ne, ne_eq, Bool.or_eq_true]
    exact ⟨h2, .inr h1⟩
theorem dec_val7 (n : Nat) (h : n ≤ 999999) : tVal7 (Lib.decDigits n) = n := by
  have h1 := val7_cases _ (dec_digs n)
  have h2 : tSat (Lib.decDigits n) = n := by rw [tSat_eq, dec_val]; omega
  omega
theorem dig_noblank {s : Str} (h : s.all tDig = true) : ∀ x ∈ s, x ≠ 32 := by
  intro x hx e
  have := List.all_eq_true.1 h x hx
  subst e
  exact absurd this (by decide)
theorem text_noblank {s : Str} (h : tText s = true) : ∀ x ∈ s, x ≠ 32 := by
  intro x hx e
  unfold tText at h
  simp only [Bool.and_eq_true] at h
  have := List.all_eq_true.1 h.1.1 x hx
  subst e
  exact absurd this (by decide)
theorem word_noblank {s : Str} (h : tWord s = true) : ∀ x ∈ s, x ≠ 32 := by
  intro x hx e
  unfold tWord at h
  simp only [Bool.or_eq_true, beq_iff_eq] at h
  subst e
  rcases h with ((((h | h) | h) | h) | h) | h <;> (subst h; simp at hx)
theorem shown_noblank {s : Str} (h : tText s = true) : ∀ x ∈ tShown s, x ≠ 32 := by
  intro x hx
  unfold tShown at hx
  split at hx
  · intro e; subst e; simp at hx
  · exact text_noblank h x hx
theorem place_noblank (n : Int) : ∀ x ∈ tPlace n, x ≠ 32 := by
  intro x hx
  unfold tPlace at hx
  split at hx
  · intro e; subst e; simp at hx
  · rcases List.mem_cons.1 hx with h | h
    · subst h; decide
    · exact dig_noblank (dec_dig _) x h
theorem meant_shown {s : Str} (h : tText s = true) : tMeant (tShown s) = s ∧ (tShown s == [45] || !(tShown s == []) && tText (tShown s)) = true := by
  unfold tText at h
  simp only [Bool.and_eq_true, Bool.not_eq_true', beq_eq_false_iff_ne, ne_eq] at h
  unfold tShown
  by_cases hs : s = []
  · rw [if_pos hs, hs]; exact ⟨rfl, rfl⟩
  · rw [if_neg hs]
    refine ⟨by unfold tMeant; rw [if_neg h.2], ?_⟩
    simp [hs, tText, h.1.1, h.1.2, h.2]
/-- EVERY LINE IS READ AS ITS EVENT -/
theorem parse_line (e : Ev) (h : tLineN e = 0) : tParse (tLineOf e) = .ev e := by
  unfold tLineN at h
  split at h
  next h1 =>
    split at h
    next h2 =>
      obtain ⟨step, what, node, first, second⟩ := e
      dsimp only at h1 h2
      simp only [Bool.and_eq_true] at h1
      obtain ⟨⟨hw, hf⟩, hs⟩ := h1
      obtain ⟨s0, s1, n0, n1⟩ := h2
      have hp : pieces (tLineOf ⟨step, what, node, first, second⟩) = [Lib.decDigits step.toNat, what, tPlace node, tShown first, tShown second] := by
        unfold tLineOf
        dsimp only
        rw [pieces_blank _ _ (dig_noblank (dec_dig _)), pieces_blank _ _ (word_noblank hw), pieces_blank _ _ (place_noblank _), pieces_blank _ _ (shown_noblank hf), pieces_end _ (shown_noblank hs)]
      unfold tParse
      rw [hp]
      dsimp only
      obtain ⟨f1, f2⟩ := meant_shown hf
      obtain ⟨g1, g2⟩ := meant_shown hs
      have hv : tVal7 (Lib.decDigits step.toNat) = step.toNat := dec_val7 _ (by omega)
      have hnode : (tPlace node == [45] || (tNode (tPlace node)).isSome) = true ∧ tNodeV (tPlace node) = node := by
        unfold tPlace
        by_cases hn : node = -1
        · rw [if_pos hn, hn]; exact ⟨rfl, rfl⟩
        · rw [if_neg hn]
          have hne : ¬ (110 :: Lib.decDigits node.toNat = [45]) := by simp
          refine ⟨by simp [tNode, dec_digs], ?_⟩
          unfold tNodeV
          rw [if_neg hne, List.drop_one, List.tail_cons, dec_val7 _ (by omega)]
          omega
      have hform : tForm (Lib.decDigits step.toNat) what (tPlace node) (tShown first) (tShown second) = true := by
        unfold tForm
        rw [hw, dec_digs, f2, g2, hnode.1]; rfl
      unfold tSay
      rw [if_pos hform, hv, hnode.2, if_pos (by omega), f1, g1]
      congr 2
      omega
    next => cases h
  next => cases h

/-- lines: what stands ahead of each line feed, and what is left -/
def tLines : Str → List Str
  | [] => []
  | c :: l => if c = 10 then [] :: tLines l else consHd [c] (tLines l)
/-- the events of lines; an error's number -/
inductive Saids where
  | evs (l : List Ev)
  | no (n : Int)
def tReads : List Str → Saids
  | [] => .evs []
  | x :: r => match tParse x with
    | .no n => .no n
    | .ev e => match tReads r with
      | .evs l => .evs (e :: l)
      | .no n => .no n
def tRead (s : Str) : Saids := if s = [] ∨ s.getLast? = some 10 then tReads (tLines s) else .no 4
end Go.Proofs.YthjdaehiebcoaaaGreatDoor
