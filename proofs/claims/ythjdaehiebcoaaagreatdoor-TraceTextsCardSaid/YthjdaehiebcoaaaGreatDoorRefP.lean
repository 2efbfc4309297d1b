/- The walk of liaisonref27.split: a text's pieces between blanks. -/
import Derived.Test.YthjdaehiebcoaaaGreatDoorRows
import Derived.WalkKit
import Derived.WalkSpells
import Derived.WalkLawsBesides
import Derived.BigQuiet
import Derived.Deep.QuietTactic
import Derived.StillTailTactics
import Derived.Handy
import Derived.Lib.Hide
import Derived.Test.YthjdaehiebcoaaaGreatDoorRefN
import Derived.OwnWalk
import Derived.Laws.OwnMore
import Derived.Deep.AppendLies
set_option linter.unusedSimpArgs false
set_option linter.unusedVariables false
namespace Go.Proofs.YthjdaehiebcoaaaGreatDoor
open Go.RowKit

theorem ext_bs (s : Str) (f i : Nat) : (bs s).extract f i = bs ((s.drop f).take (i - f)) := by
  rw [Lib.extract_eq, bs_list]; rfl
theorem row_slice {w : World} {B : Nat} {e : TypeId} {size : Nat} {v : Value} {n : Nat} {xs : List Value} (h : w.ownsRow B e size v n xs) : ∃ a cap, v = .slice a n cap := by
  rcases h.2 with ⟨rfl, rfl⟩ | ⟨g, cap, cur, rfl, _⟩
  · exact ⟨_, _, rfl⟩
  · exact ⟨_, _, rfl⟩
theorem infoStr : (Tryz.prog.info? 9).map (fun i => (i.zero, i.size, i.bytes)) = some (some (.string ⟨#[]⟩), 1, 16) := by kernel_rfl
def strs (l : List Str) : List Value := l.map (fun x => .string (bs x))
/-- a list of texts in a slice of the call's own -/
def OwnT (B : Nat) (v : Value) (xs : List Str) (w : World) : Prop := w.ownsRow B 9 1 v xs.length (strs xs)
/-- a function that answers texts in a slice of its own -/
def MakesT (xs : List Str) (w : World) (e : Ending) (w' : World) : Prop := ∃ v, e = .returned v ∧ OwnT w.heap.size v xs w' ∧ Below w.heap.size w w'
/-- what stands ahead of a place, in pieces -/
def Cut (s : Str) (xs : List Str) (f j : Nat) : Prop := pieces s = xs ++ pieces (s.drop f) ∧ (∀ x ∈ (s.drop f).take (j - f), x ≠ 32) ∧ xs.length ≤ f
theorem cut_on {s : Str} {xs : List Str} {f j : Nat} (h : Cut s xs f j) (hf : f ≤ j) (hj : j < s.length) (hx : s[j] ≠ 32) : Cut s xs f (j + 1) := by
  refine ⟨h.1, fun x hm => ?_, h.2.2⟩
  rw [show j + 1 - f = (j - f) + 1 by omega, List.take_succ_eq_append_getElem (by simp; omega)] at hm
  rcases List.mem_append.1 hm with hm | hm
  · exact h.2.1 x hm
  · simp only [List.mem_singleton, List.getElem_drop] at hm
    rw [hm]
    simpa [show f + (j - f) = j by omega] using hx
theorem cut_at {s : Str} {xs : List Str} {f j : Nat} (h : Cut s xs f j) (hf : f ≤ j) (hj : j < s.length) (hx : s[j] = 32) : Cut s (xs ++ [(s.drop f).take (j - f)]) (j + 1) (j + 1) := by
  refine ⟨?_, fun x hm => by simp at hm, ?_⟩
  · have e : s.drop f = (s.drop f).take (j - f) ++ 32 :: s.drop (j + 1) := by
      conv => lhs; rw [← List.take_append_drop (j - f) (s.drop f)]
      rw [List.drop_drop, show f + (j - f) = j by omega, List.drop_eq_getElem_cons hj, hx]
    rw [h.1, List.append_assoc]
    congr 1
    conv => lhs; rw [e]
    rw [pieces_blank _ _ h.2.1]; rfl
  · rw [List.length_append, List.length_singleton]
    have := h.2.2
    omega
theorem cut_end {s : Str} {xs : List Str} {f : Nat} (h : Cut s xs f s.length) (hf : f ≤ s.length) : pieces s = xs ++ [s.drop f] := by
  rw [h.1, pieces_end]
  intro x hx
  refine h.2.1 x ?_
  rwa [List.take_of_length_le (by simp)]
set_option maxRecDepth 100000 in
set_option maxHeartbeats 2000000 in
theorem rsplit_of (s : Str) (hs : s.length ≤ 100000) (w : World) : Calls Tryz.prog 26 #[.string (bs s)] w (MakesT (pieces s) w) := by
  obtain ⟨n, hn⟩ : ∃ n : Nat, n = s.length := ⟨_, rfl⟩
  have hsz : (bs s).size = n := by rw [bs_size, hn]
  have hn1 : n ≤ 100000 := by omega
  have HN := Lib.hid hn
  obtain ⟨i0, ei, ez, es, eb⟩ := info_parts infoStr
  clear hn hs
  go_enter Tryz.func26, Tryz.ntmps26
  go_wp2_with fail
  go_loopw [3, 4, 5] (fun v a i wr => ∃ f j : Nat, ∃ xs : List Str, f ≤ j ∧ j ≤ n ∧ a = .int .i64 f ∧ i = .int .i64 j ∧ OwnT w.heap.size v xs wr ∧ Below w.heap.size w wr ∧ Hid (Cut s xs f j)) (fun _ _ i _ => n - (intOf i).toNat)
  case atStart =>
    refine ⟨0, 0, [], Nat.le_refl _, Nat.zero_le _, rfl, rfl, ?_, by go_grown, Lib.hid ⟨rfl, fun x hx => by simp at hx, Nat.zero_le _⟩⟩
    exact World.ownsRow_lit w #[] 0 (Nat.le_refl _) (by decide) rfl
  case round =>
    obtain ⟨f, j, xs, hf, hj, rfl, rfl, hown, hB, HC⟩ := hrel
    have hrow : wr.ownsRow w.heap.size 9 1 _ xs.length (strs xs) := hown
    obtain ⟨av, cv, rfl⟩ := row_slice hrow
    have hxl := HC.out.2.2
    by_cases hjn : j < n
    · have hjs : j < (bs s).size := by omega
      have hjl : j < s.length := by rw [← HN.out]; exact hjn
      have hj0 : (0 : Int) ≤ (j : Int) := by omega
      have hj1 : (j : Int) < (n : Int) := by omega
      by_cases hb : s[j] = 32
      · have hx : ((((bs s)[j]'hjs).toNat : Int) == 32) = true := by
          rw [show (bs s)[j]'hjs = s[j] from rfl, hb]; rfl
        have HC2 := Lib.hid (cut_at HC.out hf hjl hb)
        have hext := ext_bs s f j
        have hfi : (f : Int) ≤ (j : Int) := by omega
        have hf0 : (0 : Int) ≤ (f : Int) := by omega
        obtain ⟨x, hx2⟩ : ∃ x, x = (s.drop f).take (j - f) := ⟨_, rfl⟩
        rw [← hx2] at hext HC2
        clear hb hx2
        go_wp2_with (at_builtin; go_loud (refine wpList_append_own _ rfl _ _ 52 rfl w.heap.size 9 i0 (.string ⟨#[]⟩) 1 16 Tryz.underlying52 ei ez es eb rfl (by decide) _ _ _ rfl (hrow.alloc _) ⟨wr.heap.size, 0, none⟩ 1 1 [.string (bs x)] rfl rfl ?c1 ?c2 ?c3 ?c4 ?c5 ?_))
        case c1 =>
          intro j u hj
          match j, hj with
          | 0, hj => simp at hj; subst hj; simp [Addr.add]
        case c2 => intro u hu; simp at hu; subst hu; rfl
        case c3 => unfold maxLen; omega
        case c4 => omega
        case c5 => have := hB.size; simp; omega
        · intro v' w2 hown' hgrow _
          have hlt' := hrow.lt
          have hB' : Below w.heap.size w w2 := (hB.alloc hB.size _).grown hgrow (by have := hB.size; simp; omega) (fun k hk => by have := (hlt' k hk).1; omega)
          have hown2 : OwnT w.heap.size v' (xs ++ [x]) w2 := by
            unfold OwnT strs
            rw [List.length_append, List.map_append]
            exact hown'
          clear hown' hgrow hlt' hown hrow
          go_wp2
          go_roundw
          case rel => exact ⟨j + 1, j + 1, _, Nat.le_refl _, by omega, by go_num, by go_num, hown2, hB', HC2⟩
          case measure => simp [intOf]; omega
      · have hx : ((((bs s)[j]'hjs).toNat : Int) == 32) = false := by
          rw [show (bs s)[j]'hjs = s[j] from rfl, beq_eq_false_iff_ne]
          intro e
          apply hb
          have h1 : s[j].toNat = 32 := by exact_mod_cast e
          have h32 : (32 : UInt8).toNat = 32 := rfl
          exact UInt8.toNat_inj.1 (h1.trans h32.symm)
        have HC2 := Lib.hid (cut_on HC.out hf hjl hb)
        clear hb
        go_wp2_with fail
        go_roundw
        case rel => exact ⟨f, j + 1, xs, by omega, by omega, rfl, by go_num, hown, hB, HC2⟩
        case measure => simp [intOf]; omega
    · obtain rfl : j = n := by omega
      have hext := ext_bs s f j
      have hfi : (f : Int) ≤ (j : Int) := by omega
      have hf0 : (0 : Int) ≤ (f : Int) := by omega
      have hend : pieces s = xs ++ [(s.drop f).take (j - f)] := by
        have := HC.out
        rw [HN.out] at this
        rw [cut_end this (by rw [← HN.out]; exact hf), List.take_of_length_le (by rw [HN.out]; simp)]
      have HE := Lib.hid hend
      obtain ⟨x, hx2⟩ : ∃ x, x = (s.drop f).take (j - f) := ⟨_, rfl⟩
      rw [← hx2] at hext HE
      clear hend hx2
      go_wp2_with (at_builtin; go_loud (refine wpList_append_own _ rfl _ _ 52 rfl w.heap.size 9 i0 (.string ⟨#[]⟩) 1 16 Tryz.underlying52 ei ez es eb rfl (by decide) _ _ _ rfl (hrow.alloc _) ⟨wr.heap.size, 0, none⟩ 1 1 [.string (bs x)] rfl rfl ?d1 ?d2 ?d3 ?d4 ?d5 ?_))
      case d1 =>
        intro j u hj
        match j, hj with
        | 0, hj => simp at hj; subst hj; simp [Addr.add]
      case d2 => intro u hu; simp at hu; subst hu; rfl
      case d3 => unfold maxLen; omega
      case d4 => omega
      case d5 => have := hB.size; simp; omega
      · intro v' w2 hown' hgrow _
        have hlt' := hrow.lt
        have hB' : Below w.heap.size w w2 := (hB.alloc hB.size _).grown hgrow (by have := hB.size; simp; omega) (fun k hk => by have := (hlt' k hk).1; omega)
        have hown2 : OwnT w.heap.size v' (pieces s) w2 := by
          rw [HE.out]
          unfold OwnT strs
          rw [List.length_append, List.map_append]
          exact hown'
        clear hown' hgrow hlt' hown hrow
        go_wp2
        go_ret
        exact ⟨_, rfl, hown2, hB'⟩
end Go.Proofs.YthjdaehiebcoaaaGreatDoor
