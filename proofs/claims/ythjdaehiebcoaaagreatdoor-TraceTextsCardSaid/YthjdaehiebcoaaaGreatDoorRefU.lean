/- liaisonref27.Parse: its contract. -/
import Derived.Test.YthjdaehiebcoaaaGreatDoorRows
import Derived.WalkKit
import Derived.WalkSpells
import Derived.WalkLawsBesides
import Derived.BigQuiet
import Derived.Deep.QuietTactic
import Derived.StillTailTactics
import Derived.Handy
import Derived.Lib.Hide
import Derived.Test.YthjdaehiebcoaaaGreatDoorRefT
import Derived.Test.YthjdaehiebcoaaaGreatDoorRefTb
import Derived.Test.YthjdaehiebcoaaaGreatDoorRefTc
set_option linter.unusedSimpArgs false
set_option linter.unusedVariables false
namespace Go.Proofs.YthjdaehiebcoaaaGreatDoor
open Go.RowKit

theorem pieces_len_le : ∀ (s x : Str), x ∈ pieces s → x.length ≤ s.length
  | [], x, h => by simp [pieces] at h; subst h; simp
  | c :: l, x, h => by
    unfold pieces at h
    by_cases hc : c = 32
    · rw [if_pos hc] at h
      rcases List.mem_cons.1 h with h | h
      · subst h; simp
      · have := pieces_len_le l x h
        simp only [List.length_cons]; omega
    · rw [if_neg hc] at h
      cases hp : pieces l with
      | nil => exact absurd hp (pieces_ne l)
      | cons p r =>
        rw [hp] at h
        simp only [consHd] at h
        rcases List.mem_cons.1 h with h | h
        · subst h
          have := pieces_len_le l p (by rw [hp]; simp)
          simp only [List.length_append, List.length_cons, List.length_nil]; omega
        · have := pieces_len_le l x (by rw [hp]; simp [h])
          simp only [List.length_cons]; omega
theorem rdOk_node (c : Str) : rdOk [110] c = (tNode c).isSome := by
  unfold rdOk tNode
  cases c with
  | nil => rfl
  | cons x r =>
    by_cases hx : x = 110
    · subst hx
      simp only [List.length_cons, List.length_nil, List.drop_succ_cons, List.drop_zero]
      cases hd : tDigs r <;> simp [List.isPrefixOf]
    · have : ([110] : Str).isPrefixOf (x :: r) = false := by simp [List.isPrefixOf]; exact fun h => hx h.symm
      rw [this]
      split
      · next heq => simp at heq; exact absurd heq.1 hx
      · rfl
theorem rdOk_digs {c : Str} (h : rdOk [110] c = true) : tDigs (c.drop 1) = true ∧ c ≠ [45] := by
  unfold rdOk at h
  simp only [Bool.and_eq_true] at h
  refine ⟨h.2, fun e => ?_⟩
  subst e
  exact absurd h.1 (by decide)
theorem rparse_of (s : Str) (hs : s.length ≤ 100000) (w : World) :
    Calls Tryz.prog 7 #[.string (bs s)] w (Makes (.tuple #[evV (tParse s).get, .int .i64 (tParse s).num]) w) := by
  by_cases h5 : (pieces s).length = 5
  · obtain ⟨x0, x1, x2, x3, x4, hl⟩ : ∃ x0 x1 x2 x3 x4, pieces s = [x0, x1, x2, x3, x4] := by
      match hp : pieces s, h5 with
      | [x0, x1, x2, x3, x4], _ => exact ⟨x0, x1, x2, x3, x4, rfl⟩
    have hle : ∀ x ∈ [x0, x1, x2, x3, x4], x.length ≤ 100000 := fun x hx => Nat.le_trans (pieces_len_le s x (by rw [hl]; exact hx)) hs
    have z0 := hle x0 (by simp); have z2 := hle x2 (by simp); have z3 := hle x3 (by simp); have z4 := hle x4 (by simp)
    have hpar : tParse s = tSay x0 x1 x2 x3 x4 := by unfold tParse; rw [hl]
    have hno : ∀ n, tSay x0 x1 x2 x3 x4 = .no n → (.tuple #[evV (tParse s).get, .int .i64 (tParse s).num] : Value) = .tuple #[evZero, .int .i64 n] := fun n h => by rw [hpar, h]; rfl
    have hev : ∀ e, tSay x0 x1 x2 x3 x4 = .ev e → (.tuple #[evV (tParse s).get, .int .i64 (tParse s).num] : Value) = .tuple #[evV e, .int .i64 0] := fun e h => by rw [hpar, h]; rfl
    cases hc : (tWord x1 && okPiece x3 && okPiece x4) with
    | false =>
      have : tSay x0 x1 x2 x3 x4 = .no 4 := by
        unfold tSay tForm
        rw [piece_eq, piece_eq]
        rw [if_neg]
        intro h
        simp only [Bool.and_eq_true] at h
        rw [h.1.1.1.1, h.1.1.2, h.1.2] at hc
        cases hc
      rw [hno 4 this]
      exact rparse_form s x0 x1 x2 x3 x4 hs hl ⟨z3, z4⟩ hc w
    | true =>
      simp only [Bool.and_eq_true] at hc
      obtain ⟨⟨hw, h3⟩, h4⟩ := hc
      have m3 := meant_ok h3; have m4 := meant_ok h4
      by_cases hn : tDigs x0 = true ∧ (rdOk [110] x2 = true ∨ x2 = [45])
      · obtain ⟨hd, hr⟩ := hn
        have hform : tForm x0 x1 x2 x3 x4 = true := by
          unfold tForm
          rw [piece_eq, piece_eq, hw, hd, h3, h4, ← rdOk_node]
          rcases hr with hr | hr
          · rw [hr]; simp
          · rw [hr]; rfl
        have hsay : tSay x0 x1 x2 x3 x4 = if (tVal7 x0 : Int) ≤ 999999 ∧ tNodeV x2 ≤ 3 then .ev ⟨tVal7 x0, x1, tNodeV x2, tMeant x3, tMeant x4⟩ else .no 1 := by
          unfold tSay; rw [if_pos hform]
        have v0 := val7_cases x0 hd
        rcases hr with hr | hr
        · obtain ⟨hd2, h45⟩ := rdOk_digs hr
          have v2 := val7_cases (x2.drop 1) hd2
          have hN : tNodeV x2 = (tVal7 (x2.drop 1) : Int) := by unfold tNodeV; rw [if_neg h45]
          by_cases ha : (tSat x0 : Int) ≤ 999999
          · by_cases hb : (tSat (x2.drop 1) : Int) ≤ 3
            · have e0 : tVal7 x0 = tSat x0 := by omega
              have e2 : tVal7 (x2.drop 1) = tSat (x2.drop 1) := by omega
              rw [hN, e0, e2, if_pos ⟨ha, hb⟩] at hsay
              rw [hev _ hsay]
              exact rparse_yy s x0 x1 x2 x3 x4 _ _ hs hl ⟨z3, z4⟩ ⟨z0, z2⟩ hw m3 m4 hd _ rfl _ hr rfl ha hb w
            · rw [hN, if_neg (by omega)] at hsay
              rw [hno 1 hsay]
              exact rparse_yn2 s x0 x1 x2 x3 x4 _ _ hs hl ⟨z3, z4⟩ ⟨z0, z2⟩ hw m3 m4 hd _ rfl _ hr rfl ha (by omega) w
          · rw [hN, if_neg (by omega)] at hsay
            rw [hno 1 hsay]
            exact rparse_yn1 s x0 x1 x2 x3 x4 _ _ hs hl ⟨z3, z4⟩ ⟨z0, z2⟩ hw m3 m4 hd _ rfl _ hr rfl (by omega) w
        · have hr2 : rdOk [110] x2 = false := by rw [hr]; decide
          have hN : tNodeV x2 = -1 := by unfold tNodeV; rw [if_pos hr]
          by_cases ha : (tSat x0 : Int) ≤ 999999
          · have e0 : tVal7 x0 = tSat x0 := by omega
            rw [hN, e0, if_pos ⟨ha, by decide⟩] at hsay
            rw [hev _ hsay]
            exact rparse_ny s x0 x1 x2 x3 x4 _ _ hs hl ⟨z3, z4⟩ ⟨z0, z2⟩ hw m3 m4 hd _ rfl hr2 hr ha w
          · rw [hN, if_neg (by omega)] at hsay
            rw [hno 1 hsay]
            exact rparse_nn s x0 x1 x2 x3 x4 _ _ hs hl ⟨z3, z4⟩ ⟨z0, z2⟩ hw m3 m4 hd _ rfl hr2 hr (by omega) w
      · have hform : tForm x0 x1 x2 x3 x4 = false := by
          cases hf : tForm x0 x1 x2 x3 x4 with
          | false => rfl
          | true =>
            exfalso
            unfold tForm at hf
            rw [← rdOk_node] at hf
            simp only [Bool.and_eq_true, Bool.or_eq_true, beq_iff_eq] at hf
            exact hn ⟨hf.1.1.1.2, hf.2.symm⟩
        have hsay : tSay x0 x1 x2 x3 x4 = .no 4 := by unfold tSay; rw [if_neg (by rw [hform]; decide)]
        rw [hno 4 hsay]
        refine rparse_num s x0 x1 x2 x3 x4 _ _ hs hl ⟨z3, z4⟩ ⟨z0, z2⟩ hw m3 m4 ?_ w
        cases hd : tDigs x0 with
        | false => exact .inl rfl
        | true =>
          refine .inr ⟨rfl, ?_, fun h => hn ⟨hd, .inr h⟩⟩
          cases hr : rdOk [110] x2 with
          | false => rfl
          | true => exact absurd ⟨hd, .inl hr⟩ hn
  · have hpar : tParse s = .no 4 := by
      unfold tParse
      split
      · next hh => rw [hh] at h5; exact absurd rfl h5
      · rfl
    rw [hpar]
    exact rparse_len s hs h5 w
end Go.Proofs.YthjdaehiebcoaaaGreatDoor
