/- slices.Delete of one element, slices.Clone: kinds on their way. -/
import Derived.Test.YtkanakhlmmpapaaDoorRows
import Derived.WalkKit
import Derived.WalkSpells
import Derived.WalkLawsBesides
import Derived.BigQuiet
import Derived.Deep.QuietTactic
import Derived.StillTailTactics
import Derived.Handy
import Derived.Lib.Hide
import Derived.Test.YtkanakhlmmpapaaDoorMovF
import Derived.Lib.SliceRun
import Derived.Deep.Upon
set_option linter.unusedSimpArgs false
set_option linter.unusedVariables false
namespace Go.Proofs.YtkanakhlmmpapaaDoor
open Go.RowKit

def layL : List Value → Nat → List Value → List Value
  | xs, _, [] => xs
  | xs, o, v :: r => layL (xs.set o v) (o + 1) r
theorem layL_eq : ∀ (vs xs : List Value) (o : Nat), o + vs.length ≤ xs.length → layL xs o vs = xs.take o ++ vs ++ xs.drop (o + vs.length)
  | [], xs, o, _ => by simp [layL]
  | v :: r, xs, o, h => by
    simp only [List.length_cons] at h
    unfold layL
    rw [layL_eq r (xs.set o v) (o + 1) (by simp; omega)]
    have l2 : (xs.take o).length = o := by simp; omega
    have e1 : xs.set o v = xs.take o ++ v :: xs.drop (o + 1) := by rw [List.set_eq_take_append_cons_drop, if_pos (by omega)]
    have e2 : (xs.set o v).take (o + 1) = xs.take o ++ [v] := by
      rw [e1, List.take_append, l2, List.take_of_length_le (by omega), show o + 1 - o = 1 by omega]; rfl
    have e3 : (xs.set o v).drop (o + 1 + r.length) = xs.drop (o + 1 + r.length) := by
      rw [e1, List.drop_append, l2, List.drop_eq_nil_of_le (by omega), show o + 1 + r.length - o = r.length + 1 by omega, List.drop_succ_cons, List.drop_drop]; rfl
    rw [e2, e3, List.length_cons, show o + (r.length + 1) = o + 1 + r.length by omega]
    simp
theorem stored_many {B : Nat} {e : TypeId} {size g n cap : Nat} : ∀ (vs : List Value) (o : Nat) (xs : List Value) (w : World), w.ownsRow B e size (.slice (some ⟨g, 0, none⟩) n cap) n xs →
    (w.setCells g o vs).ownsRow B e size (.slice (some ⟨g, 0, none⟩) n cap) n (layL xs o vs) ∧ w.grownBy (w.setCells g o vs) (some g)
  | [], o, xs, w, h => ⟨h, World.grownBy.refl w _⟩
  | v :: r, o, xs, w, h => by
    have h1 := h.stored o v
    have h2 := stored_many r (o + 1) (xs.set o v) _ h1.1
    exact ⟨h2.1, h1.2.trans h2.2⟩
theorem shrink {w : World} {B : Nat} {e : TypeId} {size g n n' cap : Nat} {xs : List Value} (h : w.ownsRow B e size (.slice (some ⟨g, 0, none⟩) n cap) n xs) (hn : n' ≤ n) :
    w.ownsRow B e size (.slice (some ⟨g, 0, none⟩) n' cap) n' (xs.take (n' * size)) := by
  have hm : n' * size ≤ n * size := Nat.mul_le_mul_right _ hn
  refine ⟨by rw [List.length_take, h.1]; omega, ?_⟩
  rcases h.2 with ⟨h', _⟩ | ⟨g', cap', cur, h', hb, hg, hnc, hcm, hcs, htake⟩
  · simp at h'
  · simp only [Value.slice.injEq, Option.some.injEq, Addr.mk.injEq, and_true, true_and] at h'
    obtain ⟨rfl, rfl⟩ := h'
    refine .inr ⟨g, cap, cur, rfl, hb, hg, by omega, hcm, hcs, ?_⟩
    rw [← htake, List.take_take, Nat.min_eq_left hm]
theorem flV_take (fl : List (Int × Int)) (i : Nat) : (flV fl).take (i * 2) = flV (fl.take i) := by
  induction fl generalizing i with
  | nil => simp [flV]
  | cons m t ih =>
    match i with
    | 0 => simp [flV]
    | i + 1 =>
      rw [show (i + 1) * 2 = i * 2 + 1 + 1 by omega, show flV (m :: t) = .int .i64 m.1 :: .int .i64 m.2 :: flV t from rfl, List.take_succ_cons, List.take_succ_cons, ih, List.take_succ_cons]
      rfl
theorem flV_drop (fl : List (Int × Int)) (i : Nat) : (flV fl).drop (i * 2) = flV (fl.drop i) := by
  induction fl generalizing i with
  | nil => simp [flV]
  | cons m t ih =>
    match i with
    | 0 => simp
    | i + 1 => rw [show (i + 1) * 2 = i * 2 + 1 + 1 by omega, show flV (m :: t) = .int .i64 m.1 :: .int .i64 m.2 :: flV t from rfl, List.drop_succ_cons, List.drop_succ_cons, ih, List.drop_succ_cons]
theorem clear_one (W : World) (ty : TypeId) (b o c : Nat) (hc : ∀ j, j < 2 → (W.cell? ⟨b, o + j, none⟩).isSome = true) (hf : ∀ j, j < 2 → W.frozen? ⟨b, o + j, none⟩ = false) :
    (Builtin.clear_ #[40] ty #[.slice (some ⟨b, o, none⟩) 1 c]).run Tryd.prog W = .ok (.tuple #[]) (W.setCells b o [.int .i64 0, .int .i64 0]) := by
  have hst := run_storeCells_cells (P := Tryd.prog) b o [.int .i64 0, .int .i64 0] 0 W hc hf (by intro v hv; simp at hv; rw [hv]; rfl)
  simp only [Nat.add_zero] at hst
  have hv : ∀ w, (zeroValue 68).run Tryd.prog w = .ok (.agg #[.int .i64 0, .int .i64 0]) w := fun w => by
    obtain ⟨i0, ei, ez, es, eb⟩ := info_parts infoFly
    simp [zeroValue, typeInfo, ei, ez]
  have hz : (Builtin.zeroCells (Value.agg #[.int .i64 0, .int .i64 0]).cells 1).toList = [.int .i64 0, .int .i64 0] := by kernel_rfl
  simp [Builtin.clear_, run_underlying Tryd.underlying40, hv, hz, hst]

set_option maxRecDepth 100000 in
set_option maxHeartbeats 4000000 in
/-- the slice without its element i -/
theorem delete_of (B b cap i : Nat) (fl : List (Int × Int)) (w : World) (h : w.ownsRow B 68 2 (.slice (some ⟨b, 0, none⟩) fl.length cap) fl.length (flV fl)) (hi : i < fl.length) (hl : fl.length ≤ 1000) :
    Calls Tryd.prog 36 #[.slice (some ⟨b, 0, none⟩) fl.length cap, .int .i64 i, .int .i64 ((i : Int) + 1)] w fun e w' => e = .returned (.slice (some ⟨b, 0, none⟩) (fl.eraseIdx i).length cap) ∧ w'.ownsRow B 68 2 (.slice (some ⟨b, 0, none⟩) (fl.eraseIdx i).length cap) (fl.eraseIdx i).length (flV (fl.eraseIdx i)) ∧ w.grownBy w' (some b) := by
  obtain ⟨n, hn⟩ : ∃ n, n = fl.length := ⟨_, rfl⟩
  obtain ⟨news, hnews⟩ : ∃ news, news = flV (fl.drop (i + 1)) := ⟨_, rfl⟩
  have hlen : news.length = (n - (i + 1)) * 2 := by rw [hnews, flV_length, List.length_drop, hn]
  have hcap : n ≤ cap ∧ cap ≤ maxLen := by
    rcases h.2 with ⟨h', _⟩ | ⟨g', cap', cur, h', hb, hg, hnc, hcm, hcs, htake⟩
    · simp at h'
    · simp only [Value.slice.injEq, Option.some.injEq, Addr.mk.injEq, and_true, true_and] at h'
      obtain ⟨rfl, rfl⟩ := h'
      exact ⟨by rw [hn]; exact hnc, hcm⟩
  have hcell : ∀ j, j < n * 2 → w.cell? ⟨b, j, none⟩ = (flV fl)[j]? := fun j hj => h.cellAt j (by rw [← hn]; exact hj)
  have hfz : ∀ j, w.frozen? ⟨b, j, none⟩ = false := fun j => h.frozenAt j
  have hsome : ∀ j, j < n * 2 → (w.cell? ⟨b, j, none⟩).isSome = true := fun j hj => by
    rw [hcell j hj, List.getElem?_eq_getElem (by rw [flV_length, ← hn]; exact hj)]; rfl
  have hdrop : news = (flV fl).drop ((i + 1) * 2) := by rw [hnews, flV_drop]
  obtain ⟨A, hA, hsrc⟩ : ∃ A : Addr, (if cap = i + 1 then some (⟨b, 0, none⟩ : Addr) else some ⟨b, (i + 1) * 2, none⟩) = some A ∧ Hid (∀ t u, news[t]? = some u → w.drew.cell? (A.add t) = some u) := by
    by_cases h : cap = i + 1
    · refine ⟨⟨b, 0, none⟩, by simp [h], fun t u hu => ?_⟩
      have h0 : news.length = 0 := by rw [hlen]; omega
      rw [List.length_eq_zero_iff.1 h0] at hu
      simp at hu
    · refine ⟨⟨b, (i + 1) * 2, none⟩, by simp [h], fun t u hu => ?_⟩
      have ht : t < news.length := (List.getElem?_eq_some_iff.1 hu).1
      rw [hdrop, List.getElem?_drop] at hu
      rw [Addr.add_lit]
      exact (hcell _ (by rw [hlen] at ht; omega)).trans hu
  have s1 : Hid (news.length = (n - (i + 1)) * 2) := hlen
  have s2 : Hid (∀ u ∈ news, u.oneCell' = true) := by
    intro u hu
    rw [hnews] at hu
    obtain ⟨m, _, hm⟩ := List.mem_flatMap.1 hu
    exact two_cells _ _ u hm
  have s3 : Hid (∀ t, t < news.length → (w.drew.cell? ⟨b, 0 + i * 2 + t, none⟩).isSome = true ∧ w.drew.frozen? ⟨b, 0 + i * 2 + t, none⟩ = false) := by
    intro t ht
    rw [hlen] at ht
    exact ⟨hsome _ (by omega), hfz _⟩
  obtain ⟨W1, hW1⟩ : ∃ W1, W1 = w.drew.setCells b (0 + i * 2) news := ⟨_, rfl⟩
  have hS1 := stored_many news (0 + i * 2) (flV fl) w.drew (by exact h)
  rw [← hW1] at hS1
  have hS2 := stored_many [.int .i64 0, .int .i64 0] ((n - 1) * 2) _ W1 hS1.1
  have hfin : (layL (layL (flV fl) (0 + i * 2) news) ((n - 1) * 2) [.int .i64 0, .int .i64 0]).take ((n - 1) * 2) = flV (fl.eraseIdx i) := by
    have hx : (flV fl).length = n * 2 := by rw [flV_length, hn]
    rw [layL_eq news _ _ (by rw [hlen, hx]; omega)]
    have l1 : ((flV fl).take (0 + i * 2)).length = i * 2 := by rw [List.length_take, hx]; omega
    rw [layL_eq _ _ _ (by simp only [List.length_append, l1, hlen, List.length_drop, hx, List.length_cons, List.length_nil]; omega), List.append_assoc, List.take_append_of_le_length (by simp only [List.length_take, List.length_append, l1, hlen, List.length_drop, hx]; omega), List.take_take, Nat.min_self,
      List.take_append_of_le_length (by simp only [List.length_append, l1, hlen]; omega), List.take_of_length_le (by simp only [List.length_append, l1, hlen]; omega), Nat.zero_add, flV_take, hnews, ← flV_append, List.eraseIdx_eq_take_drop_succ]
  have hle : (fl.eraseIdx i).length = n - 1 := by rw [List.length_eraseIdx_of_lt hi, hn]
  have hcl : ∀ ty, (Builtin.clear_ #[40] ty #[.slice (some ⟨b, (n - 1) * 2, none⟩) 1 (cap - (n - 1))]).run Tryd.prog W1 = .ok (.tuple #[]) (W1.setCells b ((n - 1) * 2) [.int .i64 0, .int .i64 0]) :=
    fun ty => clear_one W1 ty b _ _ (fun j hj => by
      have := (hS1.1.cellAt ((n - 1) * 2 + j) (by rw [← hn]; omega))
      rw [this, List.getElem?_eq_getElem (by rw [hS1.1.1, ← hn]; omega)]; rfl) (fun j hj => hS1.1.frozenAt _)
  have hcl' : ∀ ty, (Builtin.clear_ #[40] ty #[.slice (some ⟨b, (i + (n - (i + 1))) * 2, none⟩) (n - (i + (n - (i + 1)))) (cap - (i + (n - (i + 1))))]).run Tryd.prog W1 = .ok (.tuple #[]) (W1.setCells b ((n - 1) * 2) [.int .i64 0, .int .i64 0]) := by
    intro ty
    have e1 : i + (n - (i + 1)) = n - 1 := by omega
    have e2 : n - (n - 1) = 1 := by omega
    rw [e1, e2]
    exact hcl ty
  clear hcl
  have R := Lib.hid (And.intro hS1 (And.intro hS2 hfin))
  rw [hle]
  have hW : Hid (W1 = w.drew.setCells b (0 + i * 2) news) := hW1
  have hL := hn
  rw [← hn] at hi hl ⊢
  obtain ⟨hc1, hc2⟩ := hcap
  have hc3 : cap ≤ 9223372036854775807 := by simpa [maxLen] using hc2
  obtain ⟨i0, ei, ez, es, eb⟩ := info_parts infoFly
  have hic : i ≤ cap := by omega
  have hjc : i + 1 ≤ cap := by omega
  have h01 : (0 : Int) ≤ (i : Int) + 1 := by omega
  have h02 : (i : Int) + 1 ≤ (n : Int) := by omega
  have HN := Lib.hid hn
  clear hW1 hS1 hS2 hfin hdrop hsome hfz hcell h hnews hlen hle hL hn
  go_enter Tryd.func36, Tryd.ntmps36
  go_wp2_with fail
  go_region_law (refine step_append_room rfl (.tmp 22) (.tmp 25) 40 rfl 68 i0 2 Tryd.underlying40 ei es b 0 i cap (by simp [Act.eval, Act.put]) A (n - (i + 1)) (cap - (i + 1)) news (by simp [Act.eval, Act.put]) s1.out hsrc.out s2.out (by omega) s3.out ?_; rw [← hW.out])
  have hx1 : i + (n - (i + 1)) ≠ cap := by omega
  have hx2 : ¬ cap = i + (n - (i + 1)) := by omega
  have hx3 : i + (n - (i + 1)) ≤ n := by omega
  go_wp2
  have e1 : i + (n - (i + 1)) = n - 1 := by omega
  go_ret
  obtain ⟨hS1, hS2, hfin⟩ := R.out
  have hsh := shrink hS2.1 (n' := n - 1) (by rw [← HN.out]; omega)
  rw [hfin] at hsh
  refine ⟨by rw [e1]; rfl, hsh, ?_⟩
  exact World.grownBy.trans ⟨hS1.2.os, hS1.2.tape, hS1.2.output, hS1.2.size, hS1.2.block⟩ hS2.2

set_option maxRecDepth 100000 in
set_option maxHeartbeats 2000000 in
theorem clone_of (B : Nat) (v : Value) (fl : List (Int × Int)) (w : World) (h : w.ownsRow B 68 2 v fl.length (flV fl)) (hl : fl.length ≤ 1000) :
    Calls Tryd.prog 34 #[v] w fun e w' => ∃ v', e = .returned v' ∧ w'.ownsRow w.heap.size 68 2 v' fl.length (flV fl) ∧ Below w.heap.size w w' := by
  obtain ⟨i0, ei, ez, es, eb⟩ := info_parts infoFly
  have q22 : ∀ (w : World) (a : Option Addr) (n c n' c' : Nat), (binOp .eql 40 (.slice a n c) (.slice none n' c')).run Tryd.prog w = .ok (.bool a.isNone) w := fun w a n c n' c' => Lib.run_eql_slice_nil w _ _ a n c n' c' Tryd.underlying40
  rcases h.2 with ⟨rfl, h0⟩ | ⟨g, cap, cur, rfl, hb, hg, hnc, hcm, hcs, htake⟩
  · have hx : fl = [] := List.eq_nil_of_length_eq_zero h0
    subst hx
    clear h h0
    go_enter Tryd.func34, Tryd.ntmps34
    go_wp2
    go_ret
    exact ⟨_, rfl, World.ownsRow_nil _ _ _ _, Below.refl _ _⟩
  · have hown0 : (w.alloc (.cells #[] 68)).ownsRow w.heap.size 68 2 (.slice (some ⟨w.heap.size, 0, none⟩) 0 0) 0 [] :=
      World.ownsRow_lit w #[] 0 (Nat.le_refl _) (by decide) rfl
    have hcells : Hid (∀ j u, (flV fl)[j]? = some u → (w.alloc (.cells #[] 68)).cell? ((⟨g, 0, none⟩ : Addr).add j) = some u) := (h.alloc _).cells (g := g) rfl
    have h1 : Hid (∀ u ∈ flV fl, u.oneCell' = true) := by
      intro u hu
      obtain ⟨m, _, hm⟩ := List.mem_flatMap.1 hu
      exact two_cells _ _ u hm
    have hlen : Hid ((flV fl).length = fl.length * 2) := flV_length fl
    clear htake hcs hg h
    go_enter Tryd.func34, Tryd.ntmps34
    go_wp2_with (at_builtin; go_loud (refine wpList_append_own_at _ rfl _ _ 40 rfl w.heap.size 68 i0 (.agg #[.int .i64 0, .int .i64 0]) 2 16 Tryd.underlying40 ei ez es eb rfl (by decide) _ 0 [] rfl hown0 ⟨g, 0, none⟩ fl.length cap (flV fl) rfl hlen.out hcells.out h1.out ?c3 ?c4 ?c5 ?_))
    case c3 => unfold maxLen; omega
    case c4 => omega
    case c5 => simp
    · intro v' w1 hown1 hgrow _ hat
      (try simp only [Nat.zero_add, List.nil_append] at hown1)
      have hB : Below w.heap.size w w1 := ((Below.refl _ _).alloc (Nat.le_refl _) _).grown hgrow (by simp) (fun k hk => by simp [Value.ownBlock] at hk; omega)
      have HO := Lib.hid hown1
      obtain ⟨a', cap', rfl⟩ := own_slice hown1
      clear hown1 hgrow hat hcells h1 hlen
      go_wp2
      go_ret
      exact ⟨_, rfl, HO.out, hB⟩
end Go.Proofs.YtkanakhlmmpapaaDoor
