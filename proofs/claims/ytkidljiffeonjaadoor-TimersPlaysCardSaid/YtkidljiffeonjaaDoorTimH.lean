/- A range over the clock's map: what has been seen, the step. -/
import Derived.Test.YtkidljiffeonjaaDoorRows
import Derived.WalkKit
import Derived.WalkSpells
import Derived.WalkLawsBesides
import Derived.BigQuiet
import Derived.Deep.QuietTactic
import Derived.StillTailTactics
import Derived.Handy
import Derived.Lib.Hide
import Derived.Test.YtkidljiffeonjaaDoorTimG
import Derived.Maps.RangeWalk
set_option linter.unusedSimpArgs false
set_option linter.unusedVariables false
namespace Go.Proofs.YtkidljiffeonjaaDoor
open Go.RowKit Go.Maps

theorem timR_shape {H : Type} {v : Value} {y : DataW H × List MemPlace} (h : timR v = some y) : ∃ t, v = timerV t ∧ y = (timerD t, []) := by
  cases v with
  | agg cs =>
    obtain ⟨l⟩ := cs
    simp only [timR] at h
    match l, h with
    | [x0, x1, x2, x3, x4], h =>
      simp only [Option.bind_eq_some_iff] at h
      obtain ⟨k, e0, a, e1, n, e2, b, e3, m, e4, h⟩ := h
      rw [strOf_some e0, fltOf_some e1, intgOf_some e2, fltOf_some e3, fltOf_some e4]
      exact ⟨⟨k, a, n, b, m⟩, rfl, (Option.some.inj h).symm⟩
  | _ => simp [timR] at h
theorem timerD_inj {t u : MTimer} (h : timerD (H := Unit) t = timerD u) : t = u := by
  obtain ⟨k, a, n, b, m⟩ := t
  obtain ⟨k', a', n', b', m'⟩ := u
  simp only [timerD, DataW.agg.injEq, List.cons.injEq, DataW.lit.injEq, Lit.string.injEq, Lit.float.injEq, Lit.int.injEq, and_true, true_and] at h
  obtain ⟨h1, h2, h3, h4, h5⟩ := h
  rw [bytes_inj h1, h2, h3, h4, h5]
/-- what a range over the clock's map has handed out, and what is left -/
structure Seen (L acc : List MTimer) (left : Lit → Bool) : Prop where
  sub : ∀ t ∈ acc, t ∈ L
  apart : TApart acc
  left : ∀ t ∈ L, (left (.string t.key.data.toList) = true ↔ t ∉ acc)
theorem Seen.start {D : DataW Unit} {L : List MTimer} (h : Clk D L) : Seen L [] (Maps.has D) :=
  ⟨by simp, List.Pairwise.nil, fun t ht => by rw [h.has, tfind_mem h.apart ht]; simp⟩
theorem Seen.step {D : DataW Unit} {L acc : List MTimer} {left : Lit → Bool} (h : Clk D L) (hs : Seen L acc left) {k : ByteArray} {t : MTimer} (hl : left (.string k.data.toList) = true) (hat : ∀ z, D.atKey (.string k.data.toList) z = timerD t) :
    k = t.key ∧ t ∈ L ∧ t ∉ acc ∧ Seen L (acc ++ [t]) (fun z => left z && !z.sameKey (.string k.data.toList)) := by
  have h1 := hat (.lit (.int .i64 0))
  rw [h.at_] at h1
  cases hf : tfind L k with
  | none => rw [hf] at h1; simp [timerD] at h1
  | some u =>
    rw [hf] at h1
    obtain rfl : u = t := timerD_inj h1
    obtain ⟨hu, rfl⟩ := tfind_some hf
    have hn := (hs.left u hu).1 hl
    have hk : ∀ v ∈ L, v.key = u.key → v = u := fun v hv e => by
      have a := tfind_mem h.apart hv
      rw [e, hf] at a
      exact (Option.some.inj a).symm
    refine ⟨rfl, hu, hn, ⟨fun v hv => ?_, ?_, fun v hv => ?_⟩⟩
    · rcases List.mem_append.1 hv with hv | hv
      · exact hs.sub v hv
      · rw [List.mem_singleton.1 hv]; exact hu
    · refine List.pairwise_append.2 ⟨hs.apart, List.pairwise_singleton _ _, fun a ha b hb e => ?_⟩
      rw [List.mem_singleton.1 hb] at e
      exact hn (hk a (hs.sub a ha) e ▸ ha)
    · by_cases e : v = u
      · subst e
        rw [WideAt.sameKey_self (keyLit _)]
        simp
      · have e2 : v.key ≠ u.key := fun e2 => e (hk v hv e2)
        rw [sameKey_ne (lit_ne e2)]
        simp only [Bool.not_false, Bool.and_true, List.mem_append, List.mem_singleton, e, or_false]
        exact hs.left v hv
theorem Seen.done {L acc : List MTimer} {left : Lit → Bool} (hL : TApart L) (hs : Seen L acc left) (h0 : ∀ z, left z = false) : acc.Perm L := by
  have nd : ∀ {M : List MTimer}, TApart M → M.Nodup := fun h => List.Pairwise.imp (fun h e => h (congrArg _ e)) h
  refine (List.perm_ext_iff_of_nodup (nd hs.apart) (nd hL)).2 fun t => ⟨hs.sub t, fun ht => ?_⟩
  have := hs.left t ht
  rw [h0] at this
  exact Classical.byContradiction fun hn => by simpa using this.2 hn
theorem nodup_len : ∀ {A B : List MTimer}, A.Nodup → (∀ t ∈ A, t ∈ B) → A.length ≤ B.length
  | [], _, _, _ => Nat.zero_le _
  | a :: A, B, h, hs => by
    obtain ⟨h1, h2⟩ := List.pairwise_cons.1 h
    obtain ⟨s, e, rfl⟩ := List.append_of_mem (hs a List.mem_cons_self)
    have := nodup_len h2 (B := s ++ e) fun t ht => by
      have h3 := hs t (List.mem_cons_of_mem _ ht)
      rcases List.mem_append.1 h3 with h3 | h3
      · exact List.mem_append_left _ h3
      · rcases List.mem_cons.1 h3 with rfl | h3
        · exact absurd rfl (h1 _ ht)
        · exact List.mem_append_right _ h3
    simp only [List.length_cons, List.length_append] at this ⊢
    omega
theorem Seen.le {L acc : List MTimer} {left : Lit → Bool} (hs : Seen L acc left) : acc.length ≤ L.length :=
  nodup_len (List.Pairwise.imp (fun h e => h (congrArg _ e)) hs.apart) hs.sub
theorem wpList_next_timers {w : World} {ops : Array Oper} {rest : List Oper} {o : Oper} {a : Act} {Q : Exit → Act → World → Prop} (hg : o.guard = none) (it : Operand) (hop : o.op = Op.next it false) (b r n : Nat) (D : DataW Unit) (L acc : List MTimer) (left : Lit → Bool) (cnt : Nat)
    (hit : a.eval it = .pointer (some ⟨r, 0, none⟩)) (hC : Clk D L) (hS : Seen L acc left) (h : w.ranges Tryd.prog 9 timR b r n D left cnt)
    (hDone : acc.Perm L → wpList Tryd.prog ops Q rest (a.put o.dst (.tuple #[.bool false])) w)
    (hMore : ∀ (t : MTimer) (w' : World) (left' : Lit → Bool) (cnt' : Nat), t ∈ L → t ∉ acc → Seen L (acc ++ [t]) left' → w'.ranges Tryd.prog 9 timR b r n D left' cnt' → cnt' < cnt → w.grownBy w' (some r) → (Instr.entry (.pointer (some ⟨r, 0, none⟩))).run Tryd.prog w' = .ok (.tuple #[.string t.key, timerV t]) w' → wpList Tryd.prog ops Q rest (a.put o.dst (.tuple #[.bool true, .string t.key, timerV t])) w') :
    wpList Tryd.prog ops Q (o :: rest) a w := by
  refine wpList_next_ranges w hg it hop 9 (string_keyed Tryd.underlying9) timR Value.string timerV (fun key kl hk => ?_) (fun v y hv => ?_) b r n D left cnt hit h (fun _ hl => hDone (hS.done hC.apart hl)) (fun x t kl y w' cnt' hkey hl hv hat hr hlt hgr hsz hen => ?_)
  · obtain ⟨s, e, _, _⟩ := Go.WideMaps.string_of_keyOf Tryd.underlying9 hk
    exact ⟨s, e⟩
  · obtain ⟨t, e, _⟩ := timR_shape hv
    exact ⟨t, e⟩
  · obtain ⟨s, e, rfl, _⟩ := Go.WideMaps.string_of_keyOf Tryd.underlying9 hkey
    cases e
    rw [timR_mk] at hv
    obtain rfl := Option.some.inj hv
    obtain ⟨rfl, hm, hn, hS'⟩ := hS.step hC hl hat
    exact hMore t w' _ cnt' hm hn hS' hr hlt hgr hen
end Go.Proofs.YtkidljiffeonjaaDoor
