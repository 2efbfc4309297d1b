/- Timers without a program: a row of timers, the map's datum that holds the same, the order of timers. -/
import Derived.Test.YtkidljiffeonjaaDoorRows
import Derived.WalkKit
import Derived.WalkSpells
import Derived.WalkLawsBesides
import Derived.BigQuiet
import Derived.Deep.QuietTactic
import Derived.StillTailTactics
import Derived.Handy
import Derived.Lib.Hide
import Derived.Test.YtkidljiffeonjaaDoorTimB
import Derived.Sort.Walk0
set_option linter.unusedSimpArgs false
set_option linter.unusedVariables false
namespace Go.Proofs.YtkidljiffeonjaaDoor
open Go.RowKit Go.Maps

def tfind (L : List MTimer) (k : ByteArray) : Option MTimer := L.find? fun t => decide (t.key = k)
def tdel (L : List MTimer) (k : ByteArray) : List MTimer := L.filter fun t => decide (t.key ≠ k)
def trep (L : List MTimer) (t : MTimer) : List MTimer := L.map fun u => if u.key = t.key then t else u
def tput (L : List MTimer) (t : MTimer) : List MTimer := if (tfind L t.key).isSome = true then trep L t else L ++ [t]
abbrev TApart (L : List MTimer) : Prop := L.Pairwise fun a b => a.key ≠ b.key

theorem tfind_some {L : List MTimer} {k : ByteArray} {t : MTimer} (h : tfind L k = some t) : t ∈ L ∧ t.key = k := by
  have h1 := List.find?_some h
  exact ⟨List.mem_of_find?_eq_some h, by simpa using h1⟩
theorem tfind_none {L : List MTimer} {k : ByteArray} (h : tfind L k = none) : ∀ t ∈ L, t.key ≠ k := by
  unfold tfind at h
  rw [List.find?_eq_none] at h
  intro t ht; simpa using h t ht
theorem tfind_no {L : List MTimer} {k : ByteArray} (h : ∀ t ∈ L, t.key ≠ k) : tfind L k = none := by
  unfold tfind
  rw [List.find?_eq_none]
  intro t ht; simpa using h t ht
theorem tfind_mem : ∀ {L : List MTimer}, TApart L → ∀ {t : MTimer}, t ∈ L → tfind L t.key = some t
  | u :: r, hL, t, ht => by
    obtain ⟨h1, h2⟩ := List.pairwise_cons.1 hL
    unfold tfind
    rcases List.mem_cons.1 ht with rfl | hr
    · simp
    · rw [List.find?_cons_of_neg (by simpa using h1 t hr)]
      exact tfind_mem h2 hr
theorem trep_find : ∀ (L : List MTimer) (t : MTimer), (tfind L t.key).isSome = true → tfind (trep L t) t.key = some t
  | [], _, h => by simp [tfind] at h
  | u :: r, t, h => by
    unfold trep tfind
    rw [List.map_cons]
    by_cases e : u.key = t.key
    · rw [if_pos e]; simp
    · rw [if_neg e, List.find?_cons_of_neg (by simpa using e)]
      refine trep_find r t ?_
      unfold tfind at h ⊢
      rwa [List.find?_cons_of_neg (by simpa using e)] at h
theorem trep_other : ∀ (L : List MTimer) (t : MTimer) (k : ByteArray), k ≠ t.key → tfind (trep L t) k = tfind L k
  | [], _, _, _ => rfl
  | u :: r, t, k, h => by
    unfold trep tfind
    rw [List.map_cons]
    have ih := trep_other r t k h
    unfold trep tfind at ih
    by_cases e : u.key = t.key
    · rw [if_pos e, List.find?_cons_of_neg (by simpa using fun e' => h e'.symm), List.find?_cons_of_neg (by simpa using fun e' => h (e'.symm.trans e)), ih]
    · rw [if_neg e]
      by_cases e2 : u.key = k
      · rw [List.find?_cons_of_pos (by simpa using e2), List.find?_cons_of_pos (by simpa using e2)]
      · rw [List.find?_cons_of_neg (by simpa using e2), List.find?_cons_of_neg (by simpa using e2), ih]
theorem tput_same (L : List MTimer) (t : MTimer) : tfind (tput L t) t.key = some t := by
  unfold tput
  split
  · rename_i h; exact trep_find L t h
  · rename_i h
    have h1 : tfind L t.key = none := by simpa using h
    unfold tfind at h1 ⊢
    rw [List.find?_append, h1]; simp
theorem tput_other (L : List MTimer) (t : MTimer) (k : ByteArray) (hk : k ≠ t.key) : tfind (tput L t) k = tfind L k := by
  unfold tput
  split
  · exact trep_other L t k hk
  · unfold tfind
    rw [List.find?_append]
    have : List.find? (fun u : MTimer => decide (u.key = k)) [t] = none := by simp; exact fun e => hk e.symm
    rw [this, Option.or_none]
theorem trep_keys (L : List MTimer) (t : MTimer) : (trep L t).map (·.key) = L.map (·.key) := by
  unfold trep
  rw [List.map_map]
  refine List.map_congr_left fun u _ => ?_
  simp only [Function.comp]
  split
  · rename_i h; exact h.symm
  · rfl
theorem apart_keys {L : List MTimer} : TApart L ↔ (L.map (·.key)).Nodup := by
  unfold TApart List.Nodup
  rw [List.pairwise_map]
theorem tput_length (L : List MTimer) (t : MTimer) : (tput L t).length = if (tfind L t.key).isSome = true then L.length else L.length + 1 := by
  unfold tput trep; split <;> simp
theorem tput_apart {L : List MTimer} (h : TApart L) (t : MTimer) : TApart (tput L t) := by
  unfold tput
  split
  · rw [apart_keys, trep_keys, ← apart_keys]; exact h
  · rename_i hs
    have h1 := tfind_none (show tfind L t.key = none by simpa using hs)
    exact List.pairwise_append.2 ⟨h, List.pairwise_singleton _ _, fun a ha b hb => by rw [List.mem_singleton.1 hb]; exact h1 a ha⟩
theorem tput_mem {L : List MTimer} {t u : MTimer} (h : u ∈ tput L t) : u = t ∨ u ∈ L := by
  unfold tput trep at h
  split at h
  · obtain ⟨v, hv, e⟩ := List.mem_map.1 h
    split at e
    · exact .inl e.symm
    · exact .inr (e ▸ hv)
  · rcases List.mem_append.1 h with h | h
    · exact .inr h
    · exact .inl (List.mem_singleton.1 h)
theorem tdel_same (L : List MTimer) (k : ByteArray) : tfind (tdel L k) k = none := by
  refine tfind_no fun t ht => ?_
  simpa using (List.mem_filter.1 ht).2
theorem tdel_other : ∀ (L : List MTimer) (k k' : ByteArray), k' ≠ k → tfind (tdel L k) k' = tfind L k'
  | [], _, _, _ => rfl
  | u :: r, k, k', h => by
    have ih := tdel_other r k k' h
    unfold tdel tfind at ih ⊢
    by_cases e : u.key = k
    · rw [List.filter_cons_of_neg (by simpa using e), ih, List.find?_cons_of_neg (by simpa using fun e' => h (e'.symm.trans e))]
    · rw [List.filter_cons_of_pos (by simpa using e)]
      by_cases e2 : u.key = k'
      · rw [List.find?_cons_of_pos (by simpa using e2), List.find?_cons_of_pos (by simpa using e2)]
      · rw [List.find?_cons_of_neg (by simpa using e2), List.find?_cons_of_neg (by simpa using e2), ih]
theorem tdel_apart {L : List MTimer} (h : TApart L) (k : ByteArray) : TApart (tdel L k) := h.filter _
theorem tdel_length : ∀ {L : List MTimer}, TApart L → ∀ k, (tdel L k).length + (if (tfind L k).isSome = true then 1 else 0) = L.length
  | [], _, _ => rfl
  | u :: r, h, k => by
    obtain ⟨h1, h2⟩ := List.pairwise_cons.1 h
    have ih := tdel_length h2 k
    by_cases e : u.key = k
    · have h3 : tfind r k = none := tfind_no fun t ht e' => h1 t ht (e.trans e'.symm)
      rw [h3] at ih
      unfold tdel at ih ⊢
      unfold tfind
      rw [List.filter_cons_of_neg (by simpa using e), List.find?_cons_of_pos (by simpa using e)]
      simp at ih ⊢; exact ih
    · unfold tdel tfind at ih ⊢
      rw [List.filter_cons_of_pos (by simpa using e), List.find?_cons_of_neg (by simpa using e)]
      simp only [List.length_cons]; omega
theorem tdel_mem {L : List MTimer} {k : ByteArray} {u : MTimer} (h : u ∈ tdel L k) : u ∈ L := (List.mem_filter.1 h).1
theorem tdel_none {L : List MTimer} {k : ByteArray} (h : tfind L k = none) : tdel L k = L :=
  List.filter_eq_self.2 fun t ht => by simpa using tfind_none h t ht

/-- the map's datum holds just this row's timers -/
structure Clk (D : DataW Unit) (L : List MTimer) : Prop where
  tidy : Tidy D
  size : Maps.size D = L.length
  at_ : ∀ (k : ByteArray) (z : DataW Unit), D.atKey (.string k.data.toList) z = ((tfind L k).map timerD).getD z
  apart : TApart L
theorem keyLit (k : ByteArray) : WideAt.IsKeyLit (.string k.data.toList) := trivial
theorem lit_ne {k k' : ByteArray} (h : k ≠ k') : (Lit.string k.data.toList) ≠ .string k'.data.toList := fun e => h (bytes_inj (by injection e))
theorem Clk.has {D : DataW Unit} {L : List MTimer} (h : Clk D L) (k : ByteArray) : Maps.has D (.string k.data.toList) = (tfind L k).isSome := by
  cases hf : tfind L k with
  | none => exact Maps.has_false_of_atKey fun z => by rw [h.at_, hf]; rfl
  | some t => exact Maps.has_true_of_atKey (y := timerD t) fun z => by rw [h.at_, hf]; rfl
theorem Clk.new : Clk (.map []) [] := ⟨tidy_empty, rfl, fun _ _ => rfl, List.Pairwise.nil⟩
theorem Clk.put {D : DataW Unit} {L : List MTimer} (h : Clk D L) (t : MTimer) : Clk (D.put (.string t.key.data.toList) (timerD t)) (tput L t) := by
  refine ⟨h.tidy.put (keyLit _) _, ?_, fun k z => ?_, tput_apart h.apart t⟩
  · rw [size_put h.tidy, h.has, tput_length, h.size]
  · by_cases e : k = t.key
    · subst e
      rw [atKey_put_same h.tidy.isMap (keyLit _), tput_same]; rfl
    · rw [atKey_put_other (lit_ne e), h.at_, tput_other L t k e]
theorem Clk.del {D : DataW Unit} {L : List MTimer} (h : Clk D L) (k : ByteArray) : Clk (D.del (.string k.data.toList)) (tdel L k) := by
  refine ⟨h.tidy.del _, ?_, fun k' z => ?_, tdel_apart h.apart k⟩
  · have h1 := size_del (k := .string k.data.toList) h.tidy
    have h2 := tdel_length h.apart k
    rw [h.has] at h1
    rw [h.size] at h1
    omega
  · by_cases e : k' = k
    · subst e
      rw [atKey_del_same, tdel_same]; rfl
    · rw [atKey_del_other (lit_ne e), h.at_, tdel_other L k k' e]

/-! ### the order of timers -/
def klt (a b : ByteArray) : Bool := Op.bytesLess a.toList b.toList
theorem klt_eq (a b : ByteArray) : klt a b = decide (a.data.toList < b.data.toList) := by
  unfold klt; rw [bytesLess_eq, Lib.toList_data, Lib.toList_data]
def kcmp (a b : ByteArray) : Int := if klt a b = true then -1 else if klt b a = true then 1 else 0
def tcmp (a b : MTimer) : Int := if fcp a.at_ b.at_ = 0 then kcmp a.key b.key else fcp a.at_ b.at_
def tlt (a b : MTimer) : Bool := decide (a.at_ < b.at_ ∨ a.at_ = b.at_ ∧ klt a.key b.key = true)
theorem klt_irrefl (a : ByteArray) : klt a a = false := by rw [klt_eq]; simp
theorem klt_trans {a b c : ByteArray} (h1 : klt a b = true) (h2 : klt b c = true) : klt a c = true := by
  rw [klt_eq] at *; simp only [decide_eq_true_eq] at *; exact List.lt_trans h1 h2
theorem klt_total {a b : ByteArray} (h1 : klt a b = false) (h2 : klt b a = false) : a = b := by
  rw [klt_eq] at *; simp only [decide_eq_false_iff_not] at *
  exact bytes_inj (List.le_antisymm (List.not_lt.1 h2) (List.not_lt.1 h1))
theorem tlt_cmp (a b : MTimer) : decide (tcmp a b < 0) = tlt a b := by
  unfold tcmp tlt fcp kcmp
  have h3 : klt a.key b.key = true → klt b.key a.key = false := fun h => by
    cases h' : klt b.key a.key
    · rfl
    · have := klt_trans h h'; rw [klt_irrefl] at this; cases this
  rcases Nat.lt_trichotomy a.at_ b.at_ with h | h | h
  · have e1 : ((a.at_ : Int) < b.at_) := by omega
    simp [e1, h]
  · rw [h]
    cases h4 : klt a.key b.key <;> cases h5 : klt b.key a.key <;> simp
  · have e1 : ¬ ((a.at_ : Int) < b.at_) := by omega
    have e2 : ((b.at_ : Int) < a.at_) := by omega
    simp [e1, e2]; omega
theorem tlt_irrefl (a : MTimer) : tlt a a = false := by unfold tlt; simp [klt_irrefl]
theorem tlt_trans {a b c : MTimer} (h1 : tlt a b = true) (h2 : tlt b c = true) : tlt a c = true := by
  unfold tlt at *; simp only [decide_eq_true_eq] at *
  rcases h1 with h1 | ⟨h1, k1⟩ <;> rcases h2 with h2 | ⟨h2, k2⟩
  · exact .inl (by omega)
  · exact .inl (by omega)
  · exact .inl (by omega)
  · exact .inr ⟨by omega, klt_trans k1 k2⟩
theorem tlt_total {a b : MTimer} (h1 : tlt a b = false) (h2 : tlt b a = false) : a.at_ = b.at_ ∧ a.key = b.key := by
  unfold tlt at *; simp only [decide_eq_false_iff_not] at *
  have e : a.at_ = b.at_ := by
    rcases Nat.lt_trichotomy a.at_ b.at_ with h | h | h
    · exact absurd (.inl h) h1
    · exact h
    · exact absurd (.inl h) h2
  refine ⟨e, klt_total ?_ ?_⟩
  · cases h : klt a.key b.key
    · rfl
    · exact absurd (.inr ⟨e, h⟩) h1
  · cases h : klt b.key a.key
    · rfl
    · exact absurd (.inr ⟨e.symm, h⟩) h2
/-- the timers that are due, in order: insertion, as the document says -/
def tins (t : MTimer) : List MTimer → List MTimer
  | [] => [t]
  | u :: r => if tlt t u = true then t :: u :: r else u :: tins t r
def tdue (now : Nat) (L : List MTimer) : List MTimer := (L.filter fun t => decide (t.at_ ≤ now)).foldl (fun l t => tins t l) []
theorem tins_perm (t : MTimer) : ∀ l : List MTimer, (tins t l).Perm (t :: l)
  | [] => .refl _
  | u :: r => by
    unfold tins
    split
    · exact .refl _
    · exact ((tins_perm t r).cons u).trans (.swap t u r)
abbrev TSorted (l : List MTimer) : Prop := l.Pairwise fun a b => tlt a b = true
theorem tins_sorted (t : MTimer) : ∀ l : List MTimer, TSorted l → (∀ u ∈ l, u.key ≠ t.key) → TSorted (tins t l)
  | [], _, _ => List.pairwise_singleton _ _
  | u :: r, h, hk => by
    obtain ⟨h1, h2⟩ := List.pairwise_cons.1 h
    unfold tins
    split
    · rename_i hlt
      exact List.pairwise_cons.2 ⟨fun v hv => by
        rcases List.mem_cons.1 hv with rfl | hv
        · exact hlt
        · exact tlt_trans hlt (h1 v hv), h⟩
    · rename_i hlt
      refine List.pairwise_cons.2 ⟨fun v hv => ?_, tins_sorted t r h2 fun v hv => hk v (List.mem_cons_of_mem _ hv)⟩
      rcases List.mem_cons.1 ((tins_perm t r).mem_iff.1 hv) with rfl | hv
      · cases h3 : tlt u v
        · exact absurd (tlt_total h3 (by simpa using hlt)).2 (hk u List.mem_cons_self)
        · rfl
      · exact h1 v hv
theorem foldl_tins : ∀ (M l : List MTimer), TApart M → TSorted l → (∀ u ∈ l, ∀ t ∈ M, u.key ≠ t.key) → TSorted (M.foldl (fun l t => tins t l) l) ∧ (M.foldl (fun l t => tins t l) l).Perm (M ++ l)
  | [], l, _, hs, _ => ⟨hs, .refl _⟩
  | t :: M, l, hM, hs, hk => by
    obtain ⟨h1, h2⟩ := List.pairwise_cons.1 hM
    have hp := tins_perm t l
    obtain ⟨r1, r2⟩ := foldl_tins M (tins t l) h2 (tins_sorted t l hs fun u hu => hk u hu t List.mem_cons_self) (fun u hu v hv => by
      rcases List.mem_cons.1 (hp.mem_iff.1 hu) with rfl | hu
      · exact h1 v hv
      · exact hk u hu v (List.mem_cons_of_mem _ hv))
    exact ⟨r1, r2.trans ((hp.append_left M).trans List.perm_middle)⟩
theorem tdue_spec (now : Nat) {L : List MTimer} (h : TApart L) : TSorted (tdue now L) ∧ (tdue now L).Perm (L.filter fun t => decide (t.at_ ≤ now)) := by
  have := foldl_tins (L.filter fun t => decide (t.at_ ≤ now)) [] (h.filter _) List.Pairwise.nil (by simp)
  rw [List.append_nil] at this
  exact this
theorem sorted_unique {l m : List MTimer} (hl : TSorted l) (hm : TSorted m) (hp : l.Perm m) : l = m :=
  hp.eq_of_pairwise (fun a b _ _ h1 h2 => by have := tlt_trans h1 h2; rw [tlt_irrefl] at this; cases this) hl hm
end Go.Proofs.YtkidljiffeonjaaDoor
