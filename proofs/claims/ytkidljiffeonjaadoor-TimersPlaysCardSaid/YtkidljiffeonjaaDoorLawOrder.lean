/- liaisonlaw13.TimersOrder, walked: what is told, in a map. -/
import Derived.Test.YtkidljiffeonjaaDoorRows
import Derived.WalkKit
import Derived.WalkSpells
import Derived.WalkLawsBesides
import Derived.BigQuiet
import Derived.Deep.QuietTactic
import Derived.StillTailTactics
import Derived.Handy
import Derived.Lib.Hide
import Derived.Test.YtkidljiffeonjaaDoorLawFull
import Derived.Maps.OwnOps
set_option linter.unusedSimpArgs false
set_option linter.unusedVariables false
namespace Go.Proofs.YtkidljiffeonjaaDoor
open Go.RowKit Go.Maps
attribute [local go_sem] store_float

/-- how an element of a map of Booleans reads -/
def boolR {H : Type} : Value → Option (DataW H × List MemPlace)
  | .bool c => some (.lit (.bool c), [])
  | _ => none
theorem boolR_inv {H : Type} {v : Value} {c : Bool} {ps : List MemPlace} (h : boolR (H := H) v = some (.lit (.bool c), ps)) : v = .bool c := by
  cases v with
  | bool x => simp only [boolR, Option.some.injEq, Prod.mk.injEq, DataW.lit.injEq, Lit.bool.injEq] at h; rw [h.1]
  | _ => simp [boolR] at h
def kin (ks : List ByteArray) (k : ByteArray) : Bool := ks.any fun u => decide (u = k)
theorem kin_iff {ks : List ByteArray} {k : ByteArray} : kin ks k = true ↔ k ∈ ks := by
  unfold kin
  rw [List.any_eq_true]
  constructor
  · rintro ⟨u, hu, e⟩; rw [← of_decide_eq_true e]; exact hu
  · intro h; exact ⟨k, h, decide_eq_true rfl⟩
theorem kin_no {ks : List ByteArray} {k : ByteArray} (h : k ∉ ks) : kin ks k = false := by
  cases e : kin ks k
  · rfl
  · exact absurd (kin_iff.1 e) h
theorem kin_append (ks : List ByteArray) (k k' : ByteArray) : kin (ks ++ [k]) k' = (kin ks k' || decide (k = k')) := by
  unfold kin; simp
/-- just these keys are told -/
structure Told (D : DataW Unit) (ks : List ByteArray) : Prop where
  tidy : Tidy D
  at_ : ∀ (k : ByteArray) (z : DataW Unit), D.atKey (.string k.data.toList) z = if kin ks k = true then .lit (.bool true) else z
theorem Told.new : Told (.map []) [] := ⟨tidy_empty, fun _ _ => rfl⟩
theorem Told.put {D : DataW Unit} {ks : List ByteArray} (h : Told D ks) (k : ByteArray) : Told (D.put (.string k.data.toList) (.lit (.bool true))) (ks ++ [k]) := by
  refine ⟨h.tidy.put (keyLit _) _, fun k' z => ?_⟩
  by_cases e : k' = k
  · subst e
    rw [atKey_put_same h.tidy.isMap (keyLit _), if_pos (by rw [kin_append]; simp)]
  · rw [atKey_put_other (lit_ne e), h.at_, kin_append, decide_eq_false (fun e2 => e e2.symm), Bool.or_false]
theorem told_look {W : World} {b n : Nat} {D : DataW Unit} {ks : List ByteArray} (hD : Told D ks) (h : W.ownsMap Tryd.prog 9 boolR b n D) (k : ByteArray) (hk : k.size ≤ maxLen) :
    (Instr.lookup 78 (.map (some b)) (.string k) false).run Tryd.prog W = .ok (.bool (kin ks k)) W := by
  have hz : (zeroValue 4).run Tryd.prog W = .ok (.bool false) W := by kernel_rfl
  obtain ⟨v, ps, hrun, hv⟩ := h.lookup (t := 78) (string_keyed Tryd.underlying9) Tryd.underlying78 hz (zd := .lit (.bool false)) (zp := []) rfl (Go.WideMaps.keyOf_string_mk Tryd.underlying9 hk)
  rw [hD.at_] at hv
  have e : (if kin ks k = true then (DataW.lit (.bool true) : DataW Unit) else .lit (.bool false)) = .lit (.bool (kin ks k)) := by
    cases kin ks k <;> rfl
  rw [e] at hv
  rw [hrun, boolR_inv hv]
/-- due timers: each of them is there -/
theorem due_mem (now : Nat) {L : List MTimer} (h : TApart L) {t : MTimer} : t ∈ tdue now L ↔ t ∈ L ∧ t.at_ ≤ now := by
  rw [(tdue_spec now h).2.mem_iff, List.mem_filter]
  simp
theorem due_find (now : Nat) {L : List MTimer} (h : TApart L) (j : Nat) (hj : j < (tdue now L).length) : tfind L (tdue now L)[j].key = some (tdue now L)[j] :=
  tfind_mem h ((due_mem now h).1 (List.getElem_mem hj)).1
theorem due_apart (now : Nat) {L : List MTimer} (h : TApart L) : TApart (tdue now L) := (tdue_spec now h).2.symm.pairwise (h.filter _) (fun {a b} h e => h e.symm)
theorem due_new (now : Nat) {L : List MTimer} (h : TApart L) (j : Nat) (hj : j < (tdue now L).length) : (tdue now L)[j].key ∉ ((tdue now L).take j).map (·.key) := by
  intro hm
  obtain ⟨t, ht, e⟩ := List.mem_map.1 hm
  obtain ⟨i, hi, rfl⟩ := List.getElem_of_mem ht
  rw [List.length_take] at hi
  rw [List.getElem_take] at e
  exact List.pairwise_iff_getElem.1 (due_apart now h) i j (by omega) hj (by omega) e
theorem due_up (now : Nat) {L : List MTimer} (h : TApart L) (i j : Nat) (hi : i < (tdue now L).length) (hj : j < (tdue now L).length) (hij : i < j) : (tdue now L)[i].at_ ≤ (tdue now L)[j].at_ := by
  have := List.pairwise_iff_getElem.1 (tdue_spec now h).1 i j hi hj hij
  unfold tlt at this
  simp only [decide_eq_true_eq] at this
  omega
theorem due_told (now : Nat) {L : List MTimer} (h : TApart L) (k : ByteArray) (t : MTimer) (hf : tfind L k = some t) : kin ((tdue now L).map (·.key)) k = decide (t.at_ ≤ now) := by
  obtain ⟨hm, rfl⟩ := tfind_some hf
  rw [Bool.eq_iff_iff, kin_iff, decide_eq_true_eq]
  constructor
  · intro hk
    obtain ⟨u, hu, e⟩ := List.mem_map.1 hk
    obtain ⟨hu1, hu2⟩ := (due_mem now h).1 hu
    have := tfind_mem h hu1
    rw [e, hf] at this
    rw [Option.some.inj this]
    exact hu2
  · intro ha
    exact List.mem_map.2 ⟨t, (due_mem now h).2 ⟨hm, ha⟩, rfl⟩
/-- keys of due timers in a slice of the call's own -/
def KeyRow (w : World) (v : Value) (ks : List ByteArray) : Prop := ∃ a cap, v = .slice a ks.length cap ∧ ∀ j (h : j < ks.length), ∃ g, a = some ⟨g, 0, none⟩ ∧ w.cell? ⟨g, j, none⟩ = some (.string ks[j])
theorem key_own {w : World} {B : Nat} {v : Value} {ks : List ByteArray} (h : w.ownsRow B 9 1 v ks.length (ks.map Value.string)) : KeyRow w v ks := by
  rcases h.2 with ⟨rfl, hn⟩ | ⟨g, cap, cur, rfl, _⟩
  · have := List.length_eq_zero_iff.1 hn
    subst this
    exact ⟨none, 0, rfl, fun j hj => by simp at hj⟩
  · refine ⟨_, cap, rfl, fun j hj => ⟨g, rfl, ?_⟩⟩
    rw [h.cellAt j (by omega)]
    simp [hj]
theorem KeyRow.below {w w' : World} {v : Value} {ks : List ByteArray} (h : KeyRow w v ks) (hb : Below w.heap.size w w') : KeyRow w' v ks := by
  obtain ⟨a, cap, rfl, hc⟩ := h
  exact ⟨a, cap, rfl, fun j hj => by
    obtain ⟨g, e, hcell⟩ := hc j hj
    exact ⟨g, e, (hb.cell (World.block_lt_of_cell? w _ hcell)).trans hcell⟩⟩
end Go.Proofs.YtkidljiffeonjaaDoor
