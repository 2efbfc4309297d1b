/- The walks of package tables: states, what is waited with, a cell. -/
import Derived.Test.YtkidljiffeonjaaDoorRows
import Derived.WalkKit
import Derived.WalkSpells
import Derived.WalkLawsBesides
import Derived.BigQuiet
import Derived.Deep.QuietTactic
import Derived.StillTailTactics
import Derived.Handy
import Derived.Lib.Hide
import Derived.Test.YtkidljiffeonjaaDoorTabC
set_option linter.unusedSimpArgs false
set_option linter.unusedVariables false
namespace Go.Proofs.YtkidljiffeonjaaDoor
open Go.RowKit

def chr (b : ByteArray) (i : Nat) : Int := ((b.data.toList.getD i 0).toNat : Int)
theorem chr_at {b : ByteArray} {k : Nat} (h : k < b.size) : (b[k].toNat : Int) = chr b k := by
  unfold chr
  have : k < b.data.toList.length := by simpa using h
  rw [List.getD_eq_getElem?_getD, List.getElem?_eq_getElem this]
  rfl
theorem chr_bd (b : ByteArray) (i : Nat) : 0 ≤ chr b i ∧ chr b i ≤ 255 := by
  unfold chr
  have := (b.data.toList.getD i 0).toNat_lt
  omega
def tHas (t : Tab) (s : Int) : Bool := decide (1 ≤ s ∧ s ≤ 14) && (match t.rows with | r :: _ => chr r.2.1 (s - 1).toNat != 46 | [] => false)
def num (c : Int) : Int := (c - 97) % 256 + 1
def tWaited (t : Tab) (s : Int) : Int := if chr t.waits (s - 1).toNat = 46 then 0 else num (chr t.waits (s - 1).toNat)
def tCell (t : Tab) (r : Row) (s : Int) : Int × Int × Int :=
  if chr r.2.1 (s - 1).toNat = 120 then (4, 0, 0) else if chr r.2.1 (s - 1).toNat = 45 then (2, 0, 0) else if chr r.2.1 (s - 1).toNat = 61 then (3, 0, tWaited t s)
  else if chr r.2.1 (s - 1).toNat = 33 then (3, 0, r.2.2) else (1, num (chr r.2.1 (s - 1).toNat), 0)
/-- a table as they are here: each text has a letter a state -/
def Wf (t : Tab) : Prop := t.waits.size = 14 ∧ t.rows ≠ [] ∧ t.rows.length ≤ 20 ∧ t.acts.length ≤ 20 ∧ (∀ r ∈ t.rows, r.2.1.size = 14) ∧ (∀ r ∈ t.acts, r.2.size = 14)

set_option maxHeartbeats 400000 in
theorem number_any (c : Int) (w : World) (hc : 0 ≤ c ∧ c ≤ 255) : Calls Tryd.prog 128 #[.int .u8 c] w (Gives (.int .i64 (num c)) w) := by
  go_enter Tryd.func128, Tryd.ntmps128
  go_wp2
  go_ret
  exact ⟨rfl, rfl⟩

set_option maxRecDepth 100000 in
set_option maxHeartbeats 400000 in
theorem has_any (B : Nat) (t : Tab) (v : Value) (s : Int) (w : World) (ht : IsTab B t v w) (hwf : Wf t) :
    Calls Tryd.prog 98 #[v, .int .i64 s] w (Makes (.bool (tHas t s)) w) := by
  obtain ⟨br, ba, b1, b2, rfl, h1, h2⟩ := ht
  obtain ⟨_, hne, hl, _, hsz, _⟩ := hwf
  obtain ⟨rw, acts, waits⟩ := t
  simp only at hne hsz h1 h2 hl
  match rw, hne with
  | r :: rs, _ =>
  have hz := h1.1
  obtain ⟨c1, c2, c3⟩ := h1.2 0 (by simp)
  have hsz := hsz r (by simp)
  obtain ⟨kind, str, en⟩ := r
  simp only [List.getElem_cons_zero, Nat.zero_mul, Nat.zero_add] at c1 c2 c3 hsz
  simp only [List.length_cons] at hl ⊢
  clear h1 h2
  by_cases h14 : 1 ≤ s ∧ s ≤ 14
  · obtain ⟨k, rfl⟩ : ∃ k : Nat, s = (k : Int) + 1 := ⟨(s - 1).toNat, by omega⟩
    have hk : k < str.size := by omega
    have hk2 := Lib.hid hsz; clear hsz
    go_enter Tryd.func98, Tryd.ntmps98
    go_wp2
    go_ret
    refine ⟨ret_bool ?_, by go_grown⟩
    rw [chr_at hk]
    have : ((k : Int) + 1 - 1).toNat = k := by omega
    simp [tHas, h14, this]
  · by_cases hs : 1 ≤ s
    · have h15 : ¬ s ≤ 14 := by omega
      have h15' : decide (s ≤ 14) = false := by simpa using h15
      clear h14
      go_enter Tryd.func98, Tryd.ntmps98
      go_wp2
      go_ret
      refine ⟨ret_bool ?_, by go_grown⟩
      simp [tHas]; omega
    · have h15' : decide (1 ≤ s) = false := by simpa using hs
      clear h14
      go_enter Tryd.func98, Tryd.ntmps98
      go_wp2
      go_ret
      refine ⟨ret_bool ?_, by go_grown⟩
      simp [tHas]; omega

set_option maxRecDepth 100000 in
set_option maxHeartbeats 400000 in
theorem waited_any (B : Nat) (t : Tab) (v : Value) (s : Int) (w : World) (ht : IsTab B t v w) (hwf : Wf t) (h14 : 1 ≤ s ∧ s ≤ 14) :
    Calls Tryd.prog 99 #[v, .int .i64 s] w (Makes (.int .i64 (tWaited t s)) w) := by
  obtain ⟨br, ba, b1, b2, rfl, h1, h2⟩ := ht
  have hsz := hwf.1
  obtain ⟨rw, acts, waits⟩ := t
  simp only at hsz ⊢
  clear h1 h2 hwf
  obtain ⟨k, rfl⟩ : ∃ k : Nat, s = (k : Int) + 1 := ⟨(s - 1).toNat, by omega⟩
  have hk : k < waits.size := by omega
  have hk2 := Lib.hid hsz; clear hsz
  have hb := waits[k].toNat_lt
  go_enter Tryd.func99, Tryd.ntmps99
  go_wp2_with (first | (go_at_call 128; refine (number_any _ _ (by omega)).mono ?_; rintro e w' ⟨rfl, rfl⟩))
  all_goals go_ret
  all_goals (refine ⟨ret_int ?_, by go_grown⟩; have e1 : ((k : Int) + 1 - 1).toNat = k := by omega)
  all_goals rw [tWaited, e1]
  · have h : (waits[k].toNat : Int) = 46 := by first | assumption | (have : ((waits[k].toNat : Int) == 46) = true := by assumption); simpa using this
    rw [chr_at hk] at h
    rw [if_pos h]
  · have h : ¬ (waits[k].toNat : Int) = 46 := by first | assumption | (have : ((waits[k].toNat : Int) == 46) = false := by assumption); simpa using this
    rw [chr_at hk] at h ⊢
    rw [if_neg h]

theorem tCell_at (t : Tab) (kind en : Int) (str : ByteArray) (k : Nat) (hk : k < str.size) : tCell t (kind, str, en) ((k : Int) + 1) = (if (str[k].toNat : Int) = 120 then (4, 0, 0) else if (str[k].toNat : Int) = 45 then (2, 0, 0) else if (str[k].toNat : Int) = 61 then (3, 0, tWaited t ((k : Int) + 1)) else if (str[k].toNat : Int) = 33 then (3, 0, en) else (1, num (str[k].toNat : Int), 0)) := by
  have e1 : ((k : Int) + 1 - 1).toNat = k := by omega
  unfold tCell
  simp only [e1, chr_at hk]

set_option maxRecDepth 100000 in
set_option maxHeartbeats 400000 in
theorem cell_any (B : Nat) (t : Tab) (v : Value) (kind en : Int) (str : ByteArray) (s : Int) (w : World) (ht : IsTab B t v w) (hwf : Wf t) (h14 : 1 ≤ s ∧ s ≤ 14) (hsz : str.size = 14) :
    Calls Tryd.prog 157 #[v, .agg #[.int .i64 kind, .string str, .int .i64 en], .int .i64 s] w (Makes (cell3 (tCell t (kind, str, en) s)) w) := by
  have HT := Lib.hid ht
  obtain ⟨br, ba, b1, b2, rfl, h1, h2⟩ := ht
  have hlr := h1.1
  have hla := h2.1
  clear h1 h2
  obtain ⟨k, rfl⟩ : ∃ k : Nat, s = (k : Int) + 1 := ⟨(s - 1).toNat, by omega⟩
  have hk : k < str.size := by omega
  have hk2 := Lib.hid hsz; clear hsz
  have hb := str[k].toNat_lt
  go_enter Tryd.func157, Tryd.ntmps157
  go_wp2_with (first | (go_at_call 128; refine (number_any _ _ (by omega)).mono ?_; rintro e w' ⟨rfl, rfl⟩) | (go_at_call 99; refine (waited_any B t _ _ _ ?_ hwf (by omega)).mono ?_; exact (HT.out.below (by go_grown)); rintro e w' ⟨rfl, hb1⟩; obtain ⟨hc, hf⟩ := bcell hb1; have hz1 := hb1.size; simp only [World.size_alloc] at hz1))
  all_goals have e1 : ((k : Int) + 1 - 1).toNat = k := by omega
  all_goals have ht := tCell_at t kind en str k hk
  all_goals have HX := Lib.hid ht; clear ht
  all_goals first
    | (obtain ⟨hc, hf⟩ := bcell hb1
       refine bodyPost_ret (v := .agg #[.int .i64 3, .int .i64 0, .int .i64 (tWaited t (↑k + 1))]) (by simp [results, Tryd.results157, go_sem, hc, hf, hz1]) rfl ⟨ret_cell ?_, ?_⟩
       · rw [HX.out]; simp only [beq_iff_eq, beq_eq_false_iff_ne, bne_iff_ne, bne_eq_false_iff_eq, ne_eq, decide_eq_true_eq, decide_eq_false_iff_not, Bool.not_eq_true', Bool.not_eq_false'] at *; simp [*]
       · exact ((((((((Below.refl _ _).alloc (Nat.le_refl _) _).alloc (by simp) _).alloc (by simp; omega) _).trans (hb1.mono (by simp; omega))).setCell (by simp; omega) _).setCell (by simp; omega) _).setCell (by simp; omega) _))
    | (go_returns
       refine ⟨ret_cell ?_, by go_grown⟩
       rw [HX.out]; simp only [beq_iff_eq, beq_eq_false_iff_ne, bne_iff_ne, bne_eq_false_iff_eq, ne_eq, decide_eq_true_eq, decide_eq_false_iff_not, Bool.not_eq_true', Bool.not_eq_false'] at *; simp [*])

end Go.Proofs.YtkidljiffeonjaaDoor
