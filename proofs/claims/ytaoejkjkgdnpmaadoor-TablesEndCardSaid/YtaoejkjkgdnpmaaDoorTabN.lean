/- The lists of package tables by one contract each; lists compared (SameInts, In). -/
import Derived.Test.YtaoejkjkgdnpmaaDoorRows
import Derived.WalkKit
import Derived.WalkSpells
import Derived.WalkLawsBesides
import Derived.BigQuiet
import Derived.Deep.QuietTactic
import Derived.StillTailTactics
import Derived.Handy
import Derived.Lib.Hide
import Derived.Test.YtaoejkjkgdnpmaaDoorTabM
set_option linter.unusedSimpArgs false
set_option linter.unusedVariables false
namespace Go.Proofs.YtaoejkjkgdnpmaaDoor
open Go.RowKit

/-- a slice that reads as a list of numbers -/
def ReadI (w : World) (v : Value) (xs : List Int) : Prop := ∃ a cap, v = .slice a xs.length cap ∧ (xs ≠ [] → ∃ g, a = some ⟨g, 0, none⟩ ∧ g < w.heap.size ∧ IntsAt w g xs)
theorem OwnI.read {B : Nat} {v : Value} {xs : List Int} {w : World} (h : OwnI B v xs w) : ReadI w v xs := by
  rcases h.2 with ⟨rfl, h0⟩ | ⟨g, cap, cur, rfl, _, hb, _, _, _, _⟩
  · exact ⟨none, 0, by rw [h0], fun hne => absurd (List.eq_nil_of_length_eq_zero h0) hne⟩
  · refine ⟨_, cap, rfl, fun _ => ⟨g, rfl, (Array.getElem?_eq_some_iff.1 hb).1, fun i hi => ?_⟩⟩
    have h' : w.ownsRow B 3 1 (.slice (some ⟨g, 0, none⟩) xs.length cap) xs.length (xs.map (Value.int .i64)) := h
    rw [h'.cellAt i (by simpa using hi)]
    simp [List.getElem?_eq_getElem hi]
theorem ReadI.below {w w' : World} {v : Value} {xs : List Int} (h : ReadI w v xs) (hb : Below w.heap.size w w') : ReadI w' v xs := by
  obtain ⟨a, cap, rfl, h⟩ := h
  refine ⟨a, cap, rfl, fun hne => ?_⟩
  obtain ⟨g, h1, h2, h3⟩ := h hne
  exact ⟨g, h1, Nat.lt_of_lt_of_le h2 hb.size, fun i hi => (hb.cell (p := ⟨g, i, none⟩) h2).trans (h3 i hi)⟩
theorem Draws.below {v : Value} {w w' : World} {e : Ending} (h : Draws v w e w') : e = .returned v ∧ Below w.heap.size w w' := by
  obtain ⟨h1, n, rfl⟩ := h
  exact ⟨h1, Below.drewN (Below.refl _ _) n⟩

set_option maxHeartbeats 1000000 in
theorem same_yes (xs : List Int) (v1 v2 : Value) (w : World) (h1 : ReadI w v1 xs) (h2 : ReadI w v2 xs) (hl : xs.length ≤ 1000) :
    Calls Tryd.prog 22 #[v1, v2] w (Draws (.bool true) w) := by
  obtain ⟨a1, c1, rfl, h1⟩ := h1
  obtain ⟨a2, c2, rfl, h2⟩ := h2
  by_cases hne : xs = []
  · subst hne
    clear h1 h2
    simp only [List.length_nil]
    go_enter Tryd.func22, Tryd.ntmps22
    go_wp2
    refine wp_loop_rounds 1 ?_
    rw [rounds_succ]
    go_wp2
    go_ret
    exact ⟨rfl, 0, rfl⟩
  · obtain ⟨g1, rfl, _, i1⟩ := h1 hne
    obtain ⟨g2, rfl, _, i2⟩ := h2 hne
    have I1 := Lib.hid i1; clear i1 h1
    have I2 := Lib.hid i2; clear i2 h2 hne
    have hr : ((xs.length : Int) != xs.length) = false := by simp
    go_enter Tryd.func22, Tryd.ntmps22
    go_wp2
    go_loopw [13] (fun i wr => ∃ k : Nat, k ≤ xs.length ∧ i = .int .i64 k ∧ Hid (∃ n, wr = w.drewN n)) (fun i _ => xs.length - (intOf i).toNat)
    case atStart => exact ⟨0, by omega, rfl, Lib.hid ⟨0, rfl⟩⟩
    case round =>
      obtain ⟨k, hk, rfl, HW⟩ := hrel
      by_cases hlt : k < xs.length
      · have a1 : wr.cell? ⟨g1, k, none⟩ = some (.int .i64 xs[k]) := by
          obtain ⟨n, rfl⟩ := HW.out
          exact I1.out k hlt
        have a2 : wr.cell? ⟨g2, k, none⟩ = some (.int .i64 xs[k]) := by
          obtain ⟨n, rfl⟩ := HW.out
          exact I2.out k hlt
        have hi0 : (0 : Int) ≤ (k : Int) := by omega
        have hi1 : (k : Int) < (xs.length : Int) := by omega
        obtain ⟨x, hx⟩ : ∃ x, x = xs[k] := ⟨_, rfl⟩
        rw [← hx] at a1 a2
        clear hx
        go_wp2
        go_quiet (fail)
        go_wp2
        go_roundw
        case rel =>
          refine ⟨k + 1, by omega, by go_num, ?_⟩
          obtain ⟨n, rfl⟩ := HW.out
          exact Lib.hid ⟨_, by rw [World.drewN_drewN]⟩
        case measure => simp [intOf]; omega
      · have hi1 : ¬ (k : Int) < (xs.length : Int) := by omega
        go_wp2
        go_ret
        exact ⟨rfl, HW.out⟩

set_option maxHeartbeats 1000000 in
theorem in_any (xs : List Int) (n : Int) (v : Value) (w : World) (h : ReadI w v xs) (hl : xs.length ≤ 1000) :
    Calls Tryd.prog 23 #[v, .int .i64 n] w (Gives (.bool (xs.contains n)) w) := by
  obtain ⟨a1, c1, rfl, h1⟩ := h
  by_cases hne : xs = []
  · subst hne
    clear h1
    simp only [List.length_nil]
    go_enter Tryd.func23, Tryd.ntmps23
    go_wp2
    refine wp_loop_rounds 1 ?_
    rw [rounds_succ]
    go_wp2
    go_ret
    exact ⟨rfl, rfl⟩
  · obtain ⟨g1, rfl, _, i1⟩ := h1 hne
    have I1 := Lib.hid i1; clear i1 h1 hne
    go_enter Tryd.func23, Tryd.ntmps23
    go_wp2
    go_loop [9] (fun i => ∃ k : Nat, k ≤ xs.length ∧ i = .int .i64 k ∧ Hid (∀ j, (h : j < xs.length) → j < k → xs[j] ≠ n)) (fun i => xs.length - (intOf i).toNat)
    case atStart => exact ⟨0, by omega, rfl, Lib.hid (fun j _ hj => absurd hj (Nat.not_lt_zero _))⟩
    case round =>
      obtain ⟨k, hk, rfl, HN⟩ := hrel
      by_cases hlt : k < xs.length
      · have a1 := I1.out k hlt
        by_cases hx : xs[k] = n
        · have hmem : xs.contains n = true := by simp only [List.contains_eq_mem, decide_eq_true_eq]; rw [← hx]; exact List.getElem_mem _
          rw [hx] at a1
          have HM := Lib.hid hmem; clear hmem hx
          go_wp2
          go_ret
          exact ⟨ret_bool (by have := HM.out; simp at this; simp [this]), rfl⟩
        · have hx' : (xs[k] == n) = false := by simpa using hx
          obtain ⟨x, hxk⟩ : ∃ x, x = xs[k] := ⟨_, rfl⟩
          rw [← hxk] at a1 hx'
          have HX := Lib.hid hx; clear hx hxk
          go_wp2
          go_round
          case rel =>
            refine ⟨k + 1, by omega, by go_num, Lib.hid (fun j h hj => ?_)⟩
            rcases Nat.lt_succ_iff_lt_or_eq.1 hj with h' | rfl
            · exact HN.out j h h'
            · exact HX.out
          case measure => simp [intOf]; omega
      · have hmem : xs.contains n = false := by
          simp only [List.contains_eq_mem, decide_eq_false_iff_not]
          intro hm
          obtain ⟨i, hi, rfl⟩ := List.mem_iff_getElem.1 hm
          exact HN.out i hi (by omega) rfl
        have HM := Lib.hid hmem; clear hmem
        go_wp2
        go_ret
        exact ⟨ret_bool (by have := HM.out; simp at this; simp [this]), rfl⟩

/-- the numbers up to 19 that are so -/
def upto (f : Int → Bool) : List Int := ((List.range 19).map fun i : Nat => (i : Int) + 1).filter f
theorem tab_lists {p d : Int} {t : Tab} (ht : tabOf p d = some t) : (∃ k s e r, t.rows = (k, s, e) :: r ∧ pick s 14 = upto (rHas p d)) ∧ t.rows.map (·.1) = upto (rTakes p d) ∧ t.acts.map (·.1) = upto (rSends p d) := by
  rcases tabOf_cases ht with ⟨rfl, rfl, rfl⟩ | ⟨rfl, rfl, rfl⟩ | ⟨rfl, rfl, rfl⟩ | ⟨rfl, rfl, rfl⟩
  all_goals exact ⟨⟨_, _, _, _, rfl, by decide +kernel⟩, by decide +kernel, by decide +kernel⟩
theorem some_of_side {p d : Int} (h : rSide p d = true) : ∃ t, tabOf p d = some t := by
  cases ht : tabOf p d with
  | some t => exact ⟨t, rfl⟩
  | none => rw [tabOf_none ht] at h; cases h
theorem none_of_side {p d : Int} (h : rSide p d = false) : tabOf p d = none := by
  cases ht : tabOf p d with
  | none => rfl
  | some t => rw [tabOf_some ht] at h; cases h
theorem states_yes (p d : Int) (w : World) (h : rSide p d = true) : Calls Tryd.prog 24 #[.int .i64 p, .int .i64 d] w (MakesI (upto (rHas p d)) w) := by
  obtain ⟨t, ht⟩ := some_of_side h
  obtain ⟨⟨k, s, e, r, h1, h2⟩, _, _⟩ := tab_lists ht
  rw [← h2]
  exact states_tab p d t k e s r w ht h1
theorem takes_yes (p d : Int) (w : World) (h : rSide p d = true) : Calls Tryd.prog 21 #[.int .i64 p, .int .i64 d] w (MakesI (upto (rTakes p d)) w) := by
  obtain ⟨t, ht⟩ := some_of_side h
  rw [← (tab_lists ht).2.1]
  exact takes_tab p d t w ht
theorem sends_yes (p d : Int) (w : World) (h : rSide p d = true) : Calls Tryd.prog 20 #[.int .i64 p, .int .i64 d] w (MakesI (upto (rSends p d)) w) := by
  obtain ⟨t, ht⟩ := some_of_side h
  rw [← (tab_lists ht).2.2]
  exact sends_tab p d t w ht

set_option maxHeartbeats 1000000 in
theorem states_no (p d : Int) (a : Addr) (w : World) (he : ErrIs w 13 a) (h : rSide p d = false) :
    Calls Tryd.prog 24 #[.int .i64 p, .int .i64 d] w (Makes (.tuple #[.slice none 0 0, errV a]) w) := by
  have HN := Lib.hid (none_of_side h); clear h
  have HE := Lib.hid he; clear he
  go_enter Tryd.func24, Tryd.ntmps24
  go_wp2_with (first
    | (go_at_call 28; refine (of_no p d a _ ?_ HN.out).mono ?_; exact HE.out.below (by go_grown); rintro e w1 ⟨rfl, hb1⟩; have hz1 := hb1.size; (try simp only [World.size_alloc] at hz1); have B1 : Below w.heap.size w w1 := below_then (by go_grown) hb1))
  go_ret2
  exact ⟨rfl, by go_grown⟩

set_option maxHeartbeats 1000000 in
theorem takes_no (p d : Int) (a : Addr) (w : World) (he : ErrIs w 13 a) (h : rSide p d = false) :
    Calls Tryd.prog 21 #[.int .i64 p, .int .i64 d] w (Makes (.tuple #[.slice none 0 0, errV a]) w) := by
  have HN := Lib.hid (none_of_side h); clear h
  have HE := Lib.hid he; clear he
  go_enter Tryd.func21, Tryd.ntmps21
  go_wp2_with (first
    | (go_at_call 28; refine (of_no p d a _ ?_ HN.out).mono ?_; exact HE.out.below (by go_grown); rintro e w1 ⟨rfl, hb1⟩; have hz1 := hb1.size; (try simp only [World.size_alloc] at hz1); have B1 : Below w.heap.size w w1 := below_then (by go_grown) hb1))
  go_ret2
  exact ⟨rfl, by go_grown⟩

set_option maxHeartbeats 1000000 in
theorem sends_no (p d : Int) (a : Addr) (w : World) (he : ErrIs w 13 a) (h : rSide p d = false) :
    Calls Tryd.prog 20 #[.int .i64 p, .int .i64 d] w (Makes (.tuple #[.slice none 0 0, errV a]) w) := by
  have HN := Lib.hid (none_of_side h); clear h
  have HE := Lib.hid he; clear he
  go_enter Tryd.func20, Tryd.ntmps20
  go_wp2_with (first
    | (go_at_call 28; refine (of_no p d a _ ?_ HN.out).mono ?_; exact HE.out.below (by go_grown); rintro e w1 ⟨rfl, hb1⟩; have hz1 := hb1.size; (try simp only [World.size_alloc] at hz1); have B1 : Below w.heap.size w w1 := below_then (by go_grown) hb1))
  go_ret2
  exact ⟨rfl, by go_grown⟩
end Go.Proofs.YtaoejkjkgdnpmaaDoor
