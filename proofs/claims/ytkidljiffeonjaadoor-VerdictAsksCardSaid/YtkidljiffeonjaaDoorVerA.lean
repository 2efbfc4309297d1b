/- Package verdict over an activity's registrations: ContainsFunc, every, Ready, Over, Uniform. -/
import Derived.Test.YtkidljiffeonjaaDoorRows
import Derived.WalkKit
import Derived.WalkSpells
import Derived.WalkLawsBesides
import Derived.BigQuiet
import Derived.Deep.QuietTactic
import Derived.StillTailTactics
import Derived.Handy
import Derived.Lib.Hide
import Derived.Test.YtkidljiffeonjaaDoorBlk
import Derived.Test.YtkidljiffeonjaaDoorMovPlain
set_option linter.unusedSimpArgs false
set_option linter.unusedVariables false
namespace Go.Proofs.YtkidljiffeonjaaDoor
open Go.RowKit

abbrev vseatV (s : MSeat) : Value := .agg #[.int .i64 s.p, .int .i64 s.d, .int .i64 s.s, .int .i64 s.h]
abbrev regV (s : MSeat) : Value := .agg #[.int .i64 0, .int .i64 0, .int .i64 s.p, .int .i64 s.d, .int .i64 s.s, .int .i64 s.h]
abbrev actV (r : Value) : Value := .agg #[.int .i64 0, .int .i64 0, .int .i64 0, .int .i64 0, .float .f64 0, .int .i64 0, .int .i64 0, r]
abbrev actC (r : Value) : Array Value := #[.int .i64 0, .int .i64 0, .int .i64 0, .int .i64 0, .float .f64 0, .int .i64 0, .int .i64 0, r]
def RegAt (w : World) (b o : Nat) (s : MSeat) : Prop := w.cell? ⟨b, o, none⟩ = some (.int .i64 0) ∧ w.cell? ⟨b, o + 1, none⟩ = some (.int .i64 0) ∧ w.cell? ⟨b, o + 2, none⟩ = some (.int .i64 s.p) ∧ w.cell? ⟨b, o + 3, none⟩ = some (.int .i64 s.d) ∧ w.cell? ⟨b, o + 4, none⟩ = some (.int .i64 s.s) ∧ w.cell? ⟨b, o + 5, none⟩ = some (.int .i64 s.h)
theorem RegAt.below {w w' : World} {b o : Nat} {s : MSeat} (h : RegAt w b o s) (hb : Below w.heap.size w w') (hl : b < w.heap.size) : RegAt w' b o s :=
  ⟨(hb.cell (p := ⟨b, o, none⟩) hl).trans h.1, (hb.cell (p := ⟨b, o + 1, none⟩) hl).trans h.2.1, (hb.cell (p := ⟨b, o + 2, none⟩) hl).trans h.2.2.1, (hb.cell (p := ⟨b, o + 3, none⟩) hl).trans h.2.2.2.1, (hb.cell (p := ⟨b, o + 4, none⟩) hl).trans h.2.2.2.2.1, (hb.cell (p := ⟨b, o + 5, none⟩) hl).trans h.2.2.2.2.2⟩
/-- a slice of registrations of those seats -/
def RegRow (w : World) (v : Value) (ss : List MSeat) : Prop := ∃ a cap, v = .slice a ss.length cap ∧ (ss ≠ [] → ∃ b off, a = some ⟨b, off, none⟩ ∧ b < w.heap.size ∧ ∀ (j : Nat) (h : j < ss.length), RegAt w b (off + j * 6) ss[j])
theorem RegRow.below {w w' : World} {v : Value} {ss : List MSeat} (h : RegRow w v ss) (hb : Below w.heap.size w w') : RegRow w' v ss := by
  obtain ⟨a, cap, rfl, h⟩ := h
  refine ⟨a, cap, rfl, fun hn => ?_⟩
  obtain ⟨b, off, rfl, hl, h⟩ := h hn
  exact ⟨b, off, rfl, Nat.lt_of_lt_of_le hl hb.size, fun j hj => (h j hj).below hb hl⟩

set_option maxRecDepth 100000 in
set_option maxHeartbeats 2000000 in
theorem index_of (P : Nat) (v : Value) (ss : List MSeat) (p : MSeat → Bool) (w : World) (hr : RegRow w v ss) (hl : ss.length ≤ 1000)
    (hp : ∀ W s, Below w.heap.size w W → Calls Tryd.prog 102 #[regV s, .pointer (some ⟨P, 0, none⟩)] W (Makes (.bool (p s)) W)) :
    Calls Tryd.prog 129 #[v, .func (.func 102) #[] #[.pointer (some ⟨P, 0, none⟩)]] w fun e w' => ∃ n : Int, e = .returned (.int .i64 n) ∧ (0 ≤ n ↔ ss.any p = true) ∧ Below w.heap.size w w' := by
  obtain ⟨a, cap, rfl, hrow⟩ := hr
  have HR := Lib.hid hrow; have HP := Lib.hid hp
  clear hrow hp
  obtain ⟨n, hn⟩ : ∃ n, n = ss.length := ⟨_, rfl⟩
  rw [← hn] at hl ⊢
  have HN := Lib.hid hn; clear hn
  go_enter Tryd.func129, Tryd.ntmps129
  go_wp2_with fail
  go_loopw [8] (fun i wr => ∃ k : Nat, k ≤ n ∧ i = .int .i64 (k : Nat) ∧ (∀ (j : Nat) (h : j < ss.length), j < k → p ss[j] = false) ∧ Below w.heap.size w wr) (fun i _ => n - (intOf i).toNat)
  case atStart => exact ⟨0, by omega, by go_num, fun j _ h => absurd h (by omega), Below.refl _ _⟩
  case round =>
    obtain ⟨k, hk, rfl, hbe, hB⟩ := hrel
    have HBE := Lib.hid hbe; clear hbe
    by_cases hlt : k < n
    · have hks : k < ss.length := by rw [← HN.out]; exact hlt
      obtain ⟨b, off, rfl, hbl, hreg⟩ := HR.out (by intro e; rw [e] at hks; simp at hks)
      obtain ⟨s, hs⟩ : ∃ s, s = ss[k] := ⟨_, rfl⟩
      have hat := (hreg k hks).below hB hbl
      rw [← hs] at hat
      obtain ⟨c0, c1, c2, c3, c4, c5⟩ := hat
      have HS := Lib.hid hs
      clear hreg hs
      have hki : (k : Int) < (n : Int) := by omega
      have hk0 : (0 : Int) ≤ (k : Int) := by omega
      obtain ⟨t, ht⟩ : ∃ t, t = p s := ⟨_, rfl⟩
      have hc := fun W hW => HP.out W s hW
      rw [← ht] at hc
      have HT := Lib.hid ht; have HC := Lib.hid hc
      clear ht hc
      go_wp2_with fail
      refine (HC.out _ (below_then hB (by go_grown))).mono ?_
      rintro e w1 ⟨rfl, hb1⟩
      have hB1 : Below w.heap.size w w1 := below_then hB (below_then (by go_grown) hb1)
      cases t with
      | true =>
        go_wp2_with fail
        go_ret
        refine ⟨(k : Int), rfl, ⟨fun _ => ?_, fun _ => hk0⟩, hB1⟩
        rw [List.any_eq_true]
        exact ⟨s, by rw [HS.out]; exact List.getElem_mem _, HT.out.symm⟩
      | false =>
        go_wp2_with fail
        all_goals (go_roundw <;> first | exact ⟨k + 1, by omega, by go_num, fun j h hj => by
            rcases Nat.lt_or_eq_of_le (Nat.le_of_lt_succ hj) with h1 | h1
            · exact HBE.out j h h1
            · subst h1; rw [← HS.out]; exact HT.out.symm, hB1⟩ | (simp [intOf]; omega))
    · obtain rfl : k = n := by omega
      go_wp2_with fail
      go_ret
      refine ⟨-1, rfl, ⟨fun h => absurd h (by decide), fun h => ?_⟩, hB⟩
      exfalso
      rw [List.any_eq_true] at h
      obtain ⟨s, hs, hps⟩ := h
      obtain ⟨j, hj, rfl⟩ := List.getElem_of_mem hs
      rw [HBE.out j hj (by rw [HN.out]; exact hj)] at hps
      cases hps
theorem contains_of (P : Nat) (v : Value) (ss : List MSeat) (p : MSeat → Bool) (w : World) (hr : RegRow w v ss) (hl : ss.length ≤ 1000)
    (hp : ∀ W s, Below w.heap.size w W → Calls Tryd.prog 102 #[regV s, .pointer (some ⟨P, 0, none⟩)] W (Makes (.bool (p s)) W)) :
    Calls Tryd.prog 101 #[v, .func (.func 102) #[] #[.pointer (some ⟨P, 0, none⟩)]] w (Makes (.bool (ss.any p)) w) := by
  have HI := Lib.hid (index_of P v ss p w hr hl hp)
  obtain ⟨a, cap, rfl, _⟩ := hr
  obtain ⟨t, ht⟩ : ∃ t, t = ss.any p := ⟨_, rfl⟩
  rw [← ht] at HI ⊢
  clear ht hp hl
  go_enter Tryd.func101, Tryd.ntmps101
  go_wp2_with fail
  refine HI.out.mono ?_
  rintro e w1 ⟨n, rfl, hn, hb1⟩
  go_wp2_with fail
  go_ret
  exact ⟨ret_bool (by first | rfl | (rw [Bool.eq_iff_iff]; simpa using hn)), hb1⟩
end Go.Proofs.YtkidljiffeonjaaDoor
