/- The reference's Ready, Over, Uniform, Counted (liaisonref18), verdict.Counted, SameInts. -/
import Derived.Test.YtkidljiffeonjaaDoorRows
import Derived.WalkKit
import Derived.WalkSpells
import Derived.WalkLawsBesides
import Derived.BigQuiet
import Derived.Deep.QuietTactic
import Derived.StillTailTactics
import Derived.Handy
import Derived.Lib.Hide
import Derived.Test.YtkidljiffeonjaaDoorVerC
import Derived.Test.YtkidljiffeonjaaDoorTabH
set_option linter.unusedSimpArgs false
set_option linter.unusedVariables false
namespace Go.Proofs.YtkidljiffeonjaaDoor
open Go.RowKit

def rReady (s : MSeat) : Bool := decide (s.s = 5) || (decide (s.s = 14) && decide (s.h = 1))
def rOver (s : MSeat) : Bool := decide (s.s = 14)
def rOne (s : MSeat) : Bool := decide (s.s = 6) || (decide (s.s = 14) && decide (s.h = 7))
def rTwo (s : MSeat) : Bool := decide (s.s = 7) || decide (s.s = 2) || decide (s.s = 3) || (decide (s.s = 14) && (decide (s.h = 8) || decide (s.h = 6)))
theorem all_false {ss : List MSeat} {q : MSeat → Bool} {k : Nat} (h : k < ss.length) (hq : q ss[k] = false) : ss.all q = false := by
  rw [List.all_eq_false]
  exact ⟨ss[k], List.getElem_mem _, by rw [hq]; decide⟩
theorem all_true {ss : List MSeat} {q : MSeat → Bool} (hq : ∀ (j : Nat) (h : j < ss.length), q ss[j] = true) : ss.all q = true := by
  rw [List.all_eq_true]
  intro s hs
  obtain ⟨j, hj, rfl⟩ := List.getElem_of_mem hs
  exact hq j hj
theorem any_succ (ss : List MSeat) (q : MSeat → Bool) (k : Nat) (h : k < ss.length) : (ss.take (k + 1)).any q = ((ss.take k).any q || q ss[k]) := by
  rw [List.take_succ_eq_append_getElem h, List.any_append]; simp
set_option maxRecDepth 100000 in
set_option maxHeartbeats 2000000 in
theorem rready_of (v : Value) (ss : List MSeat) (w : World) (hr : RegRow w v ss) (hl : ss.length ≤ 1000) : Calls Tryd.prog 20 #[actV v] w (Makes (.bool (ss.all rReady)) w) := by
  obtain ⟨a, cap, rfl, hrow⟩ := hr
  have HR := Lib.hid hrow
  clear hrow
  obtain ⟨n, hn⟩ : ∃ n, n = ss.length := ⟨_, rfl⟩
  rw [← hn] at hl ⊢
  have HN := Lib.hid hn; clear hn
  dsimp only [actV] at *
  go_enter Tryd.func20, Tryd.ntmps20
  go_wp2_with fail
  go_loopw [8] (fun i wr => ∃ k : Nat, k ≤ n ∧ i = .int .i64 (k : Nat) ∧ (∀ (j : Nat) (h : j < ss.length), j < k → rReady ss[j] = true) ∧ Below w.heap.size w wr) (fun i _ => n - (intOf i).toNat)
  case atStart => exact ⟨0, by omega, by go_num, fun j _ h => absurd h (by omega), by go_grown⟩
  case round =>
    obtain ⟨k, hk, rfl, hbe, hB⟩ := hrel
    have HBE := Lib.hid hbe; clear hbe
    by_cases hlt : k < n
    · have hks : k < ss.length := by rw [← HN.out]; exact hlt
      obtain ⟨b, off, rfl, hbl, hreg⟩ := HR.out (by intro e; rw [e] at hks; simp at hks)
      obtain ⟨s, hs⟩ : ∃ s, s = ss[k] := ⟨_, rfl⟩
      have hat := (hreg k hks).below hB hbl
      rw [← hs] at hat
      obtain ⟨c0, c1, c2, c3, c4, c5⟩ := hat
      obtain ⟨sp, sd, st, sh⟩ := s
      dsimp only at c0 c1 c2 c3 c4 c5
      have HS := Lib.hid hs
      clear hreg hs
      have hki : (k : Int) < (n : Int) := by omega
      have hk0 : (0 : Int) ≤ (k : Int) := by omega
      have HF := Lib.hid (fun hq => all_false (q := rReady) hks hq)
      rw [← HS.out] at HF
      have HX := Lib.hid (fun (hq : rReady ⟨sp, sd, st, sh⟩ = true) (j : Nat) (h : j < ss.length) (hj : j < k + 1) => (show rReady ss[j] = true by
        rcases Nat.lt_or_eq_of_le (Nat.le_of_lt_succ hj) with h1 | h1
        · exact HBE.out j h h1
        · subst h1; rw [← HS.out]; exact hq))
      go_wp2_with fail
      all_goals first
        | (go_roundw <;> first | exact ⟨k + 1, by omega, by go_num, HX.out (by unfold rReady; (try simp only [beq_iff_eq, beq_eq_false_iff_ne, bne_iff_ne, bne_eq_false_iff_eq, ne_eq, Bool.not_eq_true', Bool.not_eq_false'] at *); first | (simp [*]; done) | (simp; omega)), below_then hB (by go_grown)⟩ | (simp [intOf]; omega))
        | (go_ret; exact ⟨ret_bool (by rw [HF.out (by unfold rReady; (try simp only [beq_iff_eq, beq_eq_false_iff_ne, bne_iff_ne, bne_eq_false_iff_eq, ne_eq, Bool.not_eq_true', Bool.not_eq_false'] at *); first | (simp [*]; done) | (simp; omega))]), below_then hB (by go_grown)⟩)
    · obtain rfl : k = n := by omega
      go_wp2_with fail
      go_ret
      exact ⟨ret_bool (by rw [all_true (fun j h => HBE.out j h (by rw [HN.out]; exact h))]), hB⟩
set_option maxRecDepth 100000 in
set_option maxHeartbeats 2000000 in
theorem rover_of (v : Value) (ss : List MSeat) (w : World) (hr : RegRow w v ss) (hl : ss.length ≤ 1000) : Calls Tryd.prog 22 #[actV v] w (Makes (.bool (ss.all rOver)) w) := by
  obtain ⟨a, cap, rfl, hrow⟩ := hr
  have HR := Lib.hid hrow
  clear hrow
  obtain ⟨n, hn⟩ : ∃ n, n = ss.length := ⟨_, rfl⟩
  rw [← hn] at hl ⊢
  have HN := Lib.hid hn; clear hn
  dsimp only [actV] at *
  go_enter Tryd.func22, Tryd.ntmps22
  go_wp2_with fail
  go_loopw [8] (fun i wr => ∃ k : Nat, k ≤ n ∧ i = .int .i64 (k : Nat) ∧ (∀ (j : Nat) (h : j < ss.length), j < k → rOver ss[j] = true) ∧ Below w.heap.size w wr) (fun i _ => n - (intOf i).toNat)
  case atStart => exact ⟨0, by omega, by go_num, fun j _ h => absurd h (by omega), by go_grown⟩
  case round =>
    obtain ⟨k, hk, rfl, hbe, hB⟩ := hrel
    have HBE := Lib.hid hbe; clear hbe
    by_cases hlt : k < n
    · have hks : k < ss.length := by rw [← HN.out]; exact hlt
      obtain ⟨b, off, rfl, hbl, hreg⟩ := HR.out (by intro e; rw [e] at hks; simp at hks)
      obtain ⟨s, hs⟩ : ∃ s, s = ss[k] := ⟨_, rfl⟩
      have hat := (hreg k hks).below hB hbl
      rw [← hs] at hat
      obtain ⟨c0, c1, c2, c3, c4, c5⟩ := hat
      obtain ⟨sp, sd, st, sh⟩ := s
      dsimp only at c0 c1 c2 c3 c4 c5
      have HS := Lib.hid hs
      clear hreg hs
      have hki : (k : Int) < (n : Int) := by omega
      have hk0 : (0 : Int) ≤ (k : Int) := by omega
      have HF := Lib.hid (fun hq => all_false (q := rOver) hks hq)
      rw [← HS.out] at HF
      have HX := Lib.hid (fun (hq : rOver ⟨sp, sd, st, sh⟩ = true) (j : Nat) (h : j < ss.length) (hj : j < k + 1) => (show rOver ss[j] = true by
        rcases Nat.lt_or_eq_of_le (Nat.le_of_lt_succ hj) with h1 | h1
        · exact HBE.out j h h1
        · subst h1; rw [← HS.out]; exact hq))
      go_wp2_with fail
      all_goals first
        | (go_roundw <;> first | exact ⟨k + 1, by omega, by go_num, HX.out (by unfold rOver; (try simp only [beq_iff_eq, beq_eq_false_iff_ne, bne_iff_ne, bne_eq_false_iff_eq, ne_eq, Bool.not_eq_true', Bool.not_eq_false'] at *); first | (simp [*]; done) | (simp; omega)), below_then hB (by go_grown)⟩ | (simp [intOf]; omega))
        | (go_ret; exact ⟨ret_bool (by rw [HF.out (by unfold rOver; (try simp only [beq_iff_eq, beq_eq_false_iff_ne, bne_iff_ne, bne_eq_false_iff_eq, ne_eq, Bool.not_eq_true', Bool.not_eq_false'] at *); first | (simp [*]; done) | (simp; omega))]), below_then hB (by go_grown)⟩)
    · obtain rfl : k = n := by omega
      go_wp2_with fail
      go_ret
      exact ⟨ret_bool (by rw [all_true (fun j h => HBE.out j h (by rw [HN.out]; exact h))]), hB⟩
set_option maxRecDepth 100000 in
set_option maxHeartbeats 4000000 in
theorem runiform_of (v : Value) (ss : List MSeat) (w : World) (hr : RegRow w v ss) (hl : ss.length ≤ 1000) : Calls Tryd.prog 24 #[actV v] w (Makes (.bool (!(ss.any rOne) || !(ss.any rTwo))) w) := by
  obtain ⟨a, cap, rfl, hrow⟩ := hr
  have HR := Lib.hid hrow
  clear hrow
  obtain ⟨n, hn⟩ : ∃ n, n = ss.length := ⟨_, rfl⟩
  rw [← hn] at hl ⊢
  have HN := Lib.hid hn; clear hn
  dsimp only [actV] at *
  go_enter Tryd.func24, Tryd.ntmps24
  go_wp2_with fail
  go_loopw [3, 4, 11] (fun x y i wr => ∃ (k : Nat) (t u : Bool), k ≤ n ∧ i = .int .i64 (k : Nat) ∧ x = .bool t ∧ y = .bool u ∧ t = (ss.take k).any rOne ∧ u = (ss.take k).any rTwo ∧ Below w.heap.size w wr) (fun _ _ i _ => n - (intOf i).toNat)
  case atStart => exact ⟨0, false, false, by omega, by go_num, rfl, rfl, by simp, by simp, by go_grown⟩
  case round =>
    obtain ⟨k, t, u, hk, rfl, rfl, rfl, ht, hu, hB⟩ := hrel
    have HT := Lib.hid ht; have HU := Lib.hid hu; clear ht hu
    by_cases hlt : k < n
    · have hks : k < ss.length := by rw [← HN.out]; exact hlt
      obtain ⟨b, off, rfl, hbl, hreg⟩ := HR.out (by intro e; rw [e] at hks; simp at hks)
      obtain ⟨s, hs⟩ : ∃ s, s = ss[k] := ⟨_, rfl⟩
      have hat := (hreg k hks).below hB hbl
      rw [← hs] at hat
      obtain ⟨c0, c1, c2, c3, c4, c5⟩ := hat
      obtain ⟨sp, sd, st, sh⟩ := s
      dsimp only at c0 c1 c2 c3 c4 c5
      have HS := Lib.hid hs
      clear hreg hs
      have hki : (k : Int) < (n : Int) := by omega
      have hk0 : (0 : Int) ≤ (k : Int) := by omega
      have h1 := any_succ ss rOne k hks
      have h2 := any_succ ss rTwo k hks
      rw [← HS.out, ← HT.out] at h1
      rw [← HS.out, ← HU.out] at h2
      have H1 := Lib.hid h1; have H2 := Lib.hid h2
      clear h1 h2 HT HU HS
      go_wp2_with fail
      all_goals (go_roundw <;> first | exact ⟨k + 1, _, _, by omega, by go_num, rfl, rfl, by rw [H1.out]; unfold rOne; (try simp only [beq_iff_eq, beq_eq_false_iff_ne, bne_iff_ne, bne_eq_false_iff_eq, ne_eq, Bool.not_eq_true', Bool.not_eq_false'] at *); first | (simp [*]; done) | (rw [Bool.eq_iff_iff]; simp [*]; done) | (rw [Bool.eq_iff_iff]; simp [*]; omega), by rw [H2.out]; unfold rTwo; (try simp only [beq_iff_eq, beq_eq_false_iff_ne, bne_iff_ne, bne_eq_false_iff_eq, ne_eq, Bool.not_eq_true', Bool.not_eq_false'] at *); first | (simp [*]; done) | (rw [Bool.eq_iff_iff]; simp [*]; done) | (rw [Bool.eq_iff_iff]; simp [*]; omega), below_then hB (by go_grown)⟩ | (simp [intOf]; omega))
    · obtain rfl : k = n := by omega
      have e1 : t = ss.any rOne := by rw [HT.out, List.take_of_length_le (by rw [HN.out]; omega)]
      have e2 : u = ss.any rTwo := by rw [HU.out, List.take_of_length_le (by rw [HN.out]; omega)]
      have E1 := Lib.hid e1; have E2 := Lib.hid e2
      clear HT HU e1 e2
      cases t <;> go_wp2_with fail
      all_goals go_ret
      all_goals exact ⟨ret_bool (by rw [← E1.out, ← E2.out]; simp), hB⟩
end Go.Proofs.YtkidljiffeonjaaDoor
