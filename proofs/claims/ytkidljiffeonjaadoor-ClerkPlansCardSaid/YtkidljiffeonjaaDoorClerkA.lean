/- A plan of package clerk: what it works, undoes, answers; the reference's answer. -/
import Derived.Test.YtkidljiffeonjaaDoorRows
import Derived.WalkKit
import Derived.WalkSpells
import Derived.WalkLawsBesides
import Derived.BigQuiet
import Derived.Deep.QuietTactic
import Derived.StillTailTactics
import Derived.Handy
import Derived.Lib.Hide
import Derived.Test.YtkidljiffeonjaaDoorFlB
import Derived.Test.YtkidljiffeonjaaDoorBlk
import Derived.Defers
set_option linter.unusedSimpArgs false
set_option linter.unusedVariables false
namespace Go.Proofs.YtkidljiffeonjaaDoor
open Go.RowKit

structure MPlan where
  does : Int
  after : Nat
  undone : Int
abbrev planV (p : MPlan) : Value := .agg #[.int .i64 p.does, flV p.after, .int .i64 p.undone]
abbrev caseV (a pr : Int) (s : Nat) : Value := .agg #[.int .i64 a, .int .i64 pr, flV s]
def pRight (p : MPlan) : Prop := 1 ≤ p.does ∧ p.does ≤ 6 ∧ fdelay p.after = true ∧ 0 ≤ p.undone ∧ p.undone ≤ 2
def aWorks (d a pr : Int) : Int := if d = 1 then (if a = 0 ∧ pr = 2 then 0 else 3) else if d = 2 then 1 else if d = 3 then 5 else if d = 4 then 4 else if d = 5 then -1 else 0
def aUndoes (u : Int) : Int := if u = 0 then 8 else if u = 2 then -1 else 4
/-- it panics with a text -/
def Dies (w : World) (e : Ending) (w' : World) : Prop := (∃ s, e = .panicked [{ v := .iface 9 (.string s), recovered := false }]) ∧ Below w.heap.size w w'

set_option maxHeartbeats 1000000 in
theorem works_gives (d : Int) (x : Nat) (u a pr : Int) (s : Nat) (h5 : ¬ d = 5) (w : World) : Calls Tryd.prog 87 #[planV ⟨d, x, u⟩, caseV a pr s] w (Makes (.int .i64 (aWorks d a pr)) w) := by
  unfold aWorks
  dsimp only [planV, caseV]
  by_cases h1 : d = 1
  · subst h1
    rw [if_pos rfl]
    by_cases ha : a = 0
    · subst ha
      by_cases hp : pr = 2
      · subst hp
        go_enter Tryd.func87, Tryd.ntmps87
        go_wp2
        go_ret
        exact ⟨rfl, by go_grown⟩
      · rw [if_neg (fun e => hp e.2)]
        go_enter Tryd.func87, Tryd.ntmps87
        go_wp2
        go_ret
        exact ⟨rfl, by go_grown⟩
    · rw [if_neg (fun e => ha e.1)]
      go_enter Tryd.func87, Tryd.ntmps87
      go_wp2
      go_ret
      exact ⟨rfl, by go_grown⟩
  rw [if_neg h1]
  by_cases h2 : d = 2
  · subst h2
    rw [if_pos rfl]
    go_enter Tryd.func87, Tryd.ntmps87
    go_wp2
    go_ret
    exact ⟨rfl, by go_grown⟩
  rw [if_neg h2]
  by_cases h3 : d = 3
  · subst h3
    rw [if_pos rfl]
    go_enter Tryd.func87, Tryd.ntmps87
    go_wp2
    go_ret
    exact ⟨rfl, by go_grown⟩
  rw [if_neg h3]
  by_cases h4 : d = 4
  · subst h4
    rw [if_pos rfl]
    go_enter Tryd.func87, Tryd.ntmps87
    go_wp2
    go_ret
    exact ⟨rfl, by go_grown⟩
  rw [if_neg h4, if_neg h5]
  go_enter Tryd.func87, Tryd.ntmps87
  go_wp2
  go_ret
  exact ⟨rfl, by go_grown⟩
theorem works_dies (x : Nat) (u a pr : Int) (s : Nat) (w : World) : Calls Tryd.prog 87 #[planV ⟨5, x, u⟩, caseV a pr s] w (Dies w) := by
  dsimp only [planV, caseV]
  go_enter Tryd.func87, Tryd.ntmps87
  go_wp2
  exact ⟨rfl, ⟨_, rfl⟩, by go_grown⟩
/-- what it answers; -1: it panics -/
def Ans (r : Int) (w : World) (e : Ending) (w' : World) : Prop := if r = -1 then Dies w e w' else Makes (.int .i64 r) w e w'
theorem ans_makes {f : Nat} {args : Array Value} {r : Int} {w : World} (h : ¬ r = -1) (hc : Calls Tryd.prog f args w (Makes (.int .i64 r) w)) : Calls Tryd.prog f args w (Ans r w) := hc.mono (fun e w' h' => by rw [Ans, if_neg h]; exact h')
theorem ans_dies {f : Nat} {args : Array Value} {w : World} (hc : Calls Tryd.prog f args w (Dies w)) : Calls Tryd.prog f args w (Ans (-1) w) := hc.mono (fun e w' h' => by rw [Ans, if_pos rfl]; exact h')
theorem ans_makes' {f : Nat} {args : Array Value} {r : Int} {w : World} (h : ¬ r = -1) (hc : Calls Tryd.prog f args w (Ans r w)) : Calls Tryd.prog f args w (Makes (.int .i64 r) w) := hc.mono (fun e w' h' => by rw [Ans, if_neg h] at h'; exact h')
theorem ans_dies' {f : Nat} {args : Array Value} {w : World} (hc : Calls Tryd.prog f args w (Ans (-1) w)) : Calls Tryd.prog f args w (Dies w) := hc.mono (fun e w' h' => by rw [Ans, if_pos rfl] at h'; exact h')
theorem works_of (d : Int) (x : Nat) (u a pr : Int) (s : Nat) (w : World) : Calls Tryd.prog 87 #[planV ⟨d, x, u⟩, caseV a pr s] w (Ans (aWorks d a pr) w) := by
  by_cases h5 : d = 5
  · subst h5
    exact (works_dies x u a pr s w).mono (fun e w' h => by rw [Ans, if_pos (by simp [aWorks])]; exact h)
  · have : ¬ aWorks d a pr = -1 := by
      unfold aWorks
      rw [if_neg h5]
      split
      · split <;> decide
      split
      · decide
      split
      · decide
      split <;> decide
    exact (works_gives d x u a pr s h5 w).mono (fun e w' h => by rw [Ans, if_neg this]; exact h)
theorem undoes_of (d : Int) (x : Nat) (u : Int) (w : World) : Calls Tryd.prog 88 #[planV ⟨d, x, u⟩] w (Ans (aUndoes u) w) := by
  dsimp only [planV]
  unfold aUndoes
  by_cases h0 : u = 0
  · subst h0
    rw [if_pos rfl]
    refine ans_makes (by decide) ?_
    go_enter Tryd.func88, Tryd.ntmps88
    go_wp2
    go_ret
    exact ⟨rfl, by go_grown⟩
  rw [if_neg h0]
  by_cases h2 : u = 2
  · subst h2
    rw [if_pos rfl]
    refine ans_dies ?_
    go_enter Tryd.func88, Tryd.ntmps88
    go_wp2
    exact ⟨rfl, ⟨_, rfl⟩, by go_grown⟩
  rw [if_neg h2]
  refine ans_makes (by decide) ?_
  go_enter Tryd.func88, Tryd.ntmps88
  go_wp2
  go_ret
  exact ⟨rfl, by go_grown⟩
def aAnswer (p : MPlan) (a pr : Int) (s : Nat) : Int :=
  if a = 0 ∨ a = 2 then (if (fdelay s && fdelay p.after && fle p.after s) = true then aWorks p.does a pr else 0)
  else if a = 9 then 7 else if a = 10 then 6 else if a = 11 then aUndoes p.undone else 0

set_option maxHeartbeats 2000000 in
theorem answer_of (p : MPlan) (a pr : Int) (s : Nat) (hs : F64 s) (hp : F64 p.after) (w : World) : Calls Tryd.prog 49 #[planV p, caseV a pr s] w (Ans (aAnswer p a pr s) w) := by
  obtain ⟨d, x, u⟩ := p
  have HD := Lib.hid (fun W => due_of s x hs hp W)
  obtain ⟨b, hb⟩ : ∃ b, b = (fdelay s && fdelay x && fle x s) := ⟨_, rfl⟩
  rw [← hb] at HD
  unfold aAnswer
  dsimp only
  rw [← hb]
  have HW := fun W => works_of d x u a pr s W
  have HU := fun W => undoes_of d x u W
  obtain ⟨r, hr⟩ : ∃ r, r = aWorks d a pr := ⟨_, rfl⟩
  obtain ⟨q, hq⟩ : ∃ q, q = aUndoes u := ⟨_, rfl⟩
  rw [← hr] at HW ⊢
  rw [← hq] at HU ⊢
  clear hr hq hb hs hp
  dsimp only [planV, caseV] at *
  by_cases h0 : a = 0 ∨ a = 2
  · rw [if_pos h0]
    clear HU
    cases b with
    | false =>
      rw [if_neg (by decide)]
      clear HW
      refine ans_makes (by decide) ?_
      rcases h0 with rfl | rfl
      · go_enter Tryd.func49, Tryd.ntmps49
        go_wp2_with (go_at_call 74; refine (HD.out _).mono ?_; rintro e w1 ⟨rfl, rfl⟩)
        go_ret
        exact ⟨rfl, by go_grown⟩
      · go_enter Tryd.func49, Tryd.ntmps49
        go_wp2_with (go_at_call 74; refine (HD.out _).mono ?_; rintro e w1 ⟨rfl, rfl⟩)
        go_ret
        exact ⟨rfl, by go_grown⟩
    | true =>
      rw [if_pos rfl]
      by_cases hr : r = -1
      · subst hr
        refine ans_dies ?_
        have HW := Lib.hid (fun W => ans_dies' (HW W))
        rcases h0 with rfl | rfl
        · go_enter Tryd.func49, Tryd.ntmps49
          go_wp2_with fail
          refine (HD.out _).mono ?_
          rintro e w1 ⟨rfl, rfl⟩
          go_wp2_with fail
          refine (HW.out _).mono ?_
          rintro e w1 ⟨⟨t, rfl⟩, hb1⟩
          go_wp2_with fail
          exact ⟨rfl, ⟨_, rfl⟩, below_then (by go_grown) hb1⟩
        · go_enter Tryd.func49, Tryd.ntmps49
          go_wp2_with fail
          refine (HD.out _).mono ?_
          rintro e w1 ⟨rfl, rfl⟩
          go_wp2_with fail
          refine (HW.out _).mono ?_
          rintro e w1 ⟨⟨t, rfl⟩, hb1⟩
          go_wp2_with fail
          exact ⟨rfl, ⟨_, rfl⟩, below_then (by go_grown) hb1⟩
      · refine ans_makes hr ?_
        have HW := Lib.hid (fun W => ans_makes' hr (HW W))
        rcases h0 with rfl | rfl
        · go_enter Tryd.func49, Tryd.ntmps49
          go_wp2_with fail
          refine (HD.out _).mono ?_
          rintro e w1 ⟨rfl, rfl⟩
          go_wp2_with fail
          refine (HW.out _).mono ?_
          rintro e w1 ⟨rfl, hb1⟩
          go_wp2_with fail
          go_ret
          exact ⟨rfl, below_then (by go_grown) hb1⟩
        · go_enter Tryd.func49, Tryd.ntmps49
          go_wp2_with fail
          refine (HD.out _).mono ?_
          rintro e w1 ⟨rfl, rfl⟩
          go_wp2_with fail
          refine (HW.out _).mono ?_
          rintro e w1 ⟨rfl, hb1⟩
          go_wp2_with fail
          go_ret
          exact ⟨rfl, below_then (by go_grown) hb1⟩
  rw [if_neg h0]
  clear HW HD
  have a0 : ¬ a = 0 := fun e => h0 (.inl e)
  have a2 : ¬ a = 2 := fun e => h0 (.inr e)
  clear h0
  by_cases h9 : a = 9
  · subst h9
    rw [if_pos rfl]
    refine ans_makes (by decide) ?_
    clear HU
    go_enter Tryd.func49, Tryd.ntmps49
    go_wp2
    go_ret
    exact ⟨rfl, by go_grown⟩
  rw [if_neg h9]
  by_cases h10 : a = 10
  · subst h10
    rw [if_pos rfl]
    refine ans_makes (by decide) ?_
    clear HU
    go_enter Tryd.func49, Tryd.ntmps49
    go_wp2
    go_ret
    exact ⟨rfl, by go_grown⟩
  rw [if_neg h10]
  by_cases h11 : a = 11
  · subst h11
    rw [if_pos rfl]
    by_cases hr : q = -1
    · subst hr
      refine ans_dies ?_
      have HU := Lib.hid (fun W => ans_dies' (HU W))
      go_enter Tryd.func49, Tryd.ntmps49
      go_wp2_with fail
      refine (HU.out _).mono ?_
      rintro e w1 ⟨⟨t, rfl⟩, hb1⟩
      go_wp2_with fail
      exact ⟨rfl, ⟨_, rfl⟩, below_then (by go_grown) hb1⟩
    · refine ans_makes hr ?_
      have HU := Lib.hid (fun W => ans_makes' hr (HU W))
      go_enter Tryd.func49, Tryd.ntmps49
      go_wp2_with fail
      refine (HU.out _).mono ?_
      rintro e w1 ⟨rfl, hb1⟩
      go_wp2_with fail
      go_ret
      exact ⟨rfl, below_then (by go_grown) hb1⟩
  rw [if_neg h11]
  refine ans_makes (by decide) ?_
  clear HU
  go_enter Tryd.func49, Tryd.ntmps49
  go_wp2
  go_ret
  exact ⟨rfl, by go_grown⟩
end Go.Proofs.YtkidljiffeonjaaDoor
