/- Package verdict: every, Ready, Over, Uniform of an activity. -/
import Derived.Test.YtkidljiffeonjaaDoorRows
import Derived.WalkKit
import Derived.WalkSpells
import Derived.WalkLawsBesides
import Derived.BigQuiet
import Derived.Deep.QuietTactic
import Derived.StillTailTactics
import Derived.Handy
import Derived.Lib.Hide
import Derived.Test.YtkidljiffeonjaaDoorVerB
set_option linter.unusedSimpArgs false
set_option linter.unusedVariables false
namespace Go.Proofs.YtkidljiffeonjaaDoor
open Go.RowKit

set_option maxRecDepth 100000 in
theorem every_ready (v : Value) (ss : List MSeat) (w : World) (hr : RegRow w v ss) (hl : ss.length ≤ 1000) : Calls Tryd.prog 60 #[actV v, .func (.func 61) #[] #[]] w (Makes (.bool (ss.all qReady)) w) := by
  have hB : Below w.heap.size w ((w.alloc (.cells (actC v) 47)).alloc (.cells #[.func (.func 61) #[] #[]] 119)) := ((Below.refl _ _).alloc (Nat.le_refl _) _).alloc (by simp) _
  have HC := Lib.hid (contains_of (w.heap.size + 1) v ss (fun s => !(qReady s)) _ (hr.below hB) hl (fun W s hW => every1_ready _ s (qReady s) W ((Blk.fresh (w.alloc (.cells (actC v) 47)) #[.func (.func 61) #[] #[]] 119 _ (by simp)).below hW) (fun W2 => qReady_of s W2)))
  obtain ⟨a, cap, rfl, _⟩ := hr
  have hq : (!(ss.any fun s => !(qReady s))) = ss.all qReady := by rw [List.not_any_eq_all_not]; simp
  obtain ⟨t, ht⟩ : ∃ t, t = ss.any (fun s => !(qReady s)) := ⟨_, rfl⟩
  rw [← ht] at HC hq
  have HQ := Lib.hid hq
  clear hq ht hl
  dsimp only [actV, actC] at *
  go_enter Tryd.func60, Tryd.ntmps60
  go_wp2_with fail
  refine HC.out.mono ?_
  rintro e w1 ⟨rfl, hb1⟩
  cases t <;> go_wp2_with fail
  all_goals go_ret
  all_goals exact ⟨ret_bool (by rw [← HQ.out]; simp), below_then hB hb1⟩
set_option maxRecDepth 100000 in
theorem every_over (v : Value) (ss : List MSeat) (w : World) (hr : RegRow w v ss) (hl : ss.length ≤ 1000) : Calls Tryd.prog 60 #[actV v, .func (.func 62) #[] #[]] w (Makes (.bool (ss.all qOver)) w) := by
  have hB : Below w.heap.size w ((w.alloc (.cells (actC v) 47)).alloc (.cells #[.func (.func 62) #[] #[]] 119)) := ((Below.refl _ _).alloc (Nat.le_refl _) _).alloc (by simp) _
  have HC := Lib.hid (contains_of (w.heap.size + 1) v ss (fun s => !(qOver s)) _ (hr.below hB) hl (fun W s hW => every1_over _ s (qOver s) W ((Blk.fresh (w.alloc (.cells (actC v) 47)) #[.func (.func 62) #[] #[]] 119 _ (by simp)).below hW) (fun W2 => qOver_of s W2)))
  obtain ⟨a, cap, rfl, _⟩ := hr
  have hq : (!(ss.any fun s => !(qOver s))) = ss.all qOver := by rw [List.not_any_eq_all_not]; simp
  obtain ⟨t, ht⟩ : ∃ t, t = ss.any (fun s => !(qOver s)) := ⟨_, rfl⟩
  rw [← ht] at HC hq
  have HQ := Lib.hid hq
  clear hq ht hl
  dsimp only [actV, actC] at *
  go_enter Tryd.func60, Tryd.ntmps60
  go_wp2_with fail
  refine HC.out.mono ?_
  rintro e w1 ⟨rfl, hb1⟩
  cases t <;> go_wp2_with fail
  all_goals go_ret
  all_goals exact ⟨ret_bool (by rw [← HQ.out]; simp), below_then hB hb1⟩
set_option maxRecDepth 100000 in
theorem every_uni_closes (v : Value) (ss : List MSeat) (w : World) (Z : Nat) (hZ : Blk w Z #[.func (.func 65) #[] #[]]) (hr : RegRow w v ss) (hl : ss.length ≤ 1000) : Calls Tryd.prog 60 #[actV v, .func (.func 64) #[] #[.pointer (some ⟨Z, 0, none⟩)]] w (Makes (.bool (ss.all (fun s => !(qCloses s)))) w) := by
  have hB : Below w.heap.size w ((w.alloc (.cells (actC v) 47)).alloc (.cells #[.func (.func 64) #[] #[.pointer (some ⟨Z, 0, none⟩)]] 119)) := ((Below.refl _ _).alloc (Nat.le_refl _) _).alloc (by simp) _
  have HC := Lib.hid (contains_of (w.heap.size + 1) v ss (fun s => !((fun s => !(qCloses s)) s)) _ (hr.below hB) hl (fun W s hW => every1_uni _ s (!qCloses s) W Z ((Blk.fresh (w.alloc (.cells (actC v) 47)) #[.func (.func 64) #[] #[.pointer (some ⟨Z, 0, none⟩)]] 119 _ (by simp)).below hW) (fun W2 hW2 => uni11_closes Z s W2 ((hZ.below hB).below hW |>.below hW2))))
  obtain ⟨a, cap, rfl, _⟩ := hr
  have hq : (!(ss.any fun s => !((fun s => !(qCloses s)) s))) = ss.all (fun s => !(qCloses s)) := by rw [List.not_any_eq_all_not]; simp
  obtain ⟨t, ht⟩ : ∃ t, t = ss.any (fun s => !((fun s => !(qCloses s)) s)) := ⟨_, rfl⟩
  rw [← ht] at HC hq
  have HQ := Lib.hid hq
  clear hq ht hl
  dsimp only [actV, actC] at *
  go_enter Tryd.func60, Tryd.ntmps60
  go_wp2_with fail
  refine HC.out.mono ?_
  rintro e w1 ⟨rfl, hb1⟩
  cases t <;> go_wp2_with fail
  all_goals go_ret
  all_goals exact ⟨ret_bool (by rw [← HQ.out]; simp), below_then hB hb1⟩
set_option maxRecDepth 100000 in
theorem every_uni_undoes (v : Value) (ss : List MSeat) (w : World) (Z : Nat) (hZ : Blk w Z #[.func (.func 66) #[] #[]]) (hr : RegRow w v ss) (hl : ss.length ≤ 1000) : Calls Tryd.prog 60 #[actV v, .func (.func 64) #[] #[.pointer (some ⟨Z, 0, none⟩)]] w (Makes (.bool (ss.all (fun s => !(qUndoes s)))) w) := by
  have hB : Below w.heap.size w ((w.alloc (.cells (actC v) 47)).alloc (.cells #[.func (.func 64) #[] #[.pointer (some ⟨Z, 0, none⟩)]] 119)) := ((Below.refl _ _).alloc (Nat.le_refl _) _).alloc (by simp) _
  have HC := Lib.hid (contains_of (w.heap.size + 1) v ss (fun s => !((fun s => !(qUndoes s)) s)) _ (hr.below hB) hl (fun W s hW => every1_uni _ s (!qUndoes s) W Z ((Blk.fresh (w.alloc (.cells (actC v) 47)) #[.func (.func 64) #[] #[.pointer (some ⟨Z, 0, none⟩)]] 119 _ (by simp)).below hW) (fun W2 hW2 => uni11_undoes Z s W2 ((hZ.below hB).below hW |>.below hW2))))
  obtain ⟨a, cap, rfl, _⟩ := hr
  have hq : (!(ss.any fun s => !((fun s => !(qUndoes s)) s))) = ss.all (fun s => !(qUndoes s)) := by rw [List.not_any_eq_all_not]; simp
  obtain ⟨t, ht⟩ : ∃ t, t = ss.any (fun s => !((fun s => !(qUndoes s)) s)) := ⟨_, rfl⟩
  rw [← ht] at HC hq
  have HQ := Lib.hid hq
  clear hq ht hl
  dsimp only [actV, actC] at *
  go_enter Tryd.func60, Tryd.ntmps60
  go_wp2_with fail
  refine HC.out.mono ?_
  rintro e w1 ⟨rfl, hb1⟩
  cases t <;> go_wp2_with fail
  all_goals go_ret
  all_goals exact ⟨ret_bool (by rw [← HQ.out]; simp), below_then hB hb1⟩
set_option maxRecDepth 100000 in
theorem vready_of (v : Value) (ss : List MSeat) (w : World) (hr : RegRow w v ss) (hl : ss.length ≤ 1000) : Calls Tryd.prog 19 #[actV v] w (Makes (.bool (ss.all qReady)) w) := by
  have hB : Below w.heap.size w (w.alloc (.cells (actC v) 47)) := (Below.refl _ _).alloc (Nat.le_refl _) _
  have HC := Lib.hid (every_ready v ss _ (hr.below hB) hl)
  obtain ⟨a, cap, rfl, _⟩ := hr
  clear hl
  dsimp only [actV, actC] at *
  go_enter Tryd.func19, Tryd.ntmps19
  go_wp2_with fail
  refine HC.out.mono ?_
  rintro e w1 ⟨rfl, hb1⟩
  go_wp2_with fail
  go_ret
  exact ⟨rfl, below_then hB hb1⟩
set_option maxRecDepth 100000 in
theorem vover_of (v : Value) (ss : List MSeat) (w : World) (hr : RegRow w v ss) (hl : ss.length ≤ 1000) : Calls Tryd.prog 21 #[actV v] w (Makes (.bool (ss.all qOver)) w) := by
  have hB : Below w.heap.size w (w.alloc (.cells (actC v) 47)) := (Below.refl _ _).alloc (Nat.le_refl _) _
  have HC := Lib.hid (every_over v ss _ (hr.below hB) hl)
  obtain ⟨a, cap, rfl, _⟩ := hr
  clear hl
  dsimp only [actV, actC] at *
  go_enter Tryd.func21, Tryd.ntmps21
  go_wp2_with fail
  refine HC.out.mono ?_
  rintro e w1 ⟨rfl, hb1⟩
  go_wp2_with fail
  go_ret
  exact ⟨rfl, below_then hB hb1⟩
set_option maxRecDepth 100000 in
theorem uni1_closes (A : Nat) (v : Value) (ss : List MSeat) (w : World) (hr : RegRow w v ss) (hl : ss.length ≤ 1000) (hA : Blk w A (actC v)) : Calls Tryd.prog 63 #[.func (.func 65) #[] #[], .pointer (some ⟨A, 0, none⟩)] w (Makes (.bool (ss.all fun s => !(qCloses s))) w) := by
  have hmf : ∀ (fn : Fn) (first cap : Array Value) (w : World), (Instr.makeFunc fn first cap).run Tryd.prog w = .ok (.func fn first cap) w := fun _ _ _ _ => rfl
  have hB : Below w.heap.size w (w.alloc (.cells #[.func (.func 65) #[] #[]] 119)) := (Below.refl _ _).alloc (Nat.le_refl _) _
  have HC := Lib.hid (every_uni_closes v ss _ w.heap.size (Blk.fresh w _ _ _ rfl) (hr.below hB) hl)
  obtain ⟨a, cap, rfl, _⟩ := hr
  have q0 := fun o => (hA.alloc o).cell
  have hAl := hA.lt
  clear hl hA
  dsimp only [actV, actC] at *
  go_enter Tryd.func63, Tryd.ntmps63
  go_wp2_with fail
  refine HC.out.mono ?_
  rintro e w1 ⟨rfl, hb1⟩
  go_wp2_with fail
  go_ret
  exact ⟨rfl, below_then hB hb1⟩
set_option maxRecDepth 100000 in
theorem uni1_undoes (A : Nat) (v : Value) (ss : List MSeat) (w : World) (hr : RegRow w v ss) (hl : ss.length ≤ 1000) (hA : Blk w A (actC v)) : Calls Tryd.prog 63 #[.func (.func 66) #[] #[], .pointer (some ⟨A, 0, none⟩)] w (Makes (.bool (ss.all fun s => !(qUndoes s))) w) := by
  have hmf : ∀ (fn : Fn) (first cap : Array Value) (w : World), (Instr.makeFunc fn first cap).run Tryd.prog w = .ok (.func fn first cap) w := fun _ _ _ _ => rfl
  have hB : Below w.heap.size w (w.alloc (.cells #[.func (.func 66) #[] #[]] 119)) := (Below.refl _ _).alloc (Nat.le_refl _) _
  have HC := Lib.hid (every_uni_undoes v ss _ w.heap.size (Blk.fresh w _ _ _ rfl) (hr.below hB) hl)
  obtain ⟨a, cap, rfl, _⟩ := hr
  have q0 := fun o => (hA.alloc o).cell
  have hAl := hA.lt
  clear hl hA
  dsimp only [actV, actC] at *
  go_enter Tryd.func63, Tryd.ntmps63
  go_wp2_with fail
  refine HC.out.mono ?_
  rintro e w1 ⟨rfl, hb1⟩
  go_wp2_with fail
  go_ret
  exact ⟨rfl, below_then hB hb1⟩
set_option maxRecDepth 100000 in
theorem vuniform_of (v : Value) (ss : List MSeat) (w : World) (hr : RegRow w v ss) (hl : ss.length ≤ 1000) : Calls Tryd.prog 23 #[actV v] w (Makes (.bool ((ss.all fun s => !(qCloses s)) || (ss.all fun s => !(qUndoes s)))) w) := by
  have hmf : ∀ (fn : Fn) (first cap : Array Value) (w : World), (Instr.makeFunc fn first cap).run Tryd.prog w = .ok (.func fn first cap) w := fun _ _ _ _ => rfl
  have hB : Below w.heap.size w (w.alloc (.cells (actC v) 47)) := (Below.refl _ _).alloc (Nat.le_refl _) _
  have H1 := Lib.hid (uni1_closes w.heap.size v ss _ (hr.below hB) hl (Blk.fresh w _ _ _ rfl))
  have H2 := Lib.hid (fun W hW => uni1_undoes w.heap.size v ss W ((hr.below hB).below hW) hl ((Blk.fresh w (actC v) 47 _ rfl).below hW))
  obtain ⟨a, cap, rfl, _⟩ := hr
  obtain ⟨t, ht⟩ : ∃ t, t = ss.all (fun s => !(qCloses s)) := ⟨_, rfl⟩
  obtain ⟨u, hu⟩ : ∃ u, u = ss.all (fun s => !(qUndoes s)) := ⟨_, rfl⟩
  rw [← ht] at H1 ⊢
  rw [← hu] at H2 ⊢
  clear hl ht hu
  dsimp only [actV, actC] at *
  go_enter Tryd.func23, Tryd.ntmps23
  go_wp2_with fail
  refine H1.out.mono ?_
  rintro e w1 ⟨rfl, hb1⟩
  cases t with
  | true =>
    go_wp2_with fail
    go_ret
    exact ⟨ret_bool (by simp), below_then hB hb1⟩
  | false =>
    go_wp2_with fail
    refine (H2.out _ hb1).mono ?_
    rintro e w2 ⟨rfl, hb2⟩
    go_wp2_with fail
    go_ret
    exact ⟨ret_bool (by simp), below_then (below_then hB hb1) hb2⟩
end Go.Proofs.YtkidljiffeonjaaDoor
