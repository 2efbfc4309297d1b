/- ClerkPlans: what a handler is asked, the chapter's example, the law. -/
import Derived.Test.YtkidljiffeonjaaDoorRows
import Derived.WalkKit
import Derived.WalkSpells
import Derived.WalkLawsBesides
import Derived.BigQuiet
import Derived.Deep.QuietTactic
import Derived.StillTailTactics
import Derived.Handy
import Derived.Lib.Hide
import Derived.Test.YtkidljiffeonjaaDoorClerkC
import Derived.Deep.RegionHeld3
import Derived.Test.YtkidljiffeonjaaDoorErrs
set_option linter.unusedSimpArgs false
set_option linter.unusedVariables false
namespace Go.Proofs.YtkidljiffeonjaaDoor
open Go.RowKit

abbrev hanV (p : MPlan) : Value := .func (.func 49) #[planV p] #[]
theorem asks1_of (P Q : Nat) (p : MPlan) (a pr : Int) (s : Nat) (hs : F64 s) (hx : F64 p.after) (w : World) (hP : Blk w P #[hanV p]) (hQ : Blk w Q #[.int .i64 a, .int .i64 pr, flV s]) :
    Calls Tryd.prog 53 #[.pointer (some ⟨P, 0, none⟩), .pointer (some ⟨Q, 0, none⟩)] w (Ans (aAnswer p a pr s) w) := by
  have HA := fun W => answer_of p a pr s hs hx W
  obtain ⟨r, hr⟩ : ∃ r, r = aAnswer p a pr s := ⟨_, rfl⟩
  rw [← hr] at HA ⊢
  have h1 : w.cell? ⟨P, 0, none⟩ = some (hanV p) := hP.cell 0
  have h2 : w.cell? ⟨Q, 0, none⟩ = some (.int .i64 a) := hQ.cell 0
  have h3 : w.cell? ⟨Q, 1, none⟩ = some (.int .i64 pr) := hQ.cell 1
  have h4 : w.cell? ⟨Q, 2, none⟩ = some (flV s) := hQ.cell 2
  clear hP hQ hr hs hx
  obtain ⟨d, x, u⟩ := p
  dsimp only [hanV, planV, caseV] at *
  by_cases hr : r = -1
  · subst hr
    refine ans_dies ?_
    have H := Lib.hid (fun W => ans_dies' (HA W))
    clear HA
    go_enter Tryd.func53, Tryd.ntmps53
    go_wp2_with fail
    refine (H.out _).mono ?_
    rintro e w1 ⟨⟨t, rfl⟩, hb1⟩
    go_wp2_with fail
    exact ⟨rfl, ⟨_, rfl⟩, below_then (by go_grown) hb1⟩
  · refine ans_makes hr ?_
    have H := Lib.hid (fun W => ans_makes' hr (HA W))
    clear HA
    go_enter Tryd.func53, Tryd.ntmps53
    go_wp2_with fail
    refine (H.out _).mono ?_
    rintro e w1 ⟨rfl, hb1⟩
    go_wp2_with fail
    go_ret
    exact ⟨rfl, below_then (by go_grown) hb1⟩
theorem asks_of (p : MPlan) (a pr : Int) (s : Nat) (hs : F64 s) (hx : F64 p.after) (b : Addr) (w : World) (he : ErrIs w 12 b) :
    Calls Tryd.prog 14 #[hanV p, caseV a pr s] w (Makes (.int .i64 (aAnswer p a pr s)) w) := by
  have hmf : ∀ (fn : Fn) (first cap : Array Value) (w : World), (Instr.makeFunc fn first cap).run Tryd.prog w = .ok (.func fn first cap) w := fun _ _ _ _ => rfl
  have hB : Below w.heap.size w ((w.alloc (.cells #[hanV p] 29)).alloc (.cells #[.int .i64 a, .int .i64 pr, flV s] 26)) := ((Below.refl _ _).alloc (Nat.le_refl _) _).alloc (by simp) _
  have hA : ∀ W, Below (((w.alloc (.cells #[hanV p] 29)).alloc (.cells #[.int .i64 a, .int .i64 pr, flV s] 26))).heap.size ((w.alloc (.cells #[hanV p] 29)).alloc (.cells #[.int .i64 a, .int .i64 pr, flV s] 26)) W → Calls Tryd.prog 53 #[.pointer (some ⟨w.heap.size, 0, none⟩), .pointer (some ⟨w.heap.size + 1, 0, none⟩)] W (Ans (aAnswer p a pr s) W) := fun W hW =>
    asks1_of _ _ p a pr s hs hx W (((Blk.fresh w #[hanV p] 29 _ rfl).alloc _).below hW) ((Blk.fresh _ _ _ _ (by simp)).below hW)
  have he2 := he.below hB
  obtain ⟨r, hr⟩ : ∃ r, r = aAnswer p a pr s := ⟨_, rfl⟩
  rw [← hr] at hA ⊢
  clear hr he
  dsimp only [hanV, planV, caseV] at *
  by_cases hr : r = -1
  · subst hr
    have H := Lib.hid (try_dies ⟨w.heap.size, 0, none⟩ ⟨w.heap.size + 1, 0, none⟩ b _ he2 (fun W hW => ans_dies' (hA W hW)))
    clear hA he2
    go_enter Tryd.func14, Tryd.ntmps14
    go_wp2_with fail
    refine H.out.mono ?_
    rintro e w1 ⟨rfl, hb1⟩
    go_wp2_with fail
    go_ret
    exact ⟨rfl, below_then hB hb1⟩
  · have H := Lib.hid (try_gives ⟨w.heap.size, 0, none⟩ ⟨w.heap.size + 1, 0, none⟩ r _ (fun W hW => ans_makes' hr (hA W hW)))
    clear hA he2
    go_enter Tryd.func14, Tryd.ntmps14
    go_wp2_with fail
    refine H.out.mono ?_
    rintro e w1 ⟨rfl, hb1⟩
    go_wp2_with fail
    go_ret
    exact ⟨rfl, below_then hB hb1⟩
set_option maxHeartbeats 1000000 in
theorem handler_no (p : MPlan) (hp : F64 p.after) (hr : prB p = false) (b : Addr) (w : World) (he : ErrIs w 0 b) : Calls Tryd.prog 11 #[planV p] w (Makes (.tuple #[.nilFunc, errV b]) w) := by
  obtain ⟨d, x, u⟩ := p
  unfold prB at hr
  dsimp only at hr hp
  have h1 : ∀ o, (w.alloc o).cell? ⟨0, 0, none⟩ = some (errV b) := fun o => he.below ((Below.refl _ _).alloc (Nat.le_refl _) o)
  dsimp only [planV]
  cases hd : fdelay x with
  | false =>
    have HD := Lib.hid (fun W (hW : ErrIs W 0 b) => delay_no x hp hd b W hW)
    have HE := Lib.hid he
    clear hr hp hd he
    go_enter Tryd.func11, Tryd.ntmps11
    go_wp2_with fail
    refine (HD.out _ (HE.out.below (by go_grown))).mono ?_
    rintro e w1 ⟨rfl, hb1⟩
    have h2 : w1.cell? ⟨0, 0, none⟩ = some (errV b) := HE.out.below (below_then (by go_grown) hb1)
    clear h1
    go_wp2_with fail
    go_region
    all_goals go_wp2_with fail
    all_goals go_ret2
    all_goals exact ⟨rfl, below_then (by go_grown) (hb1.drew)⟩
  | true =>
    have HD := Lib.hid (fun W => delay_yes x hp hd W)
    rw [hd] at hr
    simp only [Bool.and_true] at hr
    generalize fplain x = x2 at *
    have hc : d < 1 ∨ 6 < d ∨ u < 0 ∨ 2 < u := by
      simp only [Bool.and_eq_false_iff, decide_eq_false_iff_not] at hr
      omega
    clear hr hp hd he
    by_cases c1 : d < 1
    · clear hc
      go_enter Tryd.func11, Tryd.ntmps11
      go_wp2_with (first | (go_at_call 48; refine (HD.out _).mono ?_; rintro e w1 ⟨rfl, rfl⟩))
      go_region
      all_goals go_wp2_with fail
      all_goals go_ret2
      all_goals exact ⟨rfl, by go_grown⟩
    by_cases c2 : 6 < d
    · clear hc
      go_enter Tryd.func11, Tryd.ntmps11
      go_wp2_with (first | (go_at_call 48; refine (HD.out _).mono ?_; rintro e w1 ⟨rfl, rfl⟩))
      go_region
      all_goals go_wp2_with fail
      all_goals go_ret2
      all_goals exact ⟨rfl, by go_grown⟩
    by_cases c3 : u < 0
    · clear hc
      go_enter Tryd.func11, Tryd.ntmps11
      go_wp2_with (first | (go_at_call 48; refine (HD.out _).mono ?_; rintro e w1 ⟨rfl, rfl⟩))
      go_region
      all_goals go_wp2_with fail
      all_goals go_ret2
      all_goals exact ⟨rfl, by go_grown⟩
    have c4 : 2 < u := by omega
    clear hc
    go_enter Tryd.func11, Tryd.ntmps11
    go_wp2_with (first | (go_at_call 48; refine (HD.out _).mono ?_; rintro e w1 ⟨rfl, rfl⟩))
    go_region
    all_goals go_wp2_with fail
    all_goals go_ret2
    all_goals exact ⟨rfl, by go_grown⟩
theorem funcNe (f : Fn) (x y : Array Value) (w : World) : (binOp .neq 29 (.func f x y) .nilFunc).run Tryd.prog w = .ok (.bool true) w := by kernel_rfl
theorem nilEq (w : World) : (binOp .eql 29 .nilFunc .nilFunc).run Tryd.prog w = .ok (.bool true) w := by kernel_rfl
theorem f64_lit : F64 4611686018427387904 ∧ F64 4607182418800017408 := by unfold F64; omega
set_option maxRecDepth 100000 in
set_option maxHeartbeats 1000000 in
theorem alive28 (b : Addr) (w : World) (he : ErrIs w 12 b) : Calls Tryd.prog 10 #[] w (Makes (.bool true) w) := by
  have hR : pRight ⟨1, 4611686018427387904, 0⟩ := ⟨by decide, by decide, by decide, by decide, by decide⟩
  have HH := Lib.hid (fun W => handler_yes ⟨1, 4611686018427387904, 0⟩ f64_lit.1 hR W)
  have hA1 := fun W hW => asks_of ⟨1, 4611686018427387904, 0⟩ 0 1 4607182418800017408 f64_lit.2 f64_lit.1 b W hW
  rw [show aAnswer ⟨1, 4611686018427387904, 0⟩ 0 1 4607182418800017408 = 0 by decide] at hA1
  have hA2 := fun W hW => asks_of ⟨1, 4611686018427387904, 0⟩ 0 1 4611686018427387904 f64_lit.1 f64_lit.1 b W hW
  rw [show aAnswer ⟨1, 4611686018427387904, 0⟩ 0 1 4611686018427387904 = 3 by decide] at hA2
  have HE := Lib.hid he
  clear he
  dsimp only [hanV, planV, caseV] at *
  have HA1 := Lib.hid hA1; have HA2 := Lib.hid hA2
  clear hA1 hA2
  have hnf := funcNe
  go_enter Tryd.func10, Tryd.ntmps10
  go_wp2_with fail
  refine (HH.out _).mono ?_
  rintro e w1 ⟨rfl, hb1⟩
  go_wp2_with fail
  refine (HA1.out _ (HE.out.below hb1)).mono ?_
  rintro e w2 ⟨rfl, hb2⟩
  have hB2 := below_then hb1 hb2
  go_wp2_with fail
  refine (HA2.out _ (HE.out.below hB2)).mono ?_
  rintro e w3 ⟨rfl, hb3⟩
  go_wp2_with fail
  go_ret
  exact ⟨ret_bool (by simp), below_then hB2 hb3⟩
end Go.Proofs.YtkidljiffeonjaaDoor
