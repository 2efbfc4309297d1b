/- ClerkPlans, walked. -/
import Derived.Test.YtkidljiffeonjaaDoorRows
import Derived.WalkKit
import Derived.WalkSpells
import Derived.WalkLawsBesides
import Derived.BigQuiet
import Derived.Deep.QuietTactic
import Derived.StillTailTactics
import Derived.Handy
import Derived.Lib.Hide
import Derived.Test.YtkidljiffeonjaaDoorClerkD
set_option linter.unusedSimpArgs false
set_option linter.unusedVariables false
namespace Go.Proofs.YtkidljiffeonjaaDoor
open Go.RowKit

theorem store_float {P : Program} {w : World} {a : Addr} {m : Mode} (k : FloatKind) (x : Nat) : (store a (.float k x) m).run P w = stored P w a (.float k x) m := run_store P w a _ m rfl
attribute [local go_sem] store_float

set_option maxRecDepth 100000 in
set_option maxHeartbeats 4000000 in
theorem law_clerk (p : MPlan) (a pr : Int) (s : Nat) (hx : F64 p.after) (hs : F64 s) (ea : Int → Addr) (w : World) (hE : Errs ea w) : Calls Tryd.prog 3 #[planV p, caseV a pr s] w (Makes (.bool true) w) := by
  have hB : Below w.heap.size w ((w.alloc (.cells #[.int .i64 p.does, flV p.after, .int .i64 p.undone] 24)).alloc (.cells #[.int .i64 a, .int .i64 pr, flV s] 26)) := ((Below.refl _ _).alloc (Nat.le_refl _) _).alloc (by simp) _
  have HP0 := Lib.hid ((Blk.fresh w #[.int .i64 p.does, flV p.after, .int .i64 p.undone] 24 _ rfl).alloc (.cells #[.int .i64 a, .int .i64 pr, flV s] 26))
  have HC0 := Lib.hid (Blk.fresh (w.alloc (.cells #[.int .i64 p.does, flV p.after, .int .i64 p.undone] 24)) #[.int .i64 a, .int .i64 pr, flV s] 26 (w.heap.size + 1) (by simp))
  have HE := Lib.hid hE
  have HAl := Lib.hid (fun W (hW : Errs ea W) => alive28 (ea 13) W hW.e13)
  have HR := Lib.hid (fun W => rright_of p hx W)
  clear hE
  cases hr : prB p with
  | false =>
    have HH := Lib.hid (fun W (hW : Errs ea W) => handler_no p hx hr (ea 4) W hW.e4)
    have HN := Lib.hid (fun W (hW : Errs ea W) => num_some 4 (by decide) ea W hW)
    rw [hr] at HR
    have hnl := nilEq
    obtain ⟨d, x, u⟩ := p
    clear hr hx hs
    dsimp only [planV, caseV, flV] at *
    go_enter Tryd.func3, Tryd.ntmps3
    go_wp2_with fail
    refine (HAl.out _ (HE.out.below hB)).mono ?_
    rintro e w1 ⟨rfl, hb1⟩
    have hB1 := below_then hB hb1
    have q := (HP0.out.below hb1).cell
    go_wp2_with fail
    refine (HH.out _ (HE.out.below hB1)).mono ?_
    rintro e w2 ⟨rfl, hb2⟩
    have hB2 := below_then hB1 hb2
    have hz2 := hB2.size
    clear q
    have q := ((HP0.out.below hb1).below hb2).cell
    go_wp2_with fail
    refine (HR.out _).mono ?_
    rintro e w3 ⟨rfl, hb3⟩
    have hB3 : Below w.heap.size w w3 := below_then (by go_grown) hb3
    go_wp2_with fail
    refine (HN.out _ (HE.out.below hB3)).mono ?_
    rintro e w4 ⟨rfl, hb4⟩
    go_wp2_with fail
    go_ret
    exact ⟨ret_bool (by simp), below_then hB3 hb4⟩
  | true =>
    have hpr := (prB_iff p).1 hr
    have HH := Lib.hid (fun W => handler_yes p hx hpr W)
    have hA := fun W (hW : Errs ea W) => asks_of p a pr s hs hx (ea 13) W hW.e13
    have hW := fun W => ranswer_of p hpr a pr s hs hx W
    obtain ⟨n, hn⟩ : ∃ n, n = aAnswer p a pr s := ⟨_, rfl⟩
    rw [← hn] at hA hW
    rw [hr] at HR
    have hnf := funcNe
    clear hr hpr hn hx hs
    obtain ⟨d, x, u⟩ := p
    dsimp only [hanV, planV, caseV, flV] at *
    have HA := Lib.hid hA; have HW := Lib.hid hW
    clear hA hW
    go_enter Tryd.func3, Tryd.ntmps3
    go_wp2_with fail
    refine (HAl.out _ (HE.out.below hB)).mono ?_
    rintro e w1 ⟨rfl, hb1⟩
    have hB1 := below_then hB hb1
    have q := (HP0.out.below hb1).cell
    go_wp2_with fail
    refine (HH.out _).mono ?_
    rintro e w2 ⟨rfl, hb2⟩
    have hB2 := below_then hB1 hb2
    have hz2 := hB2.size
    clear q
    have q := ((HP0.out.below hb1).below hb2).cell
    have HM := Lib.hid (Blk.fresh w2 #[.int .i64 d, .float .f64 x, .int .i64 u] 34 _ rfl)
    have HC := Lib.hid (((HC0.out.below hb1).below hb2).alloc (.cells #[.int .i64 d, .float .f64 x, .int .i64 u] 34))
    go_wp2_with fail
    refine (HR.out _).mono ?_
    rintro e w3 ⟨rfl, hb3⟩
    have hB3 : Below w.heap.size w w3 := below_then (by go_grown) hb3
    clear q
    have HM := Lib.hid (HM.out.below hb3)
    have HC := Lib.hid (HC.out.below hb3)
    have q := HM.out.cell
    have r := HC.out.cell
    go_wp2_with fail
    go_region_held3 (fun w' => w'.cell? ⟨w2.heap.size, 0, none⟩ = some (.int .i64 d) ∧ w'.cell? ⟨w2.heap.size, 1, none⟩ = some (.float .f64 x) ∧ w'.cell? ⟨w2.heap.size, 2, none⟩ = some (.int .i64 u) ∧ w'.cell? ⟨w.heap.size + 1, 0, none⟩ = some (.int .i64 a) ∧ w'.cell? ⟨w.heap.size + 1, 1, none⟩ = some (.int .i64 pr) ∧ w'.cell? ⟨w.heap.size + 1, 2, none⟩ = some (.float .f64 s))
      (first | exact ⟨q 0, q 1, q 2, r 0, r 1, r 2⟩ | go_keep)
      (first
        | (go_at_call 14; refine (HA.out _ (HE.out.below (below_then hB3 (by go_grown)))).mono ?_; rintro e w9 ⟨rfl, hb9⟩; have hB3 := below_then hB3 (below_then (by go_grown) hb9); have HM := Lib.hid (HM.out.below (below_then (by go_grown) hb9)); have HC := Lib.hid (HC.out.below (below_then (by go_grown) hb9)); clear q r; have q := HM.out.cell; have r := HC.out.cell)
        | (go_at_call 15; refine (HW.out _).mono ?_; rintro e w9 ⟨rfl, hb9⟩; have hB3 := below_then hB3 (below_then (by go_grown) hb9); have HM := Lib.hid (HM.out.below (below_then (by go_grown) hb9)); have HC := Lib.hid (HC.out.below (below_then (by go_grown) hb9)); clear q r; have q := HM.out.cell; have r := HC.out.cell))
    all_goals go_wp2_with fail
    all_goals go_ret
    all_goals exact ⟨ret_bool (by simp), hB3⟩
end Go.Proofs.YtkidljiffeonjaaDoor
