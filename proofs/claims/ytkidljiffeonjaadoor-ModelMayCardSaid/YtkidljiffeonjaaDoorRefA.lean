/- The walks of the reference's tables (liaisonref10): each returns what the plain function of XTabPlain computes. -/
import Derived.Test.YtkidljiffeonjaaDoorRows
import Derived.WalkKit
import Derived.WalkSpells
import Derived.WalkLawsBesides
import Derived.BigQuiet
import Derived.Deep.QuietTactic
import Derived.StillTailTactics
import Derived.Handy
import Derived.Lib.Hide
import Derived.Test.YtkidljiffeonjaaDoorTabPlain
set_option linter.unusedSimpArgs false
set_option linter.unusedVariables false
namespace Go.Proofs.YtkidljiffeonjaaDoor
open Go.RowKit

theorem ret_bool {a b : Bool} (h : a = b) : Ending.returned (.bool a) = .returned (.bool b) := by rw [h]
theorem ret_int {a b : Int} (h : a = b) : Ending.returned (.int .i64 a) = .returned (.int .i64 b) := by rw [h]
def cell3 (c : Int × Int × Int) : Value := .agg #[.int .i64 c.1, .int .i64 c.2.1, .int .i64 c.2.2]
theorem ret_cell {a b c : Int} {x : Int × Int × Int} (h : x = (a, b, c)) : Ending.returned (.agg #[.int .i64 a, .int .i64 b, .int .i64 c]) = .returned (cell3 x) := by rw [h]; rfl
/-- what a function that only computes leaves: its result, nothing turned -/
def Gives (v : Value) (w : World) (e : Ending) (w' : World) : Prop := e = .returned v ∧ w = w'
/-- a function that makes memory of its own: nothing that was there has turned -/
def Makes (v : Value) (w : World) (e : Ending) (w' : World) : Prop := e = .returned v ∧ Below w.heap.size w w'

theorem below_then {w W0 w1 : World} (h : Below w.heap.size w W0) (hb : Below W0.heap.size W0 w1) : Below w.heap.size w w1 := h.trans (hb.mono h.size)
theorem bcell {W w1 : World} (hb : Below W.heap.size W w1) : (∀ b o, b < W.heap.size → w1.cell? ⟨b, o, none⟩ = W.cell? ⟨b, o, none⟩) ∧ (∀ b o, b < W.heap.size → w1.frozen? ⟨b, o, none⟩ = W.frozen? ⟨b, o, none⟩) :=
  ⟨fun b o h => hb.cell (p := ⟨b, o, none⟩) h, fun b o h => hb.frozen (p := ⟨b, o, none⟩) h⟩

set_option maxHeartbeats 400000 in
theorem rto_any (s : Int) (w : World) : Calls Tryd.prog 163 #[.int .i64 s] w (Makes (cell3 (1, s, 0)) w) := by
  go_enter Tryd.func163, Tryd.ntmps163
  go_wp2
  go_returns
  exact ⟨rfl, by go_grown⟩

set_option maxHeartbeats 400000 in
theorem ragain_any (s : Int) (w : World) : Calls Tryd.prog 164 #[.int .i64 s] w (Makes (cell3 (3, 0, s)) w) := by
  go_enter Tryd.func164, Tryd.ntmps164
  go_wp2
  go_returns
  exact ⟨rfl, by go_grown⟩

set_option maxHeartbeats 400000 in
theorem rfailing_any (s : Int) (w : World) : Calls Tryd.prog 165 #[.int .i64 s] w (Gives (.bool (rFailing s)) w) := by
  go_enter Tryd.func165, Tryd.ntmps165
  go_wp2
  all_goals (go_ret; refine ⟨ret_bool ?_, rfl⟩; rw [Bool.eq_iff_iff]; simp [rFailing]; omega)

set_option maxHeartbeats 400000 in
theorem rhas_any (p d s : Int) (w : World) : Calls Tryd.prog 136 #[.int .i64 p, .int .i64 d, .int .i64 s] w (Gives (.bool (rHas p d s)) w) := by
  go_enter Tryd.func136, Tryd.ntmps136
  go_wp2
  all_goals (go_ret; refine ⟨ret_bool ?_, rfl⟩; rw [Bool.eq_iff_iff]; simp [rHas]; (try simp only [beq_iff_eq, beq_eq_false_iff_ne, bne_iff_ne, bne_eq_false_iff_eq, ne_eq, decide_eq_true_eq, decide_eq_false_iff_not, Bool.not_eq_true', Bool.not_eq_false'] at *); omega)

set_option maxHeartbeats 400000 in
theorem rwaits_any (d s : Int) (w : World) : Calls Tryd.prog 166 #[.int .i64 d, .int .i64 s] w (Gives (.int .i64 (rWaits d s)) w) := by
  go_enter Tryd.func166, Tryd.ntmps166
  go_wp2_with (first | (go_at_call 165; refine (rfailing_any _ _).mono ?_; rintro e w' ⟨rfl, rfl⟩))
  all_goals (go_ret; refine ⟨ret_int ?_, rfl⟩; unfold rWaits; (try simp only [rFailing] at *); (try simp only [beq_iff_eq, beq_eq_false_iff_ne, bne_iff_ne, bne_eq_false_iff_eq, ne_eq, decide_eq_true_eq, decide_eq_false_iff_not, Bool.not_eq_true', Bool.not_eq_false'] at *); repeat' split)
  all_goals omega

set_option maxHeartbeats 400000 in
theorem rtakes_any (p d k : Int) (w : World) : Calls Tryd.prog 137 #[.int .i64 p, .int .i64 d, .int .i64 k] w (Gives (.bool (rTakes p d k)) w) := by
  go_enter Tryd.func137, Tryd.ntmps137
  go_wp2
  all_goals (go_ret; refine ⟨ret_bool ?_, rfl⟩; rw [Bool.eq_iff_iff]; simp [rTakes]; (try simp only [beq_iff_eq, beq_eq_false_iff_ne, bne_iff_ne, bne_eq_false_iff_eq, ne_eq, decide_eq_true_eq, decide_eq_false_iff_not, Bool.not_eq_true', Bool.not_eq_false'] at *); omega)

set_option maxHeartbeats 400000 in
theorem rsends_any (p d k : Int) (w : World) : Calls Tryd.prog 141 #[.int .i64 p, .int .i64 d, .int .i64 k] w (Gives (.bool (rSends p d k)) w) := by
  go_enter Tryd.func141, Tryd.ntmps141
  go_wp2
  all_goals (go_ret; refine ⟨ret_bool ?_, rfl⟩; rw [Bool.eq_iff_iff]; simp [rSends]; (try simp only [beq_iff_eq, beq_eq_false_iff_ne, bne_iff_ne, bne_eq_false_iff_eq, ne_eq, decide_eq_true_eq, decide_eq_false_iff_not, Bool.not_eq_true', Bool.not_eq_false'] at *); omega)

set_option maxHeartbeats 4000000 in
theorem rgoes_any (p d k s : Int) (w : World) : Calls Tryd.prog 142 #[.int .i64 p, .int .i64 d, .int .i64 k, .int .i64 s] w (Gives (.int .i64 (rGoes p k s)) w) := by
  go_enter Tryd.func142, Tryd.ntmps142
  go_wp2_with (first | (go_at_call 165; refine (rfailing_any _ _).mono ?_; rintro e w' ⟨rfl, rfl⟩))
  all_goals (go_ret; refine ⟨ret_int ?_, rfl⟩; (try simp only [rFailing] at *); (try simp only [beq_iff_eq, beq_eq_false_iff_ne, bne_iff_ne, bne_eq_false_iff_eq, ne_eq, decide_eq_true_eq, decide_eq_false_iff_not, Bool.not_eq_true', Bool.not_eq_false'] at *); unfold rGoes; simp [*])
  all_goals (repeat' split)
  all_goals omega
end Go.Proofs.YtkidljiffeonjaaDoor
