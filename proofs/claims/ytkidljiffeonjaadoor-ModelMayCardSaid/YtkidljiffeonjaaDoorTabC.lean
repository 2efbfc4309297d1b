/- The walks of package tables: which table a side has; a cell of a table. -/
import Derived.Test.YtkidljiffeonjaaDoorRows
import Derived.WalkKit
import Derived.WalkSpells
import Derived.WalkLawsBesides
import Derived.BigQuiet
import Derived.Deep.QuietTactic
import Derived.StillTailTactics
import Derived.Handy
import Derived.Lib.Hide
import Derived.Test.YtkidljiffeonjaaDoorTabA
set_option linter.unusedSimpArgs false
set_option linter.unusedVariables false
namespace Go.Proofs.YtkidljiffeonjaaDoor
open Go.RowKit

/-- an error of errors.New's make, by its address -/
abbrev errV (a : Addr) : Value := .iface 244 (.pointer (some a))
/-- a package-level variable holds such an error -/
def ErrIs (w : World) (g : Nat) (a : Addr) : Prop := w.cell? ⟨g, 0, none⟩ = some (errV a)
theorem ErrIs.below {w w' : World} {g : Nat} {a : Addr} (h : ErrIs w g a) (hb : Below w.heap.size w w') : ErrIs w' g a := by
  have hlt := lt_of_cell h
  exact (hb.cell (p := ⟨g, 0, none⟩) hlt).trans h

def tabOf (p d : Int) : Option Tab := if p = 1 ∧ d = 1 then some tCP else if p = 2 ∧ d = 1 then some tCC else if p = 1 ∧ d = 2 then some tPP else if p = 2 ∧ d = 2 then some tPC else none
def OfYes (t : Tab) (w : World) (e : Ending) (w' : World) : Prop := ∃ v, e = .returned (.tuple #[v, .nilIface]) ∧ IsTab w.heap.size t v w' ∧ Below w.heap.size w w'


theorem run_equalIn_arr2 {P : Program} (d : Nat) (t e : TypeId) (a b c f : Int) (w : World) (ht : P.underlying t = some (.array 2 e)) (he : P.underlying e = some (.int .i64)) (hz : (P.info? e).map (·.size) = some 1) :
    (Op.equalIn (d + 1 + 1) t (.agg #[.int .i64 a, .int .i64 b]) (.agg #[.int .i64 c, .int .i64 f])).run P w = .ok (a == c && b == f) w := by
  obtain ⟨i, hi, hs⟩ := Option.map_eq_some_iff.1 hz
  rw [Op.equalIn]
  have hr : List.range' 0 2 = [0, 1] := rfl
  simp only [Sem.run_bind, run_underlying ht, Result.andThen_ok, sizeOf, typeInfo, program, Sem.run, hi, Std.Legacy.Range.forIn_eq_forIn_range', Std.Legacy.Range.size, Nat.sub_zero, Nat.add_one_sub_one, Nat.div_one, hr, List.forIn_cons, List.forIn_nil]
  simp [part, isAgg, run_underlying he, run_equalIn_int w d e .i64 .i64 _ _ he, go_sem]
  by_cases h1 : a = c <;> by_cases h2 : b = f <;> simp [h1, h2, hs, run_equalIn_int w d e .i64 .i64 _ _ he, go_sem]
theorem eqArr (a b c f : Int) (w : World) : (Op.equalIn 10000 201 (.agg #[.int .i64 a, .int .i64 b]) (.agg #[.int .i64 c, .int .i64 f])).run Tryd.prog w = .ok (a == c && b == f) w :=
  run_equalIn_arr2 9998 201 3 a b c f w Tryd.underlying201 Tryd.underlying3 (by kernel_rfl)

set_option maxRecDepth 100000 in
set_option maxHeartbeats 400000 in
theorem of_no (p d : Int) (a : Addr) (w : World) (h : ErrIs w 13 a) (hn : tabOf p d = none) :
    Calls Tryd.prog 97 #[.int .i64 p, .int .i64 d] w (Makes (.tuple #[.agg #[.slice none 0 0, .slice none 0 0, .string ⟨#[]⟩], errV a]) w) := by
  have hlt := lt_of_cell h
  have h' : (w.alloc (.cells #[.slice none 0 0, .slice none 0 0, .string ⟨#[]⟩] 160)).cell? ⟨13, 0, none⟩ = some (errV a) := by
    rw [World.cell?_alloc_lt (h := hlt)]; exact h
  clear h
  have k1 : (p == 1 && d == 1) = false := by unfold tabOf at hn; (repeat' split at hn) <;> simp_all
  have k2 : (p == 2 && d == 1) = false := by unfold tabOf at hn; (repeat' split at hn) <;> simp_all
  have k3 : (p == 1 && d == 2) = false := by unfold tabOf at hn; (repeat' split at hn) <;> simp_all
  have k4 : (p == 2 && d == 2) = false := by unfold tabOf at hn; (repeat' split at hn) <;> simp_all
  clear hn
  have hA := eqArr
  go_enter Tryd.func97, Tryd.ntmps97
  go_wp2_with fail
  go_region
  all_goals go_wp2
  all_goals go_returns
  all_goals exact ⟨rfl, by go_grown⟩

set_option maxRecDepth 100000 in
set_option maxHeartbeats 400000 in
theorem of_yes (p d : Int) (t : Tab) (w : World) (ht : tabOf p d = some t) :
    Calls Tryd.prog 97 #[.int .i64 p, .int .i64 d] w (OfYes t w) := by
  have hc : p = 1 ∧ d = 1 ∧ t = tCP ∨ p = 2 ∧ d = 1 ∧ t = tCC ∨ p = 1 ∧ d = 2 ∧ t = tPP ∨ p = 2 ∧ d = 2 ∧ t = tPC := by
    unfold tabOf at ht
    repeat' split at ht
    all_goals simp_all
  clear ht
  have hA := eqArr
  rcases hc with ⟨rfl, rfl, rfl⟩ | ⟨rfl, rfl, rfl⟩ | ⟨rfl, rfl, rfl⟩ | ⟨rfl, rfl, rfl⟩
  · go_enter Tryd.func97, Tryd.ntmps97
    go_wp2_with (first | (go_at_call 124; refine (tCP_any _).mono ?_; rintro e w' ⟨v, rfl, hT, hb⟩; obtain ⟨br, ba, b1, b2, rfl, hr, ha⟩ := hT; have hz := hb.size; simp only [World.size_alloc] at hz b1 b2; obtain ⟨hc, hf⟩ := bcell hb))
    obtain ⟨hc, hf⟩ := bcell hb
    refine bodyPost_ret (v := .tuple #[.agg #[.slice (some ⟨br, 0, none⟩) tCP.rows.length tCP.rows.length, .slice (some ⟨ba, 0, none⟩) tCP.acts.length tCP.acts.length, .string tCP.waits], .nilIface]) (by simp [results, Tryd.results97, go_sem, hc, hf, hz]) rfl ⟨_, rfl, ?_, ?_⟩
    · exact ((IsTab.setCell (IsTab.setCell (IsTab.setCell ⟨br, ba, b1, b2, rfl, hr, ha⟩ (by simp) _) (by simp) _) (by simp) _).mono (by omega))
    · exact ((((Below.refl _ _).alloc (Nat.le_refl _) _).trans (hb.mono (by simp))).setCell (by simp) _).setCell (by simp) _ |>.setCell (by simp) _
  · go_enter Tryd.func97, Tryd.ntmps97
    go_wp2_with (first | (go_at_call 125; refine (tCC_any _).mono ?_; rintro e w' ⟨v, rfl, hT, hb⟩; obtain ⟨br, ba, b1, b2, rfl, hr, ha⟩ := hT; have hz := hb.size; simp only [World.size_alloc] at hz b1 b2; obtain ⟨hc, hf⟩ := bcell hb))
    obtain ⟨hc, hf⟩ := bcell hb
    refine bodyPost_ret (v := .tuple #[.agg #[.slice (some ⟨br, 0, none⟩) tCC.rows.length tCC.rows.length, .slice (some ⟨ba, 0, none⟩) tCC.acts.length tCC.acts.length, .string tCC.waits], .nilIface]) (by simp [results, Tryd.results97, go_sem, hc, hf, hz]) rfl ⟨_, rfl, ?_, ?_⟩
    · exact ((IsTab.setCell (IsTab.setCell (IsTab.setCell ⟨br, ba, b1, b2, rfl, hr, ha⟩ (by simp) _) (by simp) _) (by simp) _).mono (by omega))
    · exact ((((Below.refl _ _).alloc (Nat.le_refl _) _).trans (hb.mono (by simp))).setCell (by simp) _).setCell (by simp) _ |>.setCell (by simp) _
  · go_enter Tryd.func97, Tryd.ntmps97
    go_wp2_with (first | (go_at_call 126; refine (tPP_any _).mono ?_; rintro e w' ⟨v, rfl, hT, hb⟩; obtain ⟨br, ba, b1, b2, rfl, hr, ha⟩ := hT; have hz := hb.size; simp only [World.size_alloc] at hz b1 b2; obtain ⟨hc, hf⟩ := bcell hb))
    obtain ⟨hc, hf⟩ := bcell hb
    refine bodyPost_ret (v := .tuple #[.agg #[.slice (some ⟨br, 0, none⟩) tPP.rows.length tPP.rows.length, .slice (some ⟨ba, 0, none⟩) tPP.acts.length tPP.acts.length, .string tPP.waits], .nilIface]) (by simp [results, Tryd.results97, go_sem, hc, hf, hz]) rfl ⟨_, rfl, ?_, ?_⟩
    · exact ((IsTab.setCell (IsTab.setCell (IsTab.setCell ⟨br, ba, b1, b2, rfl, hr, ha⟩ (by simp) _) (by simp) _) (by simp) _).mono (by omega))
    · exact ((((Below.refl _ _).alloc (Nat.le_refl _) _).trans (hb.mono (by simp))).setCell (by simp) _).setCell (by simp) _ |>.setCell (by simp) _
  · go_enter Tryd.func97, Tryd.ntmps97
    go_wp2_with (first | (go_at_call 127; refine (tPC_any _).mono ?_; rintro e w' ⟨v, rfl, hT, hb⟩; obtain ⟨br, ba, b1, b2, rfl, hr, ha⟩ := hT; have hz := hb.size; simp only [World.size_alloc] at hz b1 b2; obtain ⟨hc, hf⟩ := bcell hb))
    obtain ⟨hc, hf⟩ := bcell hb
    refine bodyPost_ret (v := .tuple #[.agg #[.slice (some ⟨br, 0, none⟩) tPC.rows.length tPC.rows.length, .slice (some ⟨ba, 0, none⟩) tPC.acts.length tPC.acts.length, .string tPC.waits], .nilIface]) (by simp [results, Tryd.results97, go_sem, hc, hf, hz]) rfl ⟨_, rfl, ?_, ?_⟩
    · exact ((IsTab.setCell (IsTab.setCell (IsTab.setCell ⟨br, ba, b1, b2, rfl, hr, ha⟩ (by simp) _) (by simp) _) (by simp) _).mono (by omega))
    · exact ((((Below.refl _ _).alloc (Nat.le_refl _) _).trans (hb.mono (by simp))).setCell (by simp) _).setCell (by simp) _ |>.setCell (by simp) _

end Go.Proofs.YtkidljiffeonjaaDoor
