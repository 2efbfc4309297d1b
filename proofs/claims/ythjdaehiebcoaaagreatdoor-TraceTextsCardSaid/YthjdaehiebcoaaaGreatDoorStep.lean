/- A call of a Go function as one step of a region that draws its order (for go_region_law). -/
import Derived.Test.YthjdaehiebcoaaaGreatDoorRows
import Derived.WalkKit
import Derived.WalkSpells
import Derived.WalkLawsBesides
import Derived.BigQuiet
import Derived.Deep.QuietTactic
import Derived.StillTailTactics
import Derived.Handy
import Derived.Lib.Hide
import Derived.Deep.RegionLaw
import Derived.Deep.RegionHeld3
import Derived.Shelf.Abstract
set_option linter.unusedSimpArgs false
set_option linter.unusedVariables false
namespace Go.Proofs.YthjdaehiebcoaaaGreatDoor
open Go.RowKit Go.Shelf

theorem step_call {P : Program} {ops : Array Oper} {o : Oper} {a : Act} {w : World} {K : Act → World → Prop} {Q : Exit → Act → World → Prop} {E : Prop}
    (f : Nat) (argsO : Array Operand) (ts : Array TypeId) (args : List Value)
    (hop : o.op = Op.call { callee := Callee.value (Operand.func f), args := argsO, argTypes := ts }) (he : Enters P f)
    (hw : Region.wanted o (yielded ops a.tmps) = true) (hargs : argsO.toList.map a.eval = args)
    (h : Calls P f args.toArray w (fun e w' => ∃ v, e = .returned v ∧ K (a.put o.dst v) w')) :
    if Region.wanted o (yielded ops a.tmps) = true then Oper.wp P o a w K Q else E := by
  rw [if_pos hw]
  have hx : argsO.map a.eval = args.toArray := Array.toList_inj.1 (by rw [Array.toList_map, hargs])
  unfold Oper.wp
  have hrun : (execOp a.eval o).run P w = .ok (.enter f args.toArray) w := by
    have h1 := he args.toArray w
    simp only [execOp, hop, resolve, Act.eval]
    simp [Deferred.ofValue, invoke]
    have hx2 : (Array.map (fun x => match x with
      | Operand.tmp t => a.tmps.getD t undef
      | Operand.const v => v
      | Operand.global g => Value.pointer (some ⟨g, 0, none⟩)
      | Operand.func f => Value.func (.func f) #[] #[]) argsO) = args.toArray := hx
    first
      | rw [hx2]; exact h1
      | (rw [hx]; exact h1)
  rw [hrun, Oper.upon_enter]
  refine h.mono ?_
  rintro e w' ⟨v, rfl, hk⟩
  exact hk
/-- a narrower condition serves -/
theorem wpAnyH_narrow {P : Program} {md : Region.Mode} {ops : Array Oper} {Q : Exit → Act → World → Prop} {S S' : World → Prop} (hS : ∀ w, S' w → S w) :
    ∀ (fuel : Nat) (listed : Array Bool) (a : Act) (w : World), wpAnyH P md ops Q S' fuel listed a w → wpAnyH P md ops Q S fuel listed a w
  | 0, _, _, _, h => h
  | fuel + 1, _, _, _, h => ⟨h.1, fun i hi => wpOp_mono (fun a' w' h' => ⟨hS _ h'.1, wpAnyH_narrow hS fuel _ a' w' h'.2⟩) (h.2 i hi)⟩
/-- one operation alone may come up: a call of a Go function; the condition may grow behind it -/
theorem wpAnyH_call {P : Program} {md : Region.Mode} {ops : Array Oper} {Q : Exit → Act → World → Prop} {S : World → Prop} {fuel : Nat} {listed : Array Bool} {a : Act} {w : World} {oi : Oper} {d : Option Tmp}
    (i : Nat) (f : Nat) (argsO : Array Operand) (ts : Array TypeId) (args : List Value) (hi : ops[i]? = some oi) (hd : oi.dst = d) (hr : Region.ready md ops listed = [i])
    (hop : oi.op = Op.call { callee := Callee.value (Operand.func f), args := argsO, argTypes := ts }) (he : Enters P f)
    (hw : Region.wanted oi (yielded ops a.tmps) = true) (hargs : argsO.toList.map a.eval = args)
    (h : Calls P f args.toArray w (fun e w' => ∃ v, e = .returned v ∧ ∃ S' : World → Prop, (∀ w, S' w → S w) ∧ S' w' ∧ (S' w' → wpAnyH P md ops Q S' fuel (listed.setIfInBounds i true) (a.put d v) w'))) :
    wpAnyH P md ops Q S (fuel + 1) listed a w := by
  refine wpAnyH_all hr (by simp) (fun j hj => ?_)
  obtain rfl : j = i := by simpa using hj
  subst hd
  refine wpOp_step hi (fun K' hK => ?_)
  refine step_call f argsO ts args hop he hw hargs (h.mono ?_)
  rintro e w' ⟨v, rfl, S', h1, h2, h3⟩
  exact ⟨v, rfl, hK _ _ ⟨h1 _ h2, wpAnyH_narrow h1 _ _ _ _ (h3 h2)⟩⟩
/-- two calls may come up, in either order -/
theorem wpAnyH_two {P : Program} {md : Region.Mode} {ops : Array Oper} {Q : Exit → Act → World → Prop} {S : World → Prop} {fuel : Nat} {listed : Array Bool} {a : Act} {w : World}
    (i j : Nat) (hr : Region.ready md ops listed = [i, j])
    (h1 : wpOp P ops Q i (fun a' w' => S w' ∧ wpAnyH P md ops Q S fuel (listed.setIfInBounds i true) a' w') a w)
    (h2 : wpOp P ops Q j (fun a' w' => S w' ∧ wpAnyH P md ops Q S fuel (listed.setIfInBounds j true) a' w') a w) : wpAnyH P md ops Q S (fuel + 1) listed a w := by
  refine wpAnyH_all hr (by simp) (fun k hk => ?_)
  rcases (by simpa using hk : k = i ∨ k = j) with rfl | rfl
  · exact h1
  · exact h2
/-- a call, met by its contract -/
theorem wpOp_call {P : Program} {ops : Array Oper} {Q : Exit → Act → World → Prop} {a : Act} {w : World} {oi : Oper} {d : Option Tmp} {N : Act → World → Prop}
    (i : Nat) (f : Nat) (argsO : Array Operand) (ts : Array TypeId) (args : List Value) (hi : ops[i]? = some oi) (hd : oi.dst = d)
    (hop : oi.op = Op.call { callee := Callee.value (Operand.func f), args := argsO, argTypes := ts }) (he : Enters P f)
    (hw : Region.wanted oi (yielded ops a.tmps) = true) (hargs : argsO.toList.map a.eval = args)
    (h : Calls P f args.toArray w (fun e w' => ∃ v, e = .returned v ∧ N (a.put d v) w')) : wpOp P ops Q i N a w := by
  subst hd
  refine wpOp_step hi (fun K' hK => ?_)
  refine step_call f argsO ts args hop he hw hargs (h.mono ?_)
  rintro e w' ⟨v, rfl, h3⟩
  exact ⟨v, rfl, hK _ _ h3⟩
/-- an operation that is taken first, its slot given -/
theorem wpAnyH_takeAt {P : Program} {md : Region.Mode} {ops : Array Oper} {Q : Exit → Act → World → Prop} {S : World → Prop} {fuel : Nat} {listed : Array Bool} {a : Act} {w : World} {oi : Oper} {d : Option Tmp} {v : Value}
    (i : Nat) (hi : ops[i]? = some oi) (hd : oi.dst = d)
    (hs : Region.noSelect ops = true) (hf : Region.free md ops listed i = true) (hr : (Region.ready md ops listed).contains i = true)
    (hQ : ∀ c a w, Q (.panic c) (a.put oi.dst v) w → Q (.panic c) a w) (hS : S w) (hw : Region.wanted oi (yielded ops a.tmps) = true) (hy : ∀ w, S w → (execOp a.eval oi).run P w = .ok (.value v) w)
    (h : wpAnyH P md ops Q S fuel (listed.setIfInBounds i true) (a.put d v) w) : wpAnyH P md ops Q S (fuel + 1) listed a w := by
  subst hd
  exact wpAnyH_take hi hs hf hr hQ (.inl ⟨hw, hy⟩) hS h
theorem step_die {P : Program} {ops : Array Oper} {o : Oper} {a : Act} {w : World} {K : Act → World → Prop} {Q : Exit → Act → World → Prop} {E : Prop} (c : List PanicEntry)
    (f : Nat) (argsO : Array Operand) (ts : Array TypeId) (args : List Value)
    (hop : o.op = Op.call { callee := Callee.value (Operand.func f), args := argsO, argTypes := ts }) (he : Enters P f)
    (hw : Region.wanted o (yielded ops a.tmps) = true) (hargs : argsO.toList.map a.eval = args)
    (h : Calls P f args.toArray w (fun e w' => e = .panicked c ∧ Q (.panic c) a w')) :
    if Region.wanted o (yielded ops a.tmps) = true then Oper.wp P o a w K Q else E := by
  rw [if_pos hw]
  have hx : argsO.map a.eval = args.toArray := Array.toList_inj.1 (by rw [Array.toList_map, hargs])
  unfold Oper.wp
  have hrun : (execOp a.eval o).run P w = .ok (.enter f args.toArray) w := by
    have h1 := he args.toArray w
    simp only [execOp, hop, resolve, Act.eval]
    simp [Deferred.ofValue, invoke]
    have hx2 : (Array.map (fun x => match x with
      | Operand.tmp t => a.tmps.getD t undef
      | Operand.const v => v
      | Operand.global g => Value.pointer (some ⟨g, 0, none⟩)
      | Operand.func f => Value.func (.func f) #[] #[]) argsO) = args.toArray := hx
    first
      | rw [hx2]; exact h1
      | (rw [hx]; exact h1)
  rw [hrun, Oper.upon_enter]
  refine h.mono ?_
  rintro e w' ⟨rfl, hk⟩
  exact hk
/-- one operation alone may come up: a call that panics -/
theorem wpAnyH_die {P : Program} {md : Region.Mode} {ops : Array Oper} {Q : Exit → Act → World → Prop} {S : World → Prop} {fuel : Nat} {listed : Array Bool} {a : Act} {w : World} {oi : Oper} (c : List PanicEntry)
    (i : Nat) (f : Nat) (argsO : Array Operand) (ts : Array TypeId) (args : List Value) (hi : ops[i]? = some oi) (hr : Region.ready md ops listed = [i])
    (hop : oi.op = Op.call { callee := Callee.value (Operand.func f), args := argsO, argTypes := ts }) (he : Enters P f)
    (hw : Region.wanted oi (yielded ops a.tmps) = true) (hargs : argsO.toList.map a.eval = args)
    (h : Calls P f args.toArray w (fun e w' => e = .panicked c ∧ Q (.panic c) a w')) :
    wpAnyH P md ops Q S (fuel + 1) listed a w := by
  refine wpAnyH_all hr (by simp) (fun j hj => ?_)
  obtain rfl : j = i := by simpa using hj
  refine wpOp_step hi (fun K' hK => ?_)
  exact step_die c f argsO ts args hop he hw hargs h
/-- an operation that is not wanted -/
theorem wpAnyH_skipAt {P : Program} {md : Region.Mode} {ops : Array Oper} {Q : Exit → Act → World → Prop} {S : World → Prop} {fuel : Nat} {listed : Array Bool} {a : Act} {w : World} {oi : Oper} {d : Option Tmp}
    (i : Nat) (hi : ops[i]? = some oi) (hd : oi.dst = d)
    (hs : Region.noSelect ops = true) (hf : Region.free md ops listed i = true) (hr : (Region.ready md ops listed).contains i = true)
    (hQ : ∀ c a w, Q (.panic c) (a.put oi.dst undef) w → Q (.panic c) a w) (hS : S w) (hw : Region.wanted oi (yielded ops a.tmps) = false)
    (h : wpAnyH P md ops Q S fuel (listed.setIfInBounds i true) (a.put d undef) w) : wpAnyH P md ops Q S (fuel + 1) listed a w := by
  subst hd
  exact wpAnyH_take hi hs hf hr hQ (.inr ⟨hw, rfl⟩) hS h
/-- an operation that comes up alone and makes memory -/
theorem wpAnyH_alone {P : Program} {md : Region.Mode} {ops : Array Oper} {Q : Exit → Act → World → Prop} {S : World → Prop} {fuel : Nat} {listed : Array Bool} {a : Act} {w : World} {oi : Oper} {d : Option Tmp}
    (i : Nat) (v : Value) (w' : World) (hi : ops[i]? = some oi) (hd : oi.dst = d) (hr : Region.ready md ops listed = [i])
    (hw : Region.wanted oi (yielded ops a.tmps) = true) (hrun : (execOp a.eval oi).run P w = .ok (.value v) w') (hS : S w')
    (h : wpAnyH P md ops Q S fuel (listed.setIfInBounds i true) (a.put d v) w') : wpAnyH P md ops Q S (fuel + 1) listed a w := by
  refine wpAnyH_all hr (by simp) (fun j hj => ?_)
  obtain rfl : j = i := by simpa using hj
  subst hd
  refine wpOp_step hi (fun K' hK => ?_)
  rw [if_pos hw]
  unfold Oper.wp
  rw [hrun]
  exact hK _ _ ⟨hS, h⟩
theorem wpOp_alone {P : Program} {ops : Array Oper} {Q : Exit → Act → World → Prop} {a : Act} {w : World} {oi : Oper} {d : Option Tmp} {N : Act → World → Prop}
    (i : Nat) (v : Value) (w' : World) (hi : ops[i]? = some oi) (hd : oi.dst = d)
    (hw : Region.wanted oi (yielded ops a.tmps) = true) (hrun : (execOp a.eval oi).run P w = .ok (.value v) w') (h : N (a.put d v) w') : wpOp P ops Q i N a w := by
  subst hd
  refine wpOp_step hi (fun K' hK => ?_)
  rw [if_pos hw]
  unfold Oper.wp
  rw [hrun]
  exact hK _ _ h
theorem wpOp_die {P : Program} {ops : Array Oper} {Q : Exit → Act → World → Prop} {a : Act} {w : World} {oi : Oper} {N : Act → World → Prop} (c : List PanicEntry)
    (i : Nat) (f : Nat) (argsO : Array Operand) (ts : Array TypeId) (args : List Value) (hi : ops[i]? = some oi)
    (hop : oi.op = Op.call { callee := Callee.value (Operand.func f), args := argsO, argTypes := ts }) (he : Enters P f)
    (hw : Region.wanted oi (yielded ops a.tmps) = true) (hargs : argsO.toList.map a.eval = args)
    (h : Calls P f args.toArray w (fun e w' => e = .panicked c ∧ Q (.panic c) a w')) : wpOp P ops Q i N a w := by
  refine wpOp_step hi (fun K' hK => ?_)
  exact step_die c f argsO ts args hop he hw hargs h
end Go.Proofs.YthjdaehiebcoaaaGreatDoor
