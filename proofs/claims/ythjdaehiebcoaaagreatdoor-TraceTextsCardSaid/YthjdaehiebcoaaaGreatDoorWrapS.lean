/- The wrap of a row with laid variables, the world's shape kept; a list of laid variables in two parts. -/
import Derived.Test.YthjdaehiebcoaaaGreatDoorSent
import Derived.HandedShaped
import Derived.Shelf.Vars
namespace Go.Proofs.YthjdaehiebcoaaaGreatDoor
open Go.RowKit

section wrap
variable {H : Type} {enc : TypeId × Value → H}
theorem handed_and_shaped {a : Assume} {C : Checked} {os : Os} {f : FuncId} {fn : Func} {s : ChangeSpec} {conds : List PathCond} {apart fresh handsOn again : Bool} {X : World → Array Value → Prop}
    (hX : ∀ (w w' : World) (args : Array Value), w.heap = w'.heap → X w args → X w' args)
    (own : ownKnob C.prog.godebug = none) (started : os.Started) (noInit : C.prog.inits.idxOf? f = none) (hfn : C.prog.funcs[f]? = some fn)
    (witness : ∃ (w : World) (tape : Tape) (i : Input), w.os = os ∧ (w.forCall tape i).Shaped C.prog ∧ i.vars = [] ∧ Input.okWide C.prog (w.forCall tape i) .any w.heap.size f i ∧
      ((s.pre enc C.prog fn conds apart (w.forCall tape i).memory i.args ∧ X (w.forCall tape i).memory i.args) ∧ sizedMet enc C.prog fn (OpenSpec.ofChange s) apart (w.forCall tape i).memory i.args) ∧ a.holds C.prog (lone (Frame.enter C.prog f i.args .normal) [] (w.forCall tape i)))
    (contract : ∀ (W : World) (base : Nat) (args : Array Value) (ds gs : List (DataW H)) (before : List MemPlace),
      (∀ (j : Nat) t v, fn.params[j]? = some t → args[j]? = some v → Value.okWide C.prog W .any base t v) →
      DataW.Whole enc C.prog fn.params.toList s.vars apart W args.toList ds gs before →
      conds.all (PathCond.test C.prog ⟨fn.params.toList, ds, s.plain.varTypes C.prog, gs⟩) = true →
      (DataW.weightsEach C.prog (fn.params.toList ++ s.plain.varTypes C.prog) (ds ++ gs)).all (· ≤ reachBytes) = true → X W args → W.ShapedOpen C.prog →
      a.holds C.prog (lone (Frame.enter C.prog f args .normal) [] W) →
      Calls C.prog f args W fun e W' => ∃ v, e = .returned v ∧ s.post enc C.prog fn apart fresh handsOn again W args v W') :
    ReturnsInHanded a C os f .any (fun w args => (s.pre enc C.prog fn conds apart w args ∧ X w args) ∧ sizedMet enc C.prog fn (OpenSpec.ofChange s) apart w args) (s.post enc C.prog fn apart fresh handsOn again) := by
  refine returnsInHanded_of_calls own started noInit witness ?_
  intro w tape i _ hsh _ hok hpre hholds
  obtain ⟨_, _, _, fn', hfn', _, _, _, _, hval⟩ := hok
  have e : fn' = fn := Option.some.inj (hfn'.symm.trans hfn)
  subst e
  obtain ⟨⟨⟨ds, gs, before, hw, hc⟩, hx⟩, hz⟩ := hpre
  have hw' := DataW.Whole.of_heap (w' := w.forCall tape i) (by rfl) hw
  refine (contract (w.forCall tape i) w.heap.size i.args ds gs before hval hw' hc (hz.weights hw) (hX _ _ _ (by rfl) hx) hsh hholds).mono fun e W' ⟨v, he, hp⟩ => ?_
  subst he
  exact ChangeSpec.post_blind hp
end wrap
theorem laidVars_parts {P : Program} {W : World} : ∀ (A B : List (String × DataW Unit)) (ps : List MemPlace), DataW.LaidVars P W (A ++ B) ps → ∃ p q, ps = p ++ q ∧ DataW.LaidVars P W A p ∧ DataW.LaidVars P W B q
  | [], _, ps, h => ⟨[], ps, rfl, rfl, h⟩
  | (n, d) :: A, B, ps, h => by
    obtain ⟨g0, t0, cs0, f0, p0, q0, hg0, ht0, hv0, hd0, hrest, e0⟩ := h
    obtain ⟨p, q, rfl, h1, h2⟩ := laidVars_parts A B q0 hrest
    exact ⟨MemPlace.row ⟨g0, 0, none⟩ cs0.size ++ p0 ++ p, q, by rw [e0]; simp [List.append_assoc], ⟨g0, t0, cs0, f0, p0, p, hg0, ht0, hv0, hd0, h1, rfl⟩, h2⟩
theorem laidMet_parts {P : Program} {W : World} {A B : List (String × DataW Unit)} (h : laidMet P (A ++ B) W) : laidMet P A W ∧ laidMet P B W := by
  obtain ⟨ps, h, hnd, hrows⟩ := h
  obtain ⟨p, q, rfl, h1, h2⟩ := laidVars_parts A B ps h
  have hn := List.nodup_append.1 hnd
  exact ⟨⟨p, h1, hn.1, fun b off hb => hrows b off (List.mem_append_left _ hb)⟩, ⟨q, h2, hn.2.1, fun b off hb => hrows b off (List.mem_append_right _ hb)⟩⟩
end Go.Proofs.YthjdaehiebcoaaaGreatDoor
