/- A range over an iterator that makes memory of its own and reads memory between the rounds; rounds go on. -/
import Derived.RangeFuncNested
import Derived.RangeFuncBound
import Derived.RangeFuncCalls
import Derived.RangeFuncLeaves
import Derived.Shelf.Abstract
import Derived.Test.YthjdaehiebcoaaaGreatDoorRangeP
set_option linter.unusedSimpArgs false
set_option linter.unusedVariables false
namespace Go.Proofs.YthjdaehiebcoaaaGreatDoor
open Go.RowKit

theorem own_under {β : Type} {B : Nat} {I : β → World → Prop} (h : OwnFrom B I) {s : β} {W W' : World} (hs : I s W) (hb : Below W.heap.size W W') : I s W' :=
  h s W W' none hs ⟨hb.os, hb.tape, hb.output, hb.size, fun k hk _ => hb.block k hk⟩ (fun r e => by cases e)
theorem keeps_under {B : Nat} {W W' : World} (h : Below W.heap.size W W') : KeepsFrom B W W' := ⟨h.size, fun k o _ ho _ => (h.block k (Array.getElem?_eq_some_iff.1 ho).1).trans ho⟩
/-- how a round is left -/
def inRoundQ {α : Type} (B : Nat) (Kp : World → World → Prop) (I : List α → World → Prop) (xs : List α) (W : World) : Exit → Act → World → Prop
  | .normal, _, X => KeepsFrom B W X ∧ Kp W X ∧ I xs X
  | _, _, _ => False
set_option maxHeartbeats 1000000 in
/-- the loop's law -/
theorem rangeQ {n : Nat} {P : Program} {α : Type} {g : Operand} {ps : Array Tmp} {assign body : Code} {Q : Exit → Act → World → Prop} {a : Act} {w : World}
    {gf : Nat} {lb : Array Value} (hg : a.eval g = .func (.func gf) #[] lb) (eg : ∀ args w, (callFunc gf args).run P w = .ok (.enter gf args) w)
    {encs : α → Array Value} {S Sp : List α → Prop} (Kp : World → World → Prop) (hKp : ∀ l o o' A X, w.heap.size ≤ l → Kp (A.putObj l o) X → Kp A (X.putObj l o')) (hKB : ∀ A B X, Below A.heap.size A B → Kp B X → Kp A X)
    (hit : ∀ (l : Nat) (J : List α → World → Prop) (W : World), Below w.heap.size w W → (∀ pre A B, J pre A → Below A.heap.size A B → J pre B) →
      (∀ pre x W1, J pre W1 → Sp (pre ++ [x]) → YieldAt Fence.wide (n - 1 - 1) P l (encs x) W1 fun e W' => e = .returned (.bool true) ∧ J (pre ++ [x]) W' ∧ Kp W1 W') →
      J [] W → CallsIn Fence.wide (n - 1) P gf (#[.func (.yield l) #[] #[]] ++ lb) W fun e W' => (∃ v, e = .returned v) ∧ ∃ xs, S xs ∧ J xs W')
    (hps : ∀ x, (encs x).size = ps.size)
    (I : List α → World → Prop) (hI : OwnFrom w.heap.size I) (h0 : I [] w)
    (hround : ∀ (l : Nat) (pre : List α) (x : α) (W : World), Sp (pre ++ [x]) → I pre W → assign.wpIn (Fence.wide.inRound l) (n - 1 - 1) P
      (Exit.then (fun a' W' => Below W.heap.size W W' ∧ ∀ o, I pre (W'.putObj l o) → (∃ q, W'.heap[l]? = some q ∧ q.isCells = false) → body.wpIn (Fence.wide.inRound l) (n - 1 - 1) P (inRoundQ w.heap.size Kp I (pre ++ [x]) (W'.putObj l o)) a' (W'.putObj l o)) (fun _ _ _ => False))
      { tmps := (ps.zip (encs x)).foldl (fun t (p, v) => t.setIfInBounds p v) a.tmps, defers := [] } W)
    (hdone : ∀ (D : Nat) (xs : List α) (W : World), w.heap.size ≤ D → S xs → I xs W → W.heap[D]? = some (.deferred (some [])) → Q .normal { a with defers := { target := .collected D, args := #[] } :: a.defers } W) :
    (Code.rangeFunc g ps assign body).wpIn Fence.wide n P Q a w := by
  refine wpIn_rangeFunc (fun fn hfn => ?_)
  obtain ⟨R, hR⟩ : ∃ R : LoopState → Option Code → Loop, ∀ st pe, R st pe = { state := st, pending := pe, fn, tmps := a.tmps, params := ps, assign, body, defers := w.heap.size } := ⟨_, fun _ _ => rfl⟩
  obtain ⟨W0, hW0⟩ : ∃ W0, W0 = (w.alloc (.deferred (some []))).alloc (.loop (R .ready none)) := ⟨_, rfl⟩
  have hz : W0.heap.size = w.heap.size + 2 := by rw [hW0]; simp
  have hB0 : Below w.heap.size w W0 := by rw [hW0]; exact ((Below.refl _ w).alloc (Nat.le_refl _) _).alloc (by simp) _
  have hL0 : W0.heap[w.heap.size + 1]? = some (.loop (R .ready none)) := by rw [hW0]; simpa using World.alloc_heap_new (w.alloc (.deferred (some []))) (.loop (R .ready none))
  have hD0 : W0.heap[w.heap.size]? = some (.deferred (some [])) := by rw [hW0]; exact (Below.heap_alloc _ _ _ (by simp)).trans (World.alloc_heap_new w _)
  have hI0 : I [] W0 := by rw [hW0]; exact hI.alloc _ (hI.alloc _ h0)
  refine ⟨w.heap.size + 1, [{ target := .collected w.heap.size, args := #[] }], W0, { target := .fn (.func gf) lb, args := #[.func (.yield (w.heap.size + 1)) #[] #[]] }, W0, gf, #[.func (.yield (w.heap.size + 1)) #[] #[]] ++ lb, W0, ?_, ?_, ?_, ?_, fun e => (by cases e), ?_⟩
  · rw [hW0, hR]; exact run_enterLoop_outer fn a.tmps ps assign body
  · simp only [resolve, hg]; simp [go_sem]
  · intro f' _; trivial
  · simp [invoke, go_sem, eg]
  refine (hit (w.heap.size + 1) (fun pre W => I pre W ∧ W.heap[w.heap.size + 1]? = some (.loop (R .ready none)) ∧ W.heap[w.heap.size]? = some (.deferred (some []))) W0 hB0
    (fun pre A B h hT => ⟨own_under hI h.1 hT, (hT.block _ (Array.getElem?_eq_some_iff.1 h.2.1).1).trans h.2.1, (hT.block _ (Array.getElem?_eq_some_iff.1 h.2.2).1).trans h.2.2⟩) ?_ ⟨hI0, hL0, hD0⟩).mono ?_
  · rintro pre x W ⟨hi, hl, hd⟩ hsp
    have hsz := (Array.getElem?_eq_some_iff.1 hl).1
    have hy := run_yield (P := P) (args := encs x) hl (by rw [hR]; exact hps x)
    rw [hR] at hy
    refine ⟨fn, _, assign, body, hy, roundIn_of_wpIn hfn (wpIn_mono (hround (w.heap.size + 1) pre x W hsp hi) ?_)⟩
    clear hy
    intro e a' W' hp
    cases e with
    | normal =>
      obtain ⟨hm, hb⟩ := hp
      have hl' := (hm.block _ hsz).trans hl
      have hd' := (hm.block _ (by omega : w.heap.size < W.heap.size)).trans hd
      have hi' := own_under hI hi hm
      have hsz' := (Array.getElem?_eq_some_iff.1 hl').1
      refine ⟨_, run_beginRound hl' (by rw [hR]), wpIn_mono (hb _ (hI.putObj _ hi' (by omega) hl' rfl) ⟨_, hl', rfl⟩) ?_⟩
      have hl2 : (W'.putObj (w.heap.size + 1) (.loop { R .ready none with state := .busy })).heap[w.heap.size + 1]? = some (.loop { R .ready none with state := .busy }) := World.putObj_heap_same hsz'
      have hd2 : (W'.putObj (w.heap.size + 1) (.loop { R .ready none with state := .busy })).heap[w.heap.size]? = some (.deferred (some [])) := (World.putObj_heap_other (by omega)).trans hd'
      intro e2 a2 X hp2
      cases e2 with
      | normal =>
        obtain ⟨hX, hkX, hiX⟩ := hp2
        have hlX := hX.same _ _ (by omega) hl2 rfl
        have hdX := hX.same _ _ (Nat.le_refl _) hd2 rfl
        have hsX := (Array.getElem?_eq_some_iff.1 hlX).1
        have hrun := run_endRound (P := P) none hlX
        simp only [hR] at hrun hlX
        refine ⟨_, _, hrun, rfl, ⟨?_, ?_, ?_⟩, ?_⟩
        · exact hI.putObj _ hiX (by omega) hlX rfl
        · simp only [hR]; exact World.putObj_heap_same hsX
        · exact (World.putObj_heap_other (by omega)).trans hdX
        · exact hKB _ _ _ hm (hKp _ _ _ _ _ (by omega) hkX)
      | ret => exact hp2.elim
      | exit id => exact hp2.elim
      | goto t => exact hp2.elim
      | panic c => exact hp2.elim
      | outgrown => exact hp2.elim
    | ret => exact hp
    | exit id => exact hp
    | goto t => exact hp
    | panic c => exact hp
    | outgrown => exact hp
  · rintro e W ⟨⟨v, rfl⟩, xs, hS, hi, hl, hd⟩
    have hsz := (Array.getElem?_eq_some_iff.1 hl).1
    exact ⟨none, _, by simpa only [hR] using run_endLoop (P := P) hl (by rw [hR]; simp), hdone _ xs _ (Nat.le_refl _) hS (hI.putObj _ hi (by omega) hl rfl) ((World.putObj_heap_other (by omega)).trans hd)⟩
end Go.Proofs.YthjdaehiebcoaaaGreatDoor
