/- A range over a function whose iterator turns blocks of its own that are no cells (it ranges over another iterator): the loop's law for bodies that go on, having written nothing that was there, or return. -/
import Derived.RangeFuncNested
import Derived.RangeFuncBound
import Derived.RangeFuncCalls
import Derived.RangeFuncLeaves
import Derived.Shelf.Abstract
import Derived.Test.YtkidljiffeonjaaDoorRows
set_option linter.unusedSimpArgs false
set_option linter.unusedVariables false
namespace Go.Proofs.YtkidljiffeonjaaDoor
open Go.RowKit

theorem keeps_up {B B' : Nat} {W W' : World} (h : KeepsFrom B W W') (hB : B ≤ B') : KeepsFrom B' W W' := ⟨h.size, fun k o hk => h.same k o (Nat.le_trans hB hk)⟩
theorem below_keeps {B : Nat} {W W' : World} (h : Below W.heap.size W W') : KeepsFrom B W W' := ⟨h.size, fun k o _ ho _ => (h.block k (Array.getElem?_eq_some_iff.1 ho).1).trans ho⟩
theorem own_up {β : Type} {B B' : Nat} {I : β → World → Prop} (h : OwnFrom B I) (hB : B ≤ B') : OwnFrom B' I := fun s W W' row hs hg hr => h s W W' row hs hg (fun r e => ⟨Nat.le_trans hB (hr r e).1, (hr r e).2⟩)
theorem own_below {β : Type} {B : Nat} {I : β → World → Prop} (h : OwnFrom B I) {s : β} {W W' : World} (hs : I s W) (hb : Below W.heap.size W W') : I s W' :=
  h s W W' none hs ⟨hb.os, hb.tape, hb.output, hb.size, fun k hk _ => hb.block k hk⟩ (fun r e => by cases e)
/-- how a round may be left -/
def inRoundPost {α : Type} (B : Nat) (I Ix : List α → World → Prop) (xs : List α) (W : World) : Exit → Act → World → Prop
  | .normal, _, W' => Below W.heap.size W W' ∧ I xs W'
  | .ret, _, W' => KeepsFrom B W W' ∧ Ix xs W'
  | _, _, _ => False
/-- what an iterator owes: it calls yield at the values of a list, one behind the other, till all have come or a round has said no more -/
def IterOwes {α : Type} (F : Fence) (n : Nat) (P : Program) (g : Nat) (lb : Array Value) (encs : α → Array Value) (S : List α → Prop) (Ok : α → Prop) (w : World) : Prop :=
  ∀ (l : Nat) (J Jx : List α → World → Prop) (W : World), Below w.heap.size w W → OwnFrom W.heap.size J → OwnFrom W.heap.size Jx →
    (∀ pre x W1, J pre W1 → YieldAt F (n - 1) P l (encs x) W1 fun e W' => (e = .returned (.bool true) ∧ J (pre ++ [x]) W' ∧ Below W1.heap.size W1 W') ∨ (e = .returned (.bool false) ∧ Jx (pre ++ [x]) W' ∧ KeepsFrom W.heap.size W1 W')) →
    J [] W → CallsIn F n P g (#[.func (.yield l) #[] #[]] ++ lb) W fun e W' => (∃ v, e = .returned v) ∧ ((∃ xs, S xs ∧ J xs W') ∨ (∃ pre, (∀ x ∈ pre, Ok x) ∧ Jx pre W'))
theorem keeps_put {B : Nat} {W : World} {l : Nat} {o : Obj} (hl : l < B) : KeepsFrom B W (W.putObj l o) :=
  KeepsFrom.of_grownBy (grownBy_putObj' W l o) (fun j e => by cases e; exact hl)
/-- a block that is turned and turned back -/
theorem below_back {W W1 X : World} {l : Nat} {o o1 : Obj} (h1 : Below W.heap.size W W1) (hl : W.heap[l]? = some o) (h2 : Below (W1.putObj l o1).heap.size (W1.putObj l o1) X) : Below W.heap.size W (X.putObj l o) := by
  have hlt := (Array.getElem?_eq_some_iff.1 hl).1
  have hz := h2.size
  rw [World.putObj_size] at hz
  refine ⟨h2.os.trans h1.os, h2.tape.trans h1.tape, h2.output.trans h1.output, by rw [World.putObj_size]; exact Nat.le_trans h1.size hz, fun k hk => ?_⟩
  by_cases e : k = l
  · subst e
    rw [hl]
    exact World.putObj_heap_same (Nat.lt_of_lt_of_le hlt (Nat.le_trans h1.size hz))
  · rw [World.putObj_heap_other e, h2.block k (by rw [World.putObj_size]; exact Nat.lt_of_lt_of_le hk h1.size), World.putObj_heap_other e, h1.block k hk]

set_option maxHeartbeats 1000000 in
/-- the loop's law -/
theorem rangeRet {F : Fence} {n : Nat} {P : Program} {α : Type} {g : Operand} {ps : Array Tmp} {assign body : Code} {Q : Exit → Act → World → Prop} {a : Act} {w : World}
    (hro : F.round = none) (h1 : 1 ≤ n) {gf : Nat} {lb : Array Value} (hg : a.eval g = .func (.func gf) #[] lb) (hFg : F.fn gf) (eg : ∀ args w, (callFunc gf args).run P w = .ok (.enter gf args) w)
    {encs : α → Array Value} {S : List α → Prop} {Ok : α → Prop} (hit : IterOwes F (n - 1) P gf lb encs S Ok w) (hps : ∀ x, (encs x).size = ps.size)
    (I Ix : List α → World → Prop) (hI : OwnFrom w.heap.size I) (hIx : OwnFrom w.heap.size Ix) (h0 : I [] w)
    (hround : ∀ (l : Nat) (pre : List α) (x : α) (W : World), I pre W → assign.wpIn (F.inRound l) (n - 1 - 1) P
      (Exit.then (fun a' W' => Below W.heap.size W W' ∧ ∀ o, I pre (W'.putObj l o) → (∃ q, W'.heap[l]? = some q ∧ q.isCells = false) → body.wpIn (F.inRound l) (n - 1 - 1) P (inRoundPost w.heap.size I Ix (pre ++ [x]) (W'.putObj l o)) a' (W'.putObj l o)) (fun _ _ _ => False))
      { tmps := (ps.zip (encs x)).foldl (fun t (p, v) => t.setIfInBounds p v) a.tmps, defers := [] } W)
    (hdone : ∀ (D : Nat) (xs : List α) (W : World), w.heap.size ≤ D → S xs → I xs W → W.heap[D]? = some (.deferred (some [])) → Q .normal { a with defers := { target := .collected D, args := #[] } :: a.defers } W)
    (hstop : ∀ (D : Nat) (pre : List α) (W : World), w.heap.size ≤ D → (∀ x ∈ pre, Ok x) → Ix pre W → W.heap[D]? = some (.deferred (some [])) → Code.ret.wpIn F n P Q { a with defers := { target := .collected D, args := #[] } :: a.defers } W) :
    (Code.rangeFunc g ps assign body).wpIn F n P Q a w := by
  refine wpIn_rangeFunc (fun fn hfn => ?_)
  -- the loop's record R in its three states; the worlds
  obtain ⟨R, hR⟩ : ∃ R : LoopState → Option Code → Loop, ∀ st pe, R st pe = { state := st, pending := pe, fn, tmps := a.tmps, params := ps, assign, body, defers := w.heap.size } := ⟨_, fun _ _ => rfl⟩
  obtain ⟨W0, hW0⟩ : ∃ W0, W0 = (w.alloc (.deferred (some []))).alloc (.loop (R .ready none)) := ⟨_, rfl⟩
  have hz : W0.heap.size = w.heap.size + 2 := by rw [hW0]; simp
  have hB0 : Below w.heap.size w W0 := by rw [hW0]; exact ((Below.refl _ w).alloc (Nat.le_refl _) _).alloc (by simp) _
  have hL0 : W0.heap[w.heap.size + 1]? = some (.loop (R .ready none)) := by rw [hW0]; simpa using World.alloc_heap_new (w.alloc (.deferred (some []))) (.loop (R .ready none))
  have hD0 : W0.heap[w.heap.size]? = some (.deferred (some [])) := by rw [hW0]; exact (Below.heap_alloc _ _ _ (by simp)).trans (World.alloc_heap_new w _)
  have hI0 : I [] W0 := by rw [hW0]; exact hI.alloc _ (hI.alloc _ h0)
  refine ⟨w.heap.size + 1, [{ target := .collected w.heap.size, args := #[] }], W0, { target := .fn (.func gf) lb, args := #[.func (.yield (w.heap.size + 1)) #[] #[]] }, W0, gf, #[.func (.yield (w.heap.size + 1)) #[] #[]] ++ lb, W0, ?_, ?_, ?_, ?_, fun _ => h1, ?_⟩
  · rw [hro, hW0, hR]; exact run_enterLoop_outer fn a.tmps ps assign body
  · simp only [resolve, hg]; simp [go_sem]
  · intro f' hf'; simp [Target.leads] at hf'; exact hf' ▸ hFg
  · simp [invoke, go_sem, eg]
  -- a turn of a block that lies beyond W0 leaves the two blocks of the loop
  have hold : ∀ {A B : World} {row : Option Nat} {k : Nat} {o : Obj}, A.grownBy B row → (∀ r, row = some r → W0.heap.size ≤ r ∧ ∃ q : Obj, A.heap[r]? = some q ∧ q.isCells = false) → k < w.heap.size + 2 → A.heap[k]? = some o → B.heap[k]? = some o := fun hgr hr hk ho =>
    (hgr.block _ (Array.getElem?_eq_some_iff.1 ho).1 (fun e => by have := (hr _ e.symm).1; omega)).trans ho
  refine (hit (w.heap.size + 1) (fun pre W => I pre W ∧ W.heap[w.heap.size + 1]? = some (.loop (R .ready none)) ∧ W.heap[w.heap.size]? = some (.deferred (some [])))
    (fun pre W => Ix pre W ∧ W.heap[w.heap.size + 1]? = some (.loop (R .done (some .ret))) ∧ W.heap[w.heap.size]? = some (.deferred (some []))) W0 hB0
    (fun s A B row h hgr hr => ⟨own_up hI (by omega) s A B row h.1 hgr hr, hold hgr hr (by omega) h.2.1, hold hgr hr (by omega) h.2.2⟩)
    (fun s A B row h hgr hr => ⟨own_up hIx (by omega) s A B row h.1 hgr hr, hold hgr hr (by omega) h.2.1, hold hgr hr (by omega) h.2.2⟩) ?_ ⟨hI0, hL0, hD0⟩).mono ?_
  · rintro pre x W ⟨hi, hl, hd⟩
    have hsz := (Array.getElem?_eq_some_iff.1 hl).1
    have hy := run_yield (P := P) (args := encs x) hl (by rw [hR]; exact hps x)
    rw [hR] at hy
    refine ⟨fn, _, assign, body, hy, roundIn_of_wpIn hfn (wpIn_mono (hround (w.heap.size + 1) pre x W hi) ?_)⟩
    clear hy
    intro e a' W' hp
    cases e with
    | normal =>
      obtain ⟨hm, hb⟩ := hp
      have hl' := (hm.block _ hsz).trans hl
      have hd' := (hm.block _ (by omega : w.heap.size < W.heap.size)).trans hd
      have hi' := own_below hI hi hm
      have hsz' := (Array.getElem?_eq_some_iff.1 hl').1
      refine ⟨_, run_beginRound hl' (by rw [hR]), wpIn_mono (hb _ (hI.putObj _ hi' (by omega) hl' rfl) ⟨_, hl', rfl⟩) ?_⟩
      have hl2 : (W'.putObj (w.heap.size + 1) (.loop { R .ready none with state := .busy })).heap[w.heap.size + 1]? = some (.loop { R .ready none with state := .busy }) := World.putObj_heap_same hsz'
      have hd2 : (W'.putObj (w.heap.size + 1) (.loop { R .ready none with state := .busy })).heap[w.heap.size]? = some (.deferred (some [])) := (World.putObj_heap_other (by omega)).trans hd'
      have fin : ∀ (jump : Option Code) (X : World), KeepsFrom w.heap.size (W'.putObj (w.heap.size + 1) (.loop { R .ready none with state := .busy })) X →
          (Instr.endRound (w.heap.size + 1) jump).run P X = .ok (.bool jump.isNone) (X.putObj (w.heap.size + 1) (.loop (R (if jump.isNone then .ready else .done) jump))) ∧ X.heap[w.heap.size + 1]? = some (.loop { R .ready none with state := .busy }) ∧
          (X.putObj (w.heap.size + 1) (.loop (R (if jump.isNone then .ready else .done) jump))).heap[w.heap.size + 1]? = some (.loop (R (if jump.isNone then .ready else .done) jump)) ∧
          (X.putObj (w.heap.size + 1) (.loop (R (if jump.isNone then .ready else .done) jump))).heap[w.heap.size]? = some (.deferred (some [])) := fun jump X hX => by
        have hlX := hX.same _ _ (by omega) hl2 rfl
        have hdX := hX.same _ _ (Nat.le_refl _) hd2 rfl
        have hsX := (Array.getElem?_eq_some_iff.1 hlX).1
        have hrun := run_endRound (P := P) jump hlX
        simp only [hR] at hrun hlX ⊢
        exact ⟨hrun, hlX, World.putObj_heap_same hsX, (World.putObj_heap_other (by omega)).trans hdX⟩
      intro e2 a2 X hp2
      cases e2 with
      | normal =>
        obtain ⟨hX, hiX⟩ := hp2
        obtain ⟨f1, f2, f3, f4⟩ := fin none X (below_keeps hX)
        exact ⟨_, _, f1, .inl ⟨rfl, ⟨hI.putObj _ hiX (by omega) f2 rfl, f3, f4⟩, below_back hm hl hX⟩⟩
      | ret =>
        obtain ⟨hX, hiX⟩ := hp2
        obtain ⟨f1, f2, f3, f4⟩ := fin (some .ret) X hX
        exact ⟨_, _, f1, .inr ⟨rfl, ⟨hIx.putObj _ hiX (by omega) f2 rfl, f3, f4⟩, ((below_keeps (B := W0.heap.size) hm).trans (keeps_put (by omega))).trans ((keeps_up hX (by omega)).trans (keeps_put (by omega)))⟩⟩
      | exit id => exact hp2.elim
      | goto t => exact hp2.elim
      | panic c => exact hp2.elim
      | outgrown => exact hp2.elim
    | ret => exact hp
    | exit id => exact hp
    | goto t => exact hp
    | panic c => exact hp
    | outgrown => exact hp
  · rintro e W ⟨⟨v, rfl⟩, (⟨xs, hS, hi, hl, hd⟩ | ⟨pre, hok, hi, hl, hd⟩)⟩
    · have hsz := (Array.getElem?_eq_some_iff.1 hl).1
      exact ⟨none, _, by simpa only [hR] using run_endLoop (P := P) hl (by rw [hR]; simp), hdone _ xs _ (Nat.le_refl _) hS (hI.putObj _ hi (by omega) hl rfl) ((World.putObj_heap_other (by omega)).trans hd)⟩
    · have hsz := (Array.getElem?_eq_some_iff.1 hl).1
      exact ⟨some .ret, _, by simpa only [hR] using run_endLoop (P := P) hl (by rw [hR]; simp), hstop _ pre _ (Nat.le_refl _) hok (hIx.putObj _ hi (by omega) hl rfl) ((World.putObj_heap_other (by omega)).trans hd)⟩
/-- a round wants no depth where the fence has none -/
theorem yield_any {m m' l2 : Nat} {P : Program} {l : Nat} {args : Array Value} {W : World} {R : Ending → World → Prop} (h : YieldAt Fence.wide m P l args W R) : YieldAt (Fence.wide.inRound l2) m' P l args W R := by
  obtain ⟨fn, tmps, assign, body, hy, hF, hr⟩ := h
  exact ⟨fn, tmps, assign, body, hy, hF, fun c cs _ => hr c cs (by simp [Fence.room, Fence.wide])⟩
end Go.Proofs.YtkidljiffeonjaaDoor
