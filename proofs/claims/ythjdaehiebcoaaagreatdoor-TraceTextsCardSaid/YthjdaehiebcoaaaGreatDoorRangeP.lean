/- A range over an iterator that keeps a variable of its own in a cell (strings.Lines); rounds go on or panic; the law is for one function's activation. -/
import Derived.RangeFuncNested
import Derived.RangeFuncBound
import Derived.RangeFuncCalls
import Derived.RangeFuncLeaves
import Derived.Shelf.Abstract
import Derived.Test.YthjdaehiebcoaaaGreatDoorBlk
set_option linter.unusedSimpArgs false
set_option linter.unusedVariables false
namespace Go.Proofs.YthjdaehiebcoaaaGreatDoor
open Go.RowKit

def roundPostP (P : Program) (l : Nat) (R : Ending → World → Prop) : Exit → Act → World → Prop
  | .normal, _, w => ∃ v w', (Instr.endRound l none).run P w = .ok v w' ∧ R (.returned v) w'
  | .panic c, a, w => a.defers = [] ∧ R (.panicked c) w
  | _, _, _ => False
/-- a round that goes on or panics -/
theorem roundIn_panics {n : Nat} {P : Program} {l : Nat} {f : FuncId} {fn0 : Func} {tmps : Array Value} {assign body : Code} {w : World} {R : Ending → World → Prop} (hf : P.funcs[f]? = some fn0)
    (h : assign.wpIn (Fence.wide.inRound l) n P (Exit.then (fun a₁ w₁ => ∃ w₂, (Instr.beginRound l).run P w₁ = .ok () w₂ ∧ body.wpIn (Fence.wide.inRound l) n P (roundPostP P l R) a₁ w₂) (fun _ _ _ => False)) { tmps := tmps, defers := [] } w) :
    RoundIn Fence.wide n P l f tmps assign body w R := by
  refine ⟨trivial, fun c cs hr => ?_⟩
  let b : Frame := { (default : Frame) with fn := f, kind := .normal, roundOf := some l }
  have hb0 : Frame.round l f tmps assign body .normal = b.atR { tmps := tmps, defers := [] } [.code assign, .beginRound, .code body] := by
    simp [Frame.round, Frame.atR, b]
  have hr' : (Fence.wide.inRound l).room ((c :: cs).length + 1 + n) := hr
  have hF' : (Fence.wide.inRound l).fn b.fn := trivial
  obtain ⟨e, a₁, w₁, hq, harr⟩ := h b [.beginRound, .code body] (c :: cs) rfl hF' hr'
  rw [← hb0] at harr
  cases e with
  | normal =>
    obtain ⟨w₂, hbr, hbody⟩ := hq
    have s1 : StepsIn (Machine.fenced P (Fence.wide.inRound l)) P (lone (b.atR a₁ [.beginRound, .code body]) (c :: cs) w₁) (lone (b.atR a₁ [.code body]) (c :: cs) w₂) :=
      .one (fenced_calm (fr := b.atR a₁ [.beginRound, .code body]) hF' hr' rfl) (stepR_beginRound rfl hbr)
    obtain ⟨e₂, a₂, w₃, hq₂, harr₂⟩ := hbody b [] (c :: cs) rfl hF' hr'
    cases e₂ with
    | normal =>
      obtain ⟨v, w₄, hend, hR⟩ := hq₂
      exact ⟨.returned v, w₄, hR, (StepsIn.trans harr s1).trans (StepsIn.trans harr₂ (.one (fenced_calm (fr := b.atR a₂ []) hF' hr' rfl) (stepR_round_end rfl rfl hend)))⟩
    | panic chain =>
      obtain ⟨hd, hR⟩ := hq₂
      obtain ⟨todo, hs⟩ := harr₂
      have hleave : Frame.leaving P { b.atR a₂ todo with mode := .panicking chain } w₃ (.panicked chain) := ⟨rfl, hd, fn0, hf⟩
      exact ⟨.panicked chain, w₃, hR, (StepsIn.trans harr s1).trans (StepsIn.trans hs (.one (fenced_leaving (fr := { b.atR a₂ todo with mode := .panicking chain }) (F := Fence.wide.inRound l) trivial hr' hleave) (step_leave_panicked hleave)))⟩
    | ret => exact hq₂.elim
    | exit id => exact hq₂.elim
    | goto t => exact hq₂.elim
    | outgrown => exact hq₂.elim
  | exit id => exact hq.elim
  | goto t => exact hq.elim
  | ret => exact hq.elim
  | panic chain => exact hq.elim
  | outgrown => exact hq.elim
/-- code walked in one function's activation -/
def AtFn (f0 : FuncId) (n : Nat) (P : Program) (c : Code) (Q : Exit → Act → World → Prop) (a : Act) (w : World) : Prop :=
  ∀ (b : Frame) (k : List Item) (cs : List Frame), b.roundOf = none → b.fn = f0 → ∃ e a' w', Q e a' w' ∧ ArrivesIn (Machine.fenced P Fence.wide) P (lone (b.atR a (.code c :: k)) cs w) b k cs e a' w'
section
variable {f0 : FuncId} {n : Nat} {P : Program} {Q : Exit → Act → World → Prop} {a : Act} {w : World}
theorem at_of_wp {c : Code} (h : c.wpIn Fence.wide n P Q a w) : AtFn f0 n P c Q a w := fun b k cs hro _ => h b k cs hro trivial (room_wide _)
theorem at_seq {x y : Code} (h : AtFn f0 n P x (Exit.then (AtFn f0 n P y Q) Q) a w) : AtFn f0 n P (Code.seq x y) Q a w := by
  intro b k cs hro hb
  have hr : Fence.wide.room (cs.length + 1 + n) := room_wide _
  have h0 : (lone (b.atR a (.code (.seq x y) :: k)) cs w).fenced P Fence.wide := fenced_calm (n := n) trivial hr rfl
  obtain ⟨e, a₁, w₁, hq, harr⟩ := h b (.code y :: k) cs hro hb
  cases e with
  | normal =>
    obtain ⟨e₂, a₂, w₂, hq₂, harr₂⟩ := hq b k cs hro hb
    exact ⟨e₂, a₂, w₂, hq₂, .of_steps (.head h0 stepR_seq harr) harr₂⟩
  | exit id => exact ⟨_, a₁, w₁, hq, .of_steps (.one h0 stepR_seq) (.pass (x := .code y) rfl (fun _ _ => .inl (by simp)) harr)⟩
  | goto l => exact ⟨_, a₁, w₁, hq, .of_steps (.one h0 stepR_seq) (.pass (x := .code y) rfl (fun _ _ => .inl (by simp)) harr)⟩
  | ret => exact ⟨_, a₁, w₁, hq, .of_steps (.one h0 stepR_seq) (.pass (x := .code y) rfl (fun _ _ => .inl (by simp)) harr)⟩
  | panic ch => exact ⟨_, a₁, w₁, hq, .of_steps (.one h0 stepR_seq) (.pass (x := .code y) rfl (fun _ _ => .inl (by simp)) harr)⟩
  | outgrown => exact ⟨_, a₁, w₁, hq, .of_steps (.one h0 stepR_seq) (.pass (x := .code y) rfl (fun _ _ => .inl (by simp)) harr)⟩
theorem at_seq_k {x y : Code} (h : ∀ K : Act → World → Prop, (∀ a w, AtFn f0 n P y Q a w → K a w) → AtFn f0 n P x (Exit.then K Q) a w) : AtFn f0 n P (Code.seq x y) Q a w := at_seq (h _ fun _ _ h => h)
theorem at_block {id : Nat} {c : Code} (h : AtFn f0 n P c (Exit.inBlock id Q) a w) : AtFn f0 n P (Code.block id c) Q a w := by
  intro b k cs hro hb
  have hr : Fence.wide.room (cs.length + 1 + n) := room_wide _
  have h0 : (lone (b.atR a (.code (.block id c) :: k)) cs w).fenced P Fence.wide := fenced_calm (n := n) trivial hr rfl
  obtain ⟨e, a₁, w₁, hq, harr⟩ := h b (.inBlock id :: k) cs hro hb
  cases e with
  | normal => exact ⟨.normal, a₁, w₁, hq, .head h0 stepR_block (StepsIn.trans harr (.one (fenced_calm (n := n) trivial hr rfl) stepR_inBlock))⟩
  | exit id' =>
    by_cases hid : id' = id
    · simp only [Exit.inBlock, hid, if_true] at hq
      exact ⟨.normal, a₁, w₁, hq, .head h0 stepR_block (harr.1 k (by simp [exitTo, hid]))⟩
    · simp only [Exit.inBlock, hid, if_false] at hq
      have this : (id == id') = false := by simp; exact fun h => hid h.symm
      have hx : exitTo id' (.inBlock id :: k) = exitTo id' k := by simp [exitTo, this]
      exact ⟨.exit id', a₁, w₁, hq, fun k' hk => .head h0 stepR_block (harr.1 k' (by rw [hx]; exact hk)),
        fun hr' hk => let ⟨k₁, h1, h2⟩ := harr.2 hr' (by rw [hx]; exact hk); ⟨k₁, h1, .head h0 stepR_block h2⟩⟩
  | goto l =>
    have hx : gotoIn l (.inBlock id :: k) = gotoIn l k := by simp [gotoIn]
    exact ⟨_, a₁, w₁, hq, fun k' hk => .head h0 stepR_block (harr.1 k' (by rw [hx]; exact hk)),
      fun hr' hk => let ⟨k₁, h1, h2⟩ := harr.2 hr' (by rw [hx]; exact hk); ⟨k₁, h1, .head h0 stepR_block h2⟩⟩
  | ret => exact ⟨_, a₁, w₁, hq, .of_steps (.one h0 stepR_block) harr⟩
  | panic ch => exact ⟨_, a₁, w₁, hq, .of_steps (.one h0 stepR_block) harr⟩
  | outgrown => exact ⟨_, a₁, w₁, hq, .of_steps (.one h0 stepR_block) harr⟩
/-- a function whose body is walked so -/
theorem calls_of_at {fn : Func} {c : Code} {args : Array Value} {R : Ending → World → Prop} (hf : P.funcs[f0]? = some fn) (hb : fn.body = some c)
    (h : AtFn f0 n P c (bodyPostM Fence.wide n P fn R) { tmps := args ++ Array.replicate (fn.ntmps - args.size) undef, defers := [] } w) : CallsIn Fence.wide n P f0 args w R := by
  refine ⟨trivial, fun cs hr => ?_⟩
  let b : Frame := { (default : Frame) with fn := f0, kind := .normal, roundOf := none }
  have henter : Frame.enter P f0 args .normal =
      b.atR { tmps := args ++ Array.replicate (fn.ntmps - args.size) undef, defers := [] } [.code c] := by
    simp [Frame.enter, Frame.atR, hf, hb, b]
  have hF : Fence.wide.fn f0 := trivial
  obtain ⟨e, a', w', hq, harr⟩ := h b [] cs rfl rfl
  rw [← henter] at harr
  cases e with
  | normal =>
    obtain ⟨e', w'', fr', hR, hs, hfn, hl⟩ := leaves_stepsInM a'.defers .returning w' { b.atR a' [] with mode := .returning } cs rfl rfl rfl hf rfl hF hr hq
    exact ⟨e', w'', fr', hR, ComesIn.of_steps (StepsIn.trans harr (.one (fenced_calm (fr := b.atR a' []) hF hr rfl) (stepR_end rfl))) hs, hfn, hl⟩
  | ret =>
    obtain ⟨todo, hs₀⟩ := harr.1 rfl
    obtain ⟨e', w'', fr', hR, hs, hfn, hl⟩ := leaves_stepsInM a'.defers .returning w' { b.atR a' todo with mode := .returning } cs rfl rfl rfl hf rfl hF hr hq
    exact ⟨e', w'', fr', hR, ComesIn.of_steps hs₀ hs, hfn, hl⟩
  | panic chain =>
    obtain ⟨todo, hs₀⟩ := harr
    obtain ⟨e', w'', fr', hR, hs, hfn, hl⟩ := leaves_stepsInM a'.defers (.panicking chain) w' { b.atR a' todo with mode := .panicking chain } cs rfl rfl rfl hf rfl hF hr hq
    exact ⟨e', w'', fr', hR, ComesIn.of_steps hs₀ hs, hfn, hl⟩
  | exit id => exact hq.elim
  | goto l => exact hq.elim
  | outgrown => exact ⟨.outgrown, w', b, hq, harr.resolve_left (by simp [b]), rfl, trivial⟩
theorem at_rangeFunc {g : Operand} {ps : Array Tmp} {assign body : Code}
    (h : ∃ (l : Nat) (mark : List Deferred) (w₁ : World) (d : Deferred) (w₁' : World) (f : FuncId) (args : Array Value) (w₂ : World),
      (Instr.enterLoop f0 a.tmps ps assign body none).run P w = .ok (l, mark) w₁ ∧
      (resolve a.eval (rangeCall g l) 0).run P w₁ = .ok d w₁' ∧
      (invoke d.target d.args).run P w₁' = .ok (.enter f args) w₂ ∧
      CallsIn Fence.wide (n - 1) P f args w₂ (rangePost Fence.wide n P l Q { a with defers := mark ++ a.defers })) :
    AtFn f0 n P (Code.rangeFunc g ps assign body) Q a w := by
  intro b k cs hro hb
  obtain ⟨l, mark, w₁, d, w₁', f, args, w₂, he, hres, hinv, hF, hcall⟩ := h
  rw [← hro, ← hb] at he
  have hr : Fence.wide.room (cs.length + 1 + n) := room_wide _
  have h0 : (lone (b.atR a (.code (.rangeFunc g ps assign body) :: k)) cs w).fenced P Fence.wide :=
    fenced_lone (.inl trivial) (fun f' hf' => trivial) (room_wide _)
  have henter := stepR_rangeFunc (P := P) (b := b) (a := a) (k := k) (cs := cs) (w := w) he hres hinv
  have hroom : Fence.wide.room ((b.atR { a with defers := mark ++ a.defers } (.inRangeFunc l :: k) :: cs).length + 1 + (n - 1)) := room_wide _
  obtain ⟨e, w₃, fr, hR, hsteps, hfn, hleave⟩ := hcall (b.atR { a with defers := mark ++ a.defers } (.inRangeFunc l :: k) :: cs) hroom
  cases e with
  | outgrown =>
    obtain ⟨a₀, w₀, hq⟩ := hR
    exact ⟨.outgrown, a₀, w₀, hq, .inr (Outgrown.of_steps (.one henter) hsteps)⟩
  | returned v =>
    have hl : (lone fr (b.atR { a with defers := mark ++ a.defers } (.inRangeFunc l :: k) :: cs) w₃).fenced P Fence.wide := fenced_leaving (hfn ▸ hF) hroom hleave
    obtain ⟨jump, w₄, hend, hj⟩ := hR
    have sback : StepsIn (Machine.fenced P Fence.wide) P (lone (b.atR a (.code (.rangeFunc g ps assign body) :: k)) cs w) (lone (b.atR { a with defers := mark ++ a.defers } ((jump.map Item.code).toList ++ k)) cs w₄) := by
      refine .head h0 henter (StepsIn.trans hsteps (.head hl ?_ (.one (fenced_calm (n := n) (fr := b.atR { a with defers := mark ++ a.defers } (.endRangeFunc l :: k)) trivial hr rfl) (stepR_endRangeFunc hend))))
      rw [← finish_atR_inRangeFunc l v]; exact step_leave_returned hleave
    cases jump with
    | none => exact ⟨.normal, _, w₄, hj, sback⟩
    | some c =>
      obtain ⟨e', a'', w₅, hq, harr⟩ := hj b k cs hro trivial hr
      exact ⟨e', a'', w₅, hq, .of_steps sback harr⟩
  | panicked chain =>
    have hl : (lone fr (b.atR { a with defers := mark ++ a.defers } (.inRangeFunc l :: k) :: cs) w₃).fenced P Fence.wide := fenced_leaving (hfn ▸ hF) hroom hleave
    refine ⟨.panic chain, _, w₃, hR, .inRangeFunc l :: k, .head h0 henter (StepsIn.trans hsteps (.one hl ?_))⟩
    rw [← Frame.raise_atR]; exact step_leave_panicked hleave
end
theorem Blk.heap {w w' : World} {b : Nat} {C : Array Value} (h : Blk w b C) (hz : w.heap.size ≤ w'.heap.size) (he : w'.heap[b]? = w.heap[b]?) : Blk w' b C :=
  ⟨Nat.lt_of_lt_of_le h.lt hz, fun i => (World.cell?_of_block (w := w) (a := ⟨b, i, none⟩) he).trans (h.cell i), fun i => (World.frozen?_of_block (w := w) (a := ⟨b, i, none⟩) he).trans (h.free i)⟩
theorem Blk.putObj {w : World} {b : Nat} {C : Array Value} (h : Blk w b C) {l : Nat} (hl : l ≠ b) (o : Obj) : Blk (w.putObj l o) b C :=
  h.heap (by rw [World.putObj_size]; exact Nat.le_refl _) (World.putObj_heap_other (fun e => hl e.symm))
/-- how a round is left -/
def inRoundP {α : Type} (B sb : Nat) (I : List α → World → Prop) (Ip : List α → List PanicEntry → World → Prop) (xs : List α) (W : World) : Exit → Act → World → Prop
  | .normal, _, X => KeepsFrom B W X ∧ (∀ C, Blk W sb C → Blk X sb C) ∧ I xs X
  | .panic c, a, X => a.defers = [] ∧ KeepsFrom B W X ∧ Ip xs c X
  | _, _, _ => False
set_option maxHeartbeats 1000000 in
/-- the loop's law -/
theorem rangeP {f0 : FuncId} {n : Nat} {P : Program} {fn0 : Func} (hf0 : P.funcs[f0]? = some fn0) {α : Type} {g : Operand} {ps : Array Tmp} {assign body : Code} {Q : Exit → Act → World → Prop} {a : Act} {w : World}
    {gf : Nat} {lb : Array Value} (hg : a.eval g = .func (.func gf) #[] lb) (eg : ∀ args w, (callFunc gf args).run P w = .ok (.enter gf args) w)
    {encs : α → Array Value} {S Sp : List α → Prop} (sb : Nat) (hsb : sb < w.heap.size) (C0 : Array Value) (hC0 : Blk w sb C0) (Tn : World → World → Prop)
    (hTn : ∀ A B, Tn A B → KeepsFrom w.heap.size A B)
    (hit : ∀ (l : Nat) (J : List α → World → Prop) (Jp : List α → List PanicEntry → World → Prop) (W : World), (∀ pre A B, J pre A → Tn A B → J pre B) → Blk W sb C0 →
      (∀ pre x W1, J pre W1 → Sp (pre ++ [x]) → YieldAt Fence.wide (n - 1 - 1) P l (encs x) W1 fun e W' => (e = .returned (.bool true) ∧ J (pre ++ [x]) W' ∧ ∀ C, Blk W1 sb C → Blk W' sb C) ∨ (∃ c, e = .panicked c ∧ Jp (pre ++ [x]) c W')) →
      J [] W → CallsIn Fence.wide (n - 1) P gf (#[.func (.yield l) #[] #[]] ++ lb) W fun e W' => (∃ v, e = .returned v ∧ ∃ xs, S xs ∧ J xs W') ∨ ∃ c pre, e = .panicked c ∧ Sp pre ∧ Jp pre c W')
    (hps : ∀ x, (encs x).size = ps.size)
    (I : List α → World → Prop) (Ip : List α → List PanicEntry → World → Prop) (hI : OwnFrom w.heap.size I) (hIT : ∀ pre A B, I pre A → Tn A B → I pre B) (h0 : I [] w)
    (hround : ∀ (l : Nat) (pre : List α) (x : α) (W : World), Sp (pre ++ [x]) → I pre W → assign.wpIn (Fence.wide.inRound l) (n - 1 - 1) P
      (Exit.then (fun a' W' => W' = W ∧ ∀ o, I pre (W.putObj l o) → body.wpIn (Fence.wide.inRound l) (n - 1 - 1) P (inRoundP w.heap.size sb I Ip (pre ++ [x]) (W.putObj l o)) a' (W.putObj l o)) (fun _ _ _ => False))
      { tmps := (ps.zip (encs x)).foldl (fun t (p, v) => t.setIfInBounds p v) a.tmps, defers := [] } W)
    (hdone : ∀ (D : Nat) (xs : List α) (W : World), w.heap.size ≤ D → S xs → I xs W → W.heap[D]? = some (.deferred (some [])) → Q .normal { a with defers := { target := .collected D, args := #[] } :: a.defers } W)
    (hpan : ∀ (D : Nat) (c : List PanicEntry) (pre : List α) (W : World), w.heap.size ≤ D → Sp pre → Ip pre c W → W.heap[D]? = some (.deferred (some [])) → Q (.panic c) { a with defers := { target := .collected D, args := #[] } :: a.defers } W) :
    AtFn f0 n P (Code.rangeFunc g ps assign body) Q a w := by
  refine at_rangeFunc ?_
  obtain ⟨R, hR⟩ : ∃ R : LoopState → Option Code → Loop, ∀ st pe, R st pe = { state := st, pending := pe, fn := f0, tmps := a.tmps, params := ps, assign, body, defers := w.heap.size } := ⟨_, fun _ _ => rfl⟩
  obtain ⟨W0, hW0⟩ : ∃ W0, W0 = (w.alloc (.deferred (some []))).alloc (.loop (R .ready none)) := ⟨_, rfl⟩
  have hz : W0.heap.size = w.heap.size + 2 := by rw [hW0]; simp
  have hB0 : Below w.heap.size w W0 := by rw [hW0]; exact ((Below.refl _ w).alloc (Nat.le_refl _) _).alloc (by simp) _
  have hL0 : W0.heap[w.heap.size + 1]? = some (.loop (R .ready none)) := by rw [hW0]; simpa using World.alloc_heap_new (w.alloc (.deferred (some []))) (.loop (R .ready none))
  have hD0 : W0.heap[w.heap.size]? = some (.deferred (some [])) := by rw [hW0]; exact (Below.heap_alloc _ _ _ (by simp)).trans (World.alloc_heap_new w _)
  have hI0 : I [] W0 := by rw [hW0]; exact hI.alloc _ (hI.alloc _ h0)
  have hS0 : Blk W0 sb C0 := hC0.below hB0
  refine ⟨w.heap.size + 1, [{ target := .collected w.heap.size, args := #[] }], W0, { target := .fn (.func gf) lb, args := #[.func (.yield (w.heap.size + 1)) #[] #[]] }, W0, gf, #[.func (.yield (w.heap.size + 1)) #[] #[]] ++ lb, W0, ?_, ?_, ?_, ?_⟩
  · rw [hW0, hR]; exact run_enterLoop_outer f0 a.tmps ps assign body
  · simp only [resolve, hg]; simp [go_sem]
  · simp [invoke, go_sem, eg]
  refine (hit (w.heap.size + 1) (fun pre W => I pre W ∧ W.heap[w.heap.size + 1]? = some (.loop (R .ready none)) ∧ W.heap[w.heap.size]? = some (.deferred (some [])))
    (fun pre c W => Ip pre c W ∧ W.heap[w.heap.size]? = some (.deferred (some []))) W0 (fun pre A B h hT => ⟨hIT pre A B h.1 hT, (hTn A B hT).same _ _ (by omega) h.2.1 rfl, (hTn A B hT).same _ _ (Nat.le_refl _) h.2.2 rfl⟩) hS0 ?_ ⟨hI0, hL0, hD0⟩).mono ?_
  · rintro pre x W ⟨hi, hl, hd⟩ hsp
    have hsz := (Array.getElem?_eq_some_iff.1 hl).1
    have hy := run_yield (P := P) (args := encs x) hl (by rw [hR]; exact hps x)
    rw [hR] at hy
    refine ⟨f0, _, assign, body, hy, roundIn_panics hf0 (wpIn_mono (hround (w.heap.size + 1) pre x W hsp hi) ?_)⟩
    clear hy
    intro e a' W' hp
    cases e with
    | normal =>
      obtain ⟨rfl, hb⟩ := hp
      have hi' : I pre (W'.putObj (w.heap.size + 1) (.loop { R .ready none with state := .busy })) := hI.putObj _ hi (by omega) hl rfl
      refine ⟨_, run_beginRound hl (by rw [hR]), wpIn_mono (hb _ hi') ?_⟩
      have hl2 : (W'.putObj (w.heap.size + 1) (.loop { R .ready none with state := .busy })).heap[w.heap.size + 1]? = some (.loop { R .ready none with state := .busy }) := World.putObj_heap_same hsz
      have hd2 : (W'.putObj (w.heap.size + 1) (.loop { R .ready none with state := .busy })).heap[w.heap.size]? = some (.deferred (some [])) := (World.putObj_heap_other (by omega)).trans hd
      intro e2 a2 X hp2
      cases e2 with
      | normal =>
        obtain ⟨hX, hkX, hiX⟩ := hp2
        have hlX := hX.same _ _ (by omega) hl2 rfl
        have hdX := hX.same _ _ (Nat.le_refl _) hd2 rfl
        have hsX := (Array.getElem?_eq_some_iff.1 hlX).1
        have hrun := run_endRound (P := P) none hlX
        simp only [hR] at hrun hlX
        refine ⟨_, _, hrun, .inl ⟨rfl, ⟨?_, ?_, ?_⟩, fun C hC => ?_⟩⟩
        · exact hI.putObj _ hiX (by omega) hlX rfl
        · simp only [hR]; exact World.putObj_heap_same hsX
        · exact (World.putObj_heap_other (by omega)).trans hdX
        · exact (hkX C (hC.putObj (by omega) _)).putObj (by omega) _
      | panic c =>
        obtain ⟨hdf, hX, hiX⟩ := hp2
        exact ⟨hdf, .inr ⟨c, rfl, hiX, hX.same _ _ (Nat.le_refl _) hd2 rfl⟩⟩
      | ret => exact hp2.elim
      | exit id => exact hp2.elim
      | goto t => exact hp2.elim
      | outgrown => exact hp2.elim
    | ret => exact hp
    | exit id => exact hp
    | goto t => exact hp
    | panic c => exact hp
    | outgrown => exact hp
  · rintro e W (⟨v, rfl, xs, hS, hi, hl, hd⟩ | ⟨c, pre, rfl, hsp, hp, hd⟩)
    · have hsz := (Array.getElem?_eq_some_iff.1 hl).1
      exact ⟨none, _, by simpa only [hR] using run_endLoop (P := P) hl (by rw [hR]; simp), hdone _ xs _ (Nat.le_refl _) hS (hI.putObj _ hi (by omega) hl rfl) ((World.putObj_heap_other (by omega)).trans hd)⟩
    · exact hpan _ c pre _ (Nat.le_refl _) hsp hp hd
end Go.Proofs.YthjdaehiebcoaaaGreatDoor
