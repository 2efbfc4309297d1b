/- A call of a Go function as one step of a region that draws its order (for go_region_law). -/
import Derived.Test.YtkidljiffeonjaaDoorRows
import Derived.WalkKit
import Derived.WalkSpells
import Derived.WalkLawsBesides
import Derived.BigQuiet
import Derived.Deep.QuietTactic
import Derived.StillTailTactics
import Derived.Handy
import Derived.Lib.Hide
import Derived.Deep.RegionLaw
import Derived.Deep.RegionHeld3
import Derived.Shelf.Abstract
import Derived.Test.YtkidljiffeonjaaDoorTimQM
import Derived.Test.YtkidljiffeonjaaDoorTimOpen
import Derived.Test.YtkidljiffeonjaaDoorLawOrder
import Derived.Deep.Slices
import Derived.ChangeArms
set_option linter.unusedSimpArgs false
set_option linter.unusedVariables false
namespace Go.Proofs.YtkidljiffeonjaaDoor
open Go.RowKit Go.Shelf

theorem step_call {P : Program} {ops : Array Oper} {o : Oper} {a : Act} {w : World} {K : Act → World → Prop} {Q : Exit → Act → World → Prop} {E : Prop}
    (f : Nat) (argsO : Array Operand) (ts : Array TypeId) (args : List Value)
    (hop : o.op = Op.call { callee := Callee.value (Operand.func f), args := argsO, argTypes := ts }) (he : Enters P f)
    (hw : Region.wanted o (yielded ops a.tmps) = true) (hargs : argsO.toList.map a.eval = args)
    (h : Calls P f args.toArray w (fun e w' => ∃ v, e = .returned v ∧ K (a.put o.dst v) w')) :
    if Region.wanted o (yielded ops a.tmps) = true then Oper.wp P o a w K Q else E := by
  rw [if_pos hw]
  have hx : argsO.map a.eval = args.toArray := Array.toList_inj.1 (by rw [Array.toList_map, hargs])
  unfold Oper.wp
  have hrun : (execOp a.eval o).run P w = .ok (.enter f args.toArray) w := by
    have h1 := he args.toArray w
    simp only [execOp, hop, resolve, Act.eval]
    simp [Deferred.ofValue, invoke]
    have hx2 : (Array.map (fun x => match x with
      | Operand.tmp t => a.tmps.getD t undef
      | Operand.const v => v
      | Operand.global g => Value.pointer (some ⟨g, 0, none⟩)
      | Operand.func f => Value.func (.func f) #[] #[]) argsO) = args.toArray := hx
    first
      | rw [hx2]; exact h1
      | (rw [hx]; exact h1)
  rw [hrun, Oper.upon_enter]
  refine h.mono ?_
  rintro e w' ⟨v, rfl, hk⟩
  exact hk
/-- a narrower condition serves -/
theorem wpAnyH_narrow {P : Program} {md : Region.Mode} {ops : Array Oper} {Q : Exit → Act → World → Prop} {S S' : World → Prop} (hS : ∀ w, S' w → S w) :
    ∀ (fuel : Nat) (listed : Array Bool) (a : Act) (w : World), wpAnyH P md ops Q S' fuel listed a w → wpAnyH P md ops Q S fuel listed a w
  | 0, _, _, _, h => h
  | fuel + 1, _, _, _, h => ⟨h.1, fun i hi => wpOp_mono (fun a' w' h' => ⟨hS _ h'.1, wpAnyH_narrow hS fuel _ a' w' h'.2⟩) (h.2 i hi)⟩
/-- one operation alone may come up: a call of a Go function; the condition may grow behind it -/
theorem wpAnyH_call {P : Program} {md : Region.Mode} {ops : Array Oper} {Q : Exit → Act → World → Prop} {S : World → Prop} {fuel : Nat} {listed : Array Bool} {a : Act} {w : World} {oi : Oper} {d : Option Tmp}
    (i : Nat) (f : Nat) (argsO : Array Operand) (ts : Array TypeId) (args : List Value) (hi : ops[i]? = some oi) (hd : oi.dst = d) (hr : Region.ready md ops listed = [i])
    (hop : oi.op = Op.call { callee := Callee.value (Operand.func f), args := argsO, argTypes := ts }) (he : Enters P f)
    (hw : Region.wanted oi (yielded ops a.tmps) = true) (hargs : argsO.toList.map a.eval = args)
    (h : Calls P f args.toArray w (fun e w' => ∃ v, e = .returned v ∧ ∃ S' : World → Prop, (∀ w, S' w → S w) ∧ S' w' ∧ (S' w' → wpAnyH P md ops Q S' fuel (listed.setIfInBounds i true) (a.put d v) w'))) :
    wpAnyH P md ops Q S (fuel + 1) listed a w := by
  refine wpAnyH_all hr (by simp) (fun j hj => ?_)
  obtain rfl : j = i := by simpa using hj
  subst hd
  refine wpOp_step hi (fun K' hK => ?_)
  refine step_call f argsO ts args hop he hw hargs (h.mono ?_)
  rintro e w' ⟨v, rfl, S', h1, h2, h3⟩
  exact ⟨v, rfl, hK _ _ ⟨h1 _ h2, wpAnyH_narrow h1 _ _ _ _ (h3 h2)⟩⟩
/-- two calls may come up, in either order -/
theorem wpAnyH_two {P : Program} {md : Region.Mode} {ops : Array Oper} {Q : Exit → Act → World → Prop} {S : World → Prop} {fuel : Nat} {listed : Array Bool} {a : Act} {w : World}
    (i j : Nat) (hr : Region.ready md ops listed = [i, j])
    (h1 : wpOp P ops Q i (fun a' w' => S w' ∧ wpAnyH P md ops Q S fuel (listed.setIfInBounds i true) a' w') a w)
    (h2 : wpOp P ops Q j (fun a' w' => S w' ∧ wpAnyH P md ops Q S fuel (listed.setIfInBounds j true) a' w') a w) : wpAnyH P md ops Q S (fuel + 1) listed a w := by
  refine wpAnyH_all hr (by simp) (fun k hk => ?_)
  rcases (by simpa using hk : k = i ∨ k = j) with rfl | rfl
  · exact h1
  · exact h2
/-- a call, met by its contract -/
theorem wpOp_call {P : Program} {ops : Array Oper} {Q : Exit → Act → World → Prop} {a : Act} {w : World} {oi : Oper} {d : Option Tmp} {N : Act → World → Prop}
    (i : Nat) (f : Nat) (argsO : Array Operand) (ts : Array TypeId) (args : List Value) (hi : ops[i]? = some oi) (hd : oi.dst = d)
    (hop : oi.op = Op.call { callee := Callee.value (Operand.func f), args := argsO, argTypes := ts }) (he : Enters P f)
    (hw : Region.wanted oi (yielded ops a.tmps) = true) (hargs : argsO.toList.map a.eval = args)
    (h : Calls P f args.toArray w (fun e w' => ∃ v, e = .returned v ∧ N (a.put d v) w')) : wpOp P ops Q i N a w := by
  subst hd
  refine wpOp_step hi (fun K' hK => ?_)
  refine step_call f argsO ts args hop he hw hargs (h.mono ?_)
  rintro e w' ⟨v, rfl, h3⟩
  exact ⟨v, rfl, hK _ _ h3⟩
/-- an operation that is taken first, its slot given -/
theorem wpAnyH_takeAt {P : Program} {md : Region.Mode} {ops : Array Oper} {Q : Exit → Act → World → Prop} {S : World → Prop} {fuel : Nat} {listed : Array Bool} {a : Act} {w : World} {oi : Oper} {d : Option Tmp} {v : Value}
    (i : Nat) (hi : ops[i]? = some oi) (hd : oi.dst = d)
    (hs : Region.noSelect ops = true) (hf : Region.free md ops listed i = true) (hr : (Region.ready md ops listed).contains i = true)
    (hQ : ∀ c a w, Q (.panic c) (a.put oi.dst v) w → Q (.panic c) a w) (hS : S w) (hw : Region.wanted oi (yielded ops a.tmps) = true) (hy : ∀ w, S w → (execOp a.eval oi).run P w = .ok (.value v) w)
    (h : wpAnyH P md ops Q S fuel (listed.setIfInBounds i true) (a.put d v) w) : wpAnyH P md ops Q S (fuel + 1) listed a w := by
  subst hd
  exact wpAnyH_take hi hs hf hr hQ (.inl ⟨hw, hy⟩) hS h
end Go.Proofs.YtkidljiffeonjaaDoor

namespace Go.Proofs.YtkidljiffeonjaaDoor
open Go.RowKit Go.Deep Go.ChangeShapes Go.WideShapes
attribute [local go_sem] store_float

structure TOp where
  kind : Int
  key : ByteArray
  x : Nat
  y : Nat
/-- the four cells of an op -/
def TOpAt (w : World) (b o : Nat) (p : TOp) : Prop := w.cell? ⟨b, o, none⟩ = some (.int .i64 p.kind) ∧ w.cell? ⟨b, o + 1, none⟩ = some (.string p.key) ∧ w.cell? ⟨b, o + 2, none⟩ = some (.float .f64 p.x) ∧ w.cell? ⟨b, o + 3, none⟩ = some (.float .f64 p.y)
def TOpGood (p : TOp) : Prop := p.key.size ≤ maxLen ∧ F64 p.x ∧ F64 p.y
/-- a slice of ops -/
def ReadT (w : World) (v : Value) (ops : List TOp) : Prop := ∃ a cap, v = .slice a ops.length cap ∧ (ops ≠ [] → ∃ b off, a = some ⟨b, off, none⟩ ∧ b < w.heap.size ∧ ∀ i (h : i < ops.length), TOpAt w b (off + i * 4) ops[i])
theorem TOpAt.below {w w' : World} {b o : Nat} {x : TOp} (h : TOpAt w b o x) (hb : Below w.heap.size w w') (hl : b < w.heap.size) : TOpAt w' b o x :=
  ⟨(hb.cell (p := ⟨b, o, none⟩) hl).trans h.1, (hb.cell (p := ⟨b, o + 1, none⟩) hl).trans h.2.1, (hb.cell (p := ⟨b, o + 2, none⟩) hl).trans h.2.2.1, (hb.cell (p := ⟨b, o + 3, none⟩) hl).trans h.2.2.2⟩
theorem ReadT.below {w w' : World} {v : Value} {ops : List TOp} (h : ReadT w v ops) (hb : Below w.heap.size w w') : ReadT w' v ops := by
  obtain ⟨a, cap, rfl, hn⟩ := h
  refine ⟨a, cap, rfl, fun hne => ?_⟩
  obtain ⟨b, off, rfl, hl, ho⟩ := hn hne
  exact ⟨b, off, rfl, Nat.lt_of_lt_of_le hl hb.size, fun i hi => (ho i hi).below hb hl⟩

set_option maxRecDepth 100000 in
theorem open_tops {H : Type} {enc : TypeId × Value → H} {W : World} {a0 : Option Addr} {len cap : Nat} {d : DataW H} {p : List MemPlace} {sp : Nat → Bool} (h : DataW.Trod enc Tryd.prog W 0 sp true 90 (.slice a0 len cap) d p) : ∃ ops, ReadT W (.slice a0 len cap) ops ∧ ∀ o ∈ ops, TOpGood o := by
  obtain ⟨fuel, hf⟩ := h
  rcases open_slice Tryd.underlying90 hf with ⟨hcs, hx⟩ | ⟨a, len', cap', m, n, D, Pl, hcs, hb, hl, hm, hmm, hx, hall⟩
  · simp [Value.cells] at hcs
    obtain ⟨rfl, rfl, rfl⟩ := hcs
    exact ⟨[], ⟨none, 0, rfl, fun h => absurd rfl h⟩, by simp⟩
  · simp [Value.cells] at hcs
    obtain ⟨rfl, rfl, rfl⟩ := hcs
    have hlm : len ≤ m := by rw [hmm]; split <;> omega
    have each : ∀ i, i < len → ∃ o : TOp, (W.cell? (a.add (i * 4)) = some (.int .i64 o.kind) ∧ W.cell? (a.add (i * 4 + 1)) = some (.string o.key) ∧ W.cell? (a.add (i * 4 + 2)) = some (.float .f64 o.x) ∧ W.cell? (a.add (i * 4 + 3)) = some (.float .f64 o.y)) ∧ TOpGood o := by
      intro i hi
      obtain ⟨cs', h1, h2⟩ := hall i (by omega)
      rw [show Tryd.prog.cellsOf 97 = 4 by kernel_rfl] at h1
      obtain ⟨_, hlen, hcell⟩ := World.cells?_some h1
      obtain ⟨xs, k, hk, hxy, _, hxl, hfs⟩ := DataW.trod_struct Tryd.underlying97 h2
      match xs, hxl, cs', hlen with
      | [y0, y1, y2, y3], _, [v0, v1, v2, v3], _ =>
        have g0 := hfs 0 _ rfl
        have g1 := hfs 1 _ rfl
        have g2 := hfs 2 _ rfl
        have g3 := hfs 3 _ rfl
        simp [show Tryd.prog.cellsOf 3 = 1 by kernel_rfl, show Tryd.prog.cellsOf 9 = 1 by kernel_rfl, show Tryd.prog.cellsOf 22 = 1 by kernel_rfl] at g0 g1 g2 g3
        obtain ⟨n0, e0, _⟩ := DataW.trod_int Tryd.underlying3 g0
        obtain ⟨n1, e1, _, s1⟩ := DataW.trod_string Tryd.underlying9 g1
        obtain ⟨n2, e2, f2⟩ := trod_f64 Tryd.underlying22 g2
        obtain ⟨n3, e3, f3⟩ := trod_f64 Tryd.underlying22 g3
        simp only [List.cons.injEq, and_true] at e0
        simp only [List.cons.injEq, and_true] at e1
        subst e0 e1 e2 e3
        have c0 := hcell 0 (by omega)
        have c1 := hcell 1 (by omega)
        have c2 := hcell 2 (by omega)
        have c3 := hcell 3 (by omega)
        rw [add_add] at c0 c1 c2 c3
        exact ⟨⟨n0, n1, n2, n3⟩, ⟨by simpa using c0, by simpa using c1, by simpa using c2, by simpa using c3⟩, s1, f2, f3⟩
    obtain ⟨ops, hlen, hc⟩ := list_of len each
    subst hlen
    refine ⟨ops, ⟨some a, cap, rfl, fun hne => ?_⟩, fun o ho => ?_⟩
    · have h0 : 0 < ops.length := List.length_pos_iff.2 hne
      have hs0 : a.spot = none := by simpa [Addr.add] using World.cell?_spot (hc 0 h0).1.1
      obtain ⟨b, off, spot⟩ := a
      have hsp : spot = none := hs0
      subst hsp
      have hlt := World.block_lt_of_cell? W _ (hc 0 h0).1.1
      refine ⟨b, off, rfl, by simpa [Addr.add] using hlt, fun i hi => ?_⟩
      have := (hc i hi).1
      simp only [Addr.add_lit] at this
      exact this
    · obtain ⟨i, hi, rfl⟩ := List.getElem_of_mem ho
      exact (hc i hi).2

theorem raw_same (x : Nat) (w : World) : Calls Tryd.prog 43 #[flV x, flV x] w (Gives (.bool true) w) := by
  have HR := Lib.hid (fun W => raw_of x W)
  go_enter Tryd.func43, Tryd.ntmps43
  go_wp2_with (go_at_call 85; refine (HR.out _).mono ?_; rintro e w1 ⟨rfl, rfl⟩)
  go_ret
  exact ⟨ret_bool (by simp), rfl⟩

set_option maxHeartbeats 1000000 in
theorem texts_same (ks : List ByteArray) (v1 v2 : Value) (w : World) (h1 : KeyRow w v1 ks) (h2 : KeyRow w v2 ks) (hl : ks.length ≤ 1000) :
    Calls Tryd.prog 44 #[v1, v2] w (Makes (.bool true) w) := by
  obtain ⟨a1, c1, rfl, i1⟩ := h1
  obtain ⟨a2, c2, rfl, i2⟩ := h2
  have I1 := Lib.hid i1; clear i1
  have I2 := Lib.hid i2; clear i2
  obtain ⟨n, hn⟩ : ∃ n, n = ks.length := ⟨_, rfl⟩
  rw [← hn] at hl ⊢
  have HN := Lib.hid hn; clear hn
  have hr : ((n : Int) != n) = false := by simp
  go_enter Tryd.func44, Tryd.ntmps44
  go_wp2_with fail
  go_loopw [13] (fun i wr => ∃ k : Nat, k ≤ n ∧ i = .int .i64 k ∧ Below w.heap.size w wr) (fun i _ => n - (intOf i).toNat)
  case atStart => exact ⟨0, by omega, rfl, Below.refl _ _⟩
  case round =>
    obtain ⟨k, hk, rfl, hB⟩ := hrel
    by_cases hlt : k < n
    · have hlt' : k < ks.length := by rw [← HN.out]; exact hlt
      obtain ⟨g1, e1, d1⟩ := I1.out k hlt'
      obtain ⟨g2, e2, d2⟩ := I2.out k hlt'
      have l1 := World.block_lt_of_cell? w _ d1
      have l2 := World.block_lt_of_cell? w _ d2
      have q1 := (hB.cell l1).trans d1
      have q2 := (hB.cell l2).trans d2
      subst e1 e2
      clear d1 d2 l1 l2
      have hi0 : (0 : Int) ≤ (k : Int) := by omega
      have hi1 : (k : Int) < (n : Int) := by omega
      generalize ks[k] = x at *
      have hx : (x.toList != x.toList) = false := by simp
      go_wp2_with fail
      go_quiet (fail)
      go_wp2_with fail
      go_roundw
      case rel => exact ⟨k + 1, by omega, by go_num, below_then hB (by first | exact (Below.refl _ _).drewN _ | exact ⟨rfl, rfl, rfl, Nat.le_refl _, fun _ _ => rfl⟩)⟩
      case measure => simp [intOf]; omega
    · have hi1 : ¬ (k : Int) < (n : Int) := by omega
      go_wp2_with fail
      go_ret
      exact ⟨rfl, hB⟩

/-- a script that is asked about -/
def LongGives (ops : List TOp) (w : World) (e : Ending) (w' : World) : Prop := ∃ b, e = .returned (.bool b) ∧ (b = false → ops.length ≤ 120 ∧ ∀ o ∈ ops, o.key.size ≤ 50) ∧ Below w.heap.size w w'
set_option maxHeartbeats 1000000 in
theorem long_of (ops : List TOp) (v : Value) (w : World) (hR : ReadT w v ops) : Calls Tryd.prog 41 #[v] w (LongGives ops w) := by
  obtain ⟨a, cap, rfl, hc⟩ := hR
  have HC := Lib.hid hc; clear hc
  obtain ⟨n, hn⟩ : ∃ n, n = ops.length := ⟨_, rfl⟩
  rw [← hn]
  have HN := Lib.hid hn; clear hn
  by_cases hbig : (120 : Int) < (n : Int)
  · go_enter Tryd.func41, Tryd.ntmps41
    go_wp2_with fail
    go_ret
    exact ⟨true, rfl, fun h => (Bool.noConfusion h), by go_grown⟩
  go_enter Tryd.func41, Tryd.ntmps41
  go_wp2_with fail
  go_loopw [10] (fun i wr => ∃ k : Nat, k ≤ n ∧ i = .int .i64 k ∧ Hid (∀ j (h : j < ops.length), j < k → ops[j].key.size ≤ 50) ∧ Below w.heap.size w wr) (fun i _ => n - (intOf i).toNat)
  case atStart => exact ⟨0, by omega, rfl, Lib.hid (fun j _ h => absurd h (by omega)), Below.refl _ _⟩
  case round =>
    obtain ⟨k, hk, rfl, HF, hB⟩ := hrel
    have hzB := hB.size
    by_cases hlt : k < n
    · have hlt' : k < ops.length := by rw [← HN.out]; exact hlt
      obtain ⟨b, off, rfl, hbl, hops⟩ := HC.out (by intro e; rw [e] at hlt'; simp at hlt')
      have hoa := (hops k hlt').below hB hbl
      obtain ⟨a0, a1, a2, a3⟩ := hoa
      have hki : (k : Int) < (n : Int) := by omega
      have hk0 : (0 : Int) ≤ (k : Int) := by omega
      by_cases hsz : ops[k].key.size ≤ 50
      · have hs : ¬ (50 : Int) < (ops[k].key.size : Int) := by omega
        have HF2 : Hid (∀ j (h : j < ops.length), j < k + 1 → ops[j].key.size ≤ 50) := Lib.hid (fun j hj hjk => by
          rcases Nat.lt_succ_iff_lt_or_eq.1 hjk with h1 | h1
          · exact HF.out j hj h1
          · subst h1; exact hsz)
        clear hops hsz
        generalize ops[k] = o at *
        obtain ⟨kd, key, x, y⟩ := o
        dsimp only at a0 a1 a2 a3 hs
        go_wp2_with fail
        go_roundw
        case rel => exact ⟨k + 1, by omega, by go_num, HF2, below_then hB (by go_grown)⟩
        case measure => simp [intOf]; omega
      · have hs : (50 : Int) < (ops[k].key.size : Int) := by omega
        clear hops hsz
        generalize ops[k] = o at *
        obtain ⟨kd, key, x, y⟩ := o
        dsimp only at a0 a1 a2 a3 hs
        go_wp2_with fail
        go_ret
        exact ⟨true, rfl, fun h => (Bool.noConfusion h), below_then hB (by go_grown)⟩
    · obtain rfl : k = n := by omega
      have hi1 : ¬ (k : Int) < (k : Int) := by omega
      go_wp2_with fail
      go_ret
      refine ⟨false, rfl, fun _ => ⟨by rw [← HN.out]; omega, fun o ho => ?_⟩, hB⟩
      obtain ⟨i, hi, rfl⟩ := List.getElem_of_mem ho
      exact HF.out i hi (by rw [HN.out]; exact hi)
end Go.Proofs.YtkidljiffeonjaaDoor
