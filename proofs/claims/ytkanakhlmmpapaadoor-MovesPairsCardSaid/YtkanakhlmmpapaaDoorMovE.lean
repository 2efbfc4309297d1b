/- A pair in memory: its block, the slice of what is on its way; and the small walks on it. -/
import Derived.Test.YtkanakhlmmpapaaDoorRows
import Derived.WalkKit
import Derived.WalkSpells
import Derived.WalkLawsBesides
import Derived.BigQuiet
import Derived.Deep.QuietTactic
import Derived.StillTailTactics
import Derived.Handy
import Derived.Lib.Hide
import Derived.Test.YtkanakhlmmpapaaDoorMovD
import Derived.Test.YtkanakhlmmpapaaDoorMovPair
import Derived.Test.YtkanakhlmmpapaaDoorTabL
import Derived.Maps.AppendAt
set_option linter.unusedSimpArgs false
set_option linter.unusedVariables false
namespace Go.Proofs.YtkanakhlmmpapaaDoor
open Go.RowKit

abbrev pairCells (c x : MSeat) (v : Value) : Array Value := #[.int .i64 c.p, .int .i64 c.d, .int .i64 c.s, .int .i64 c.h, .int .i64 x.p, .int .i64 x.d, .int .i64 x.s, .int .i64 x.h, v]
def flV (fl : List (Int × Int)) : List Value := fl.flatMap fun m => [.int .i64 m.1, .int .i64 m.2]
theorem flV_length (fl : List (Int × Int)) : (flV fl).length = fl.length * 2 := by
  unfold flV
  induction fl with
  | nil => rfl
  | cons m t ih => simp only [List.flatMap_cons, List.length_append, List.length_cons, List.length_nil, ih]; omega
theorem flV_append (a b : List (Int × Int)) : flV (a ++ b) = flV a ++ flV b := by unfold flV; exact List.flatMap_append
theorem flV_at (fl : List (Int × Int)) (j : Nat) (h : j < fl.length) : (flV fl)[j * 2]? = some (.int .i64 fl[j].1) ∧ (flV fl)[j * 2 + 1]? = some (.int .i64 fl[j].2) := by
  induction fl generalizing j with
  | nil => simp at h
  | cons m t ih =>
    rw [show flV (m :: t) = .int .i64 m.1 :: .int .i64 m.2 :: flV t from rfl]
    match j with
    | 0 => exact ⟨rfl, rfl⟩
    | j + 1 =>
      have := ih j (by simpa using h)
      rw [show (j + 1) * 2 = j * 2 + 1 + 1 by omega]
      simpa using this

theorem Blk.heap {w w' : World} {b : Nat} {C : Array Value} (h : Blk w b C) (hs : w.heap.size ≤ w'.heap.size) (he : w'.heap[b]? = w.heap[b]?) : Blk w' b C :=
  ⟨Nat.lt_of_lt_of_le h.lt hs, fun i => (World.cell?_of_block (a := ⟨b, i, none⟩) he).trans (h.cell i), fun i => (World.frozen?_of_block (a := ⟨b, i, none⟩) he).trans (h.free i)⟩
theorem Blk.set {w : World} {b : Nat} {C : Array Value} (h : Blk w b C) (i : Nat) (hi : i < C.size) (v : Value) : Blk (w.setCell ⟨b, i, none⟩ v) b (C.set i v hi) := by
  refine ⟨by simpa using h.lt, fun j => ?_, fun j => by rw [World.frozen?_setCell]; exact h.free j⟩
  by_cases hj : j = i
  · subst hj
    have h1 : w.cell? ⟨b, j, none⟩ = some C[j] := by rw [h.cell]; exact Array.getElem?_eq_getElem hi
    rw [World.cell?_setCell_same (h := h1), Array.getElem?_set_self]
  · rw [World.cell?_setCell_other (h := by intro e; injection e with _ e2; exact hj e2.symm), h.cell, Array.getElem?_set_ne]
    exact fun e => hj e.symm
theorem ownsRow_heap {w w' : World} {B : Nat} {e : TypeId} {size : Nat} {v : Value} {n : Nat} {xs : List Value} (h : w.ownsRow B e size v n xs) (he : ∀ k, v.ownBlock = some k → w'.heap[k]? = w.heap[k]?) : w'.ownsRow B e size v n xs := by
  refine ⟨h.1, ?_⟩
  rcases h.2 with hn | ⟨g, cap, cur, rfl, hb, hg, r⟩
  · exact .inl hn
  · exact .inr ⟨g, cap, cur, rfl, hb, (he g rfl).trans hg, r⟩

structure PairIn (B g : Nat) (v : Value) (P : MPair) (w : World) : Prop where
  base : B ≤ g
  blk : Blk w g (pairCells P.c P.x v)
  own : w.ownsRow B 68 2 v P.fl.length (flV P.fl)
  apart : v.ownBlock ≠ some g
/-- nothing but the pair's own blocks has changed -/
structure Beside (w w' : World) (g : Nat) (v : Value) : Prop where
  os : w'.os = w.os
  tape : w'.tape = w.tape
  output : w'.output = w.output
  size : w.heap.size ≤ w'.heap.size
  block : ∀ k, k < w.heap.size → k ≠ g → v.ownBlock ≠ some k → w'.heap[k]? = w.heap[k]?
def FreshOr (w : World) (v v' : Value) : Prop := v'.ownBlock = v.ownBlock ∨ ∃ n, w.heap.size ≤ n ∧ v'.ownBlock = some n
/-- the pair has become P' -/
def PairGoes (B g : Nat) (v : Value) (P' : MPair) (w w' : World) : Prop := ∃ v', PairIn B g v' P' w' ∧ Beside w w' g v ∧ FreshOr w v v'

theorem Beside.of_below {w w' : World} (h : Below w.heap.size w w') (g : Nat) (v : Value) : Beside w w' g v := ⟨h.os, h.tape, h.output, h.size, fun k hk _ _ => h.block k hk⟩
theorem Beside.trans {w w1 w2 : World} {g : Nat} {v v1 : Value} (h1 : Beside w w1 g v) (h2 : Beside w1 w2 g v1) (hv : FreshOr w v v1) : Beside w w2 g v := by
  refine ⟨h2.os.trans h1.os, h2.tape.trans h1.tape, h2.output.trans h1.output, Nat.le_trans h1.size h2.size, fun k hk hg hr => ?_⟩
  refine (h2.block k (Nat.lt_of_lt_of_le hk h1.size) hg ?_).trans (h1.block k hk hg hr)
  rcases hv with hv | ⟨n, hn, hv⟩
  · rw [hv]; exact hr
  · rw [hv]; intro e; injection e with e; omega
theorem FreshOr.trans {w w1 : World} {v v1 v2 : Value} (h1 : FreshOr w v v1) (h2 : FreshOr w1 v1 v2) (hs : w.heap.size ≤ w1.heap.size) : FreshOr w v v2 := by
  rcases h2 with h2 | ⟨n, hn, h2⟩
  · rcases h1 with h1 | ⟨m, hm, h1⟩
    · exact .inl (h2.trans h1)
    · exact .inr ⟨m, hm, h2.trans h1⟩
  · exact .inr ⟨n, by omega, h2⟩
theorem Beside.setCell {w w1 : World} {g : Nat} {v : Value} (h : Beside w w1 g v) (i : Nat) (x : Value) : Beside w (w1.setCell ⟨g, i, none⟩ x) g v :=
  ⟨h.os, h.tape, h.output, by simpa using h.size, fun k hk hg hr => (Below.heap_setCell w1 ⟨g, i, none⟩ x k (fun e => hg e)).trans (h.block k hk hg hr)⟩
theorem PairIn.rel {B g : Nat} {v : Value} {P : MPair} {w w' : World} (h : PairIn B g v P w) (hb : Below w.heap.size w w') : PairIn B g v P w' :=
  ⟨h.base, h.blk.below hb, ownsRow_heap h.own (fun k hk => hb.block k (h.own.lt k hk).2), h.apart⟩
theorem PairIn.other {B g : Nat} {v : Value} {P : MPair} {w w' : World} (h : PairIn B g v P w) (hs : w.heap.size ≤ w'.heap.size) (hg : w'.heap[g]? = w.heap[g]?) (hv : ∀ k, v.ownBlock = some k → w'.heap[k]? = w.heap[k]?) : PairIn B g v P w' :=
  ⟨h.base, h.blk.heap hs hg, ownsRow_heap h.own hv, h.apart⟩
theorem Beside.below {B g : Nat} {v : Value} {P : MPair} {w w' : World} (h : Beside w w' g v) (hP : PairIn B g v P w) : Below B w w' := by
  refine ⟨h.os, h.tape, h.output, h.size, fun k hk => h.block k ?_ ?_ ?_⟩
  · have := hP.blk.lt; have := hP.base; omega
  · have := hP.base; omega
  · intro e; have := (hP.own.lt k e).1; omega
/-- a seat is put in its place -/
def putSeat (w : World) (g o : Nat) (s : MSeat) : World := (((w.setCell ⟨g, o, none⟩ (.int .i64 s.p)).setCell ⟨g, o + 1, none⟩ (.int .i64 s.d)).setCell ⟨g, o + 2, none⟩ (.int .i64 s.s)).setCell ⟨g, o + 3, none⟩ (.int .i64 s.h)
theorem own_setCell {B g : Nat} {v : Value} {fl : List (Int × Int)} {w : World} (h : w.ownsRow B 68 2 v fl.length (flV fl)) (hne : v.ownBlock ≠ some g) (i : Nat) (x : Value) : (w.setCell ⟨g, i, none⟩ x).ownsRow B 68 2 v fl.length (flV fl) :=
  ownsRow_heap h (fun k hk => Below.heap_setCell w ⟨g, i, none⟩ x k (fun e => hne (by rw [hk]; exact congrArg some e)))
theorem PairIn.seat1 {B g : Nat} {v : Value} {P : MPair} {w : World} (h : PairIn B g v P w) (s : MSeat) : PairIn B g v ⟨s, P.x, P.fl⟩ (putSeat w g 0 s) := by
  refine ⟨h.base, ?_, ?_, h.apart⟩
  · exact (((h.blk.set 0 (by simp) (.int .i64 s.p)).set 1 (by simp) (.int .i64 s.d)).set 2 (by simp) (.int .i64 s.s)).set 3 (by simp) (.int .i64 s.h)
  · exact own_setCell (own_setCell (own_setCell (own_setCell h.own h.apart _ _) h.apart _ _) h.apart _ _) h.apart _ _
theorem PairIn.seat2 {B g : Nat} {v : Value} {P : MPair} {w : World} (h : PairIn B g v P w) (s : MSeat) : PairIn B g v ⟨P.c, s, P.fl⟩ (putSeat w g 4 s) := by
  refine ⟨h.base, ?_, ?_, h.apart⟩
  · exact (((h.blk.set 4 (by simp) (.int .i64 s.p)).set 5 (by simp) (.int .i64 s.d)).set 6 (by simp) (.int .i64 s.s)).set 7 (by simp) (.int .i64 s.h)
  · exact own_setCell (own_setCell (own_setCell (own_setCell h.own h.apart _ _) h.apart _ _) h.apart _ _) h.apart _ _
theorem Beside.seat {w w1 : World} {g : Nat} {v : Value} (h : Beside w w1 g v) (o : Nat) (s : MSeat) : Beside w (putSeat w1 g o s) g v :=
  (((h.setCell _ _).setCell _ _).setCell _ _).setCell _ _
theorem Beside.alloc {w w1 : World} {g : Nat} {v : Value} (h : Beside w w1 g v) (o : Obj) : Beside w (w1.alloc o) g v :=
  ⟨h.os, h.tape, h.output, by simp; have := h.size; omega, fun k hk hg hr => by
    rw [← h.block k hk hg hr]
    exact ((Below.refl w1.heap.size w1).alloc (Nat.le_refl _) o).block k (by have := h.size; omega)⟩
theorem Beside.drew {w w1 : World} {g : Nat} {v : Value} (h : Beside w w1 g v) : Beside w w1.drew g v := ⟨h.os, h.tape, h.output, h.size, h.block⟩

set_option maxHeartbeats 400000 in
theorem isSide_of (d : Int) (w : World) : Calls Tryd.prog 33 #[.int .i64 d] w (Gives (.bool (mSide d)) w) := by
  go_enter Tryd.func33, Tryd.ntmps33
  go_wp2
  all_goals (go_ret; refine ⟨ret_bool ?_, rfl⟩; rw [Bool.eq_iff_iff]; simp [mSide]; try omega)

set_option maxHeartbeats 400000 in
theorem full_of (B g : Nat) (v : Value) (P : MPair) (w : World) (h : PairIn B g v P w) (hl : P.fl.length ≤ 1000) : Calls Tryd.prog 35 #[.pointer (some ⟨g, 0, none⟩)] w (Gives (.bool (mFull P)) w) := by
  have a8 : w.cell? ⟨g, 8, none⟩ = some v := h.blk.cell 8
  have hv : ∃ a cap, v = .slice a P.fl.length cap := by
    rcases h.own.2 with ⟨rfl, h0⟩ | ⟨b, cap, cur, rfl, _⟩
    · exact ⟨none, 0, by rw [h0]⟩
    · exact ⟨_, _, rfl⟩
  obtain ⟨a, cap, rfl⟩ := hv
  unfold mFull
  obtain ⟨n, hn⟩ : ∃ n, n = P.fl.length := ⟨_, rfl⟩
  rw [← hn] at hl a8 ⊢
  clear h hn
  go_enter Tryd.func35, Tryd.ntmps35
  go_wp2
  go_ret
  exact ⟨ret_bool (by rw [Bool.eq_iff_iff]; simp; omega), rfl⟩
end Go.Proofs.YtkanakhlmmpapaaDoor
