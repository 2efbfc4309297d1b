/- The chapter's example of package verdict; rows of registrations that grow. -/
import Derived.Test.YtkidljiffeonjaaDoorRows
import Derived.WalkKit
import Derived.WalkSpells
import Derived.WalkLawsBesides
import Derived.BigQuiet
import Derived.Deep.QuietTactic
import Derived.StillTailTactics
import Derived.Handy
import Derived.Lib.Hide
import Derived.Test.YtkidljiffeonjaaDoorVerE
import Derived.Test.YtkidljiffeonjaaDoorVerR
import Derived.Deep.AppendLies
set_option linter.unusedSimpArgs false
set_option linter.unusedVariables false
namespace Go.Proofs.YtkidljiffeonjaaDoor
open Go.RowKit

theorem store_float {P : Program} {w : World} {a : Addr} {m : Mode} (k : FloatKind) (x : Nat) : (store a (.float k x) m).run P w = stored P w a (.float k x) m := run_store P w a _ m rfl
attribute [local go_sem] store_float

set_option maxRecDepth 100000 in
set_option maxHeartbeats 2000000 in
theorem alive18 (w : World) : Calls Tryd.prog 16 #[] w (Makes (.bool true) w) := by
  have fld : ∀ (a b c d e f g : Value) (w : World), (Instr.field 59 (.agg #[a, b, c, d, e, f, g]) 3).run Tryd.prog w = .ok d w := fun a b c d e f g w => by kernel_rfl
  obtain ⟨ss, hss⟩ : ∃ ss : List MSeat, ss = [⟨0, 0, 5, 0⟩, ⟨0, 0, 14, 1⟩] := ⟨_, rfl⟩
  have g1 : ss.all qReady = true := by rw [hss]; decide
  have g2 : ss.all qOver = false := by rw [hss]; decide
  have g3 : ((ss.all fun s => !(qCloses s)) || (ss.all fun s => !(qUndoes s))) = true := by rw [hss]; decide
  have g4 : cnt ss 3 = 1 := by rw [hss]; decide
  have hl : ss.length ≤ 1000 := by rw [hss]; decide
  have hB : Below w.heap.size w ((w.alloc (.cells #[.int .i64 0, .int .i64 0, .int .i64 0, .int .i64 0, .int .i64 5, .int .i64 0, .int .i64 0, .int .i64 0, .int .i64 0, .int .i64 0, .int .i64 14, .int .i64 1] 54)).alloc (.cells (actC (.slice (some ⟨w.heap.size, 0, none⟩) 2 2)) 47)) := ((Below.refl _ _).alloc (Nat.le_refl _) _).alloc (by simp) _
  have hr : RegRow ((w.alloc (.cells #[.int .i64 0, .int .i64 0, .int .i64 0, .int .i64 0, .int .i64 5, .int .i64 0, .int .i64 0, .int .i64 0, .int .i64 0, .int .i64 0, .int .i64 14, .int .i64 1] 54)).alloc (.cells (actC (.slice (some ⟨w.heap.size, 0, none⟩) 2 2)) 47)) (.slice (some ⟨w.heap.size, 0, none⟩) 2 2) ss := by
    have c := ((Blk.fresh w #[.int .i64 0, .int .i64 0, .int .i64 0, .int .i64 0, .int .i64 5, .int .i64 0, .int .i64 0, .int .i64 0, .int .i64 0, .int .i64 0, .int .i64 14, .int .i64 1] 54 _ rfl).alloc (.cells (actC (.slice (some ⟨w.heap.size, 0, none⟩) 2 2)) 47)).cell
    subst hss
    refine ⟨_, 2, rfl, fun _ => ⟨w.heap.size, 0, rfl, by simp; omega, fun j hj => ?_⟩⟩
    have : j = 0 ∨ j = 1 := by simp at hj; omega
    rcases this with rfl | rfl
    · exact ⟨c 0, c 1, c 2, c 3, c 4, c 5⟩
    · exact ⟨c 6, c 7, c 8, c 9, c 10, c 11⟩
  have H1 := Lib.hid (fun W hW => vready_of _ ss W (hr.below hW) hl)
  have H2 := Lib.hid (fun W hW => vover_of _ ss W (hr.below hW) hl)
  have H3 := Lib.hid (fun W hW => vuniform_of _ ss W (hr.below hW) hl)
  have H4 := Lib.hid (fun W hW => vcounted_of _ ss W (hr.below hW) hl)
  rw [g1] at H1; rw [g2] at H2; rw [g3] at H3
  have HK := Lib.hid (Blk.fresh (w.alloc (.cells #[.int .i64 0, .int .i64 0, .int .i64 0, .int .i64 0, .int .i64 5, .int .i64 0, .int .i64 0, .int .i64 0, .int .i64 0, .int .i64 0, .int .i64 14, .int .i64 1] 54)) (actC (.slice (some ⟨w.heap.size, 0, none⟩) 2 2)) 47 (w.heap.size + 1) (by simp))
  clear g1 g2 g3 hl hr hss
  generalize cnt ss = f at *
  unfold cntA at H4
  dsimp only [actV, actC] at *
  go_enter Tryd.func16, Tryd.ntmps16
  go_wp2_with fail
  refine (H1.out _ (Below.refl _ _)).mono ?_
  rintro e w1 ⟨rfl, hb1⟩
  have q := (HK.out.below hb1).cell
  go_wp2_with fail
  refine (H2.out _ hb1).mono ?_
  rintro e w2 ⟨rfl, hb2⟩
  have hb2 := below_then hb1 hb2
  clear q
  have q := (HK.out.below hb2).cell
  go_wp2_with fail
  refine (H3.out _ hb2).mono ?_
  rintro e w3 ⟨rfl, hb3⟩
  have hb3 := below_then hb2 hb3
  clear q
  have q := (HK.out.below hb3).cell
  go_wp2_with fail
  refine (H4.out _ hb3).mono ?_
  rintro e w4 ⟨rfl, hb4⟩
  go_wp2_with fail
  go_ret
  exact ⟨ret_bool (by simp [g4]), below_then hB (below_then hb3 hb4)⟩

def reg6 (s : MSeat) : List Value := [.int .i64 0, .int .i64 0, .int .i64 s.p, .int .i64 s.d, .int .i64 s.s, .int .i64 s.h]
def rowV (ss : List MSeat) : List Value := ss.flatMap reg6
theorem rowV_length (ss : List MSeat) : (rowV ss).length = ss.length * 6 := by
  induction ss with
  | nil => rfl
  | cons s ss ih => simp only [rowV, List.flatMap_cons, List.length_append, List.length_cons] at *; rw [ih]; simp [reg6]; omega
theorem rowV_at : ∀ (ss : List MSeat) (j t : Nat) (h : j < ss.length) (_ : t < 6), (rowV ss)[j * 6 + t]? = (reg6 ss[j])[t]?
  | s :: ss, 0, t, _, ht => by
    simp only [rowV, List.flatMap_cons, Nat.zero_mul, Nat.zero_add, List.getElem_cons_zero]
    rw [List.getElem?_append_left (by simpa [reg6] using ht)]
  | s :: ss, j + 1, t, h, ht => by
    have := rowV_at ss j t (by simpa using h) ht
    simp only [rowV, List.flatMap_cons, List.getElem_cons_succ] at *
    rw [List.getElem?_append_right (by simp [reg6]; omega), ← this]
    congr 1
    simp [reg6]; omega
theorem rowV_append (ss : List MSeat) (s : MSeat) : rowV (ss ++ [s]) = rowV ss ++ reg6 s := by simp [rowV]
/-- a row that the call made reads as those registrations -/
theorem regRow_of_own {w : World} {B : Nat} {e : TypeId} {v : Value} {ss : List MSeat} (h : w.ownsRow B e 6 v ss.length (rowV ss)) : RegRow w v ss := by
  rcases h.2 with ⟨h0, hn⟩ | ⟨g, cap, cur, rfl, _⟩
  · exact ⟨none, 0, by rw [h0, hn], fun hne => absurd (List.length_eq_zero_iff.1 hn) hne⟩
  · refine ⟨_, cap, rfl, fun _ => ⟨g, 0, rfl, (h.lt g rfl).2, fun j hj => ?_⟩⟩
    have hc : ∀ t, t < 6 → w.cell? ⟨g, 0 + j * 6 + t, none⟩ = (reg6 ss[j])[t]? := fun t ht => by
      rw [Nat.zero_add]
      exact (h.cellAt (j * 6 + t) (by omega)).trans (rowV_at ss j t hj ht)
    exact ⟨hc 0 (by decide), hc 1 (by decide), hc 2 (by decide), hc 3 (by decide), hc 4 (by decide), hc 5 (by decide)⟩

/-- both activities while their rows grow -/
structure Rows2 (B A M : Nat) (va vm : Value) (sa sm : List MSeat) (w0 w : World) : Prop where
  be : Below B w0 w
  hA : Blk w A (actC va)
  hM : Blk w M (actC vm)
  oa : w.ownsRow B 54 6 va sa.length (rowV sa)
  om : w.ownsRow B 57 6 vm sm.length (rowV sm)
  bA : B ≤ A
  bM : B ≤ M
  ne : A ≠ M
  aA : va.ownBlock ≠ some A
  aM : va.ownBlock ≠ some M
  mA : vm.ownBlock ≠ some A
  mM : vm.ownBlock ≠ some M
  am : ∀ k, va.ownBlock = some k → vm.ownBlock ≠ some k
theorem own_heap {w w' : World} {B : Nat} {e : TypeId} {size : Nat} {v : Value} {n : Nat} {xs : List Value} (h : w.ownsRow B e size v n xs) (he : ∀ k, v.ownBlock = some k → w'.heap[k]? = w.heap[k]?) : w'.ownsRow B e size v n xs := by
  refine ⟨h.1, ?_⟩
  rcases h.2 with hn | ⟨g, cap, cur, rfl, hb, hg, r⟩
  · exact .inl hn
  · exact .inr ⟨g, cap, cur, rfl, hb, (he g rfl).trans hg, r⟩
theorem Blk.kept {w w' : World} {b : Nat} {C : Array Value} (h : Blk w b C) (hs : w.heap.size ≤ w'.heap.size) (he : w'.heap[b]? = w.heap[b]?) : Blk w' b C :=
  ⟨Nat.lt_of_lt_of_le h.lt hs, fun i => (World.cell?_of_block (a := ⟨b, i, none⟩) he).trans (h.cell i), fun i => (World.frozen?_of_block (a := ⟨b, i, none⟩) he).trans (h.free i)⟩
theorem Rows2.rel {B A M : Nat} {va vm : Value} {sa sm : List MSeat} {w0 w w' : World} (h : Rows2 B A M va vm sa sm w0 w) (hB : B ≤ w.heap.size) (hb : Below w.heap.size w w') : Rows2 B A M va vm sa sm w0 w' :=
  ⟨h.be.trans (hb.mono hB), h.hA.below hb, h.hM.below hb, own_heap h.oa (fun k hk => hb.block k (h.oa.lt k hk).2), own_heap h.om (fun k hk => hb.block k (h.om.lt k hk).2), h.bA, h.bM, h.ne, h.aA, h.aM, h.mA, h.mM, h.am⟩
theorem own_or {w : World} {v v' : Value} {H k : Nat} (h : v'.ownBlock = v.ownBlock ∨ v'.ownBlock = some H) (hk : v.ownBlock ≠ some k) (hH : k < H) : v'.ownBlock ≠ some k := by
  rcases h with h | h
  · rw [h]; exact hk
  · rw [h]; intro e; injection e with e; omega
theorem Rows2.pushA {B A M : Nat} {va vm v' : Value} {sa sm : List MSeat} {w0 w w3 : World} {n : Nat} {xs : List Value} (h : Rows2 B A M va vm sa sm w0 w) (hB : B ≤ w.heap.size) (s : MSeat) (hown : w3.ownsRow B 54 6 v' n xs) (hn : n = sa.length + 1) (hx : xs = rowV sa ++ reg6 s) (hg : w.grownBy w3 va.ownBlock) (hat : v'.ownBlock = va.ownBlock ∨ v'.ownBlock = some w.heap.size) :
    Rows2 B A M v' vm (sa ++ [s]) sm w0 (w3.setCell ⟨A, 7, none⟩ v') := by
  have lA := h.hA.lt; have lM := h.hM.lt
  have nA : v'.ownBlock ≠ some A := own_or (w := w) hat h.aA lA
  have nM : v'.ownBlock ≠ some M := own_or (w := w) hat h.aM lM
  have hs := hg.size
  have kA := h.hA.kept hs (hg.block A lA (fun e => h.aA e.symm))
  have kM := h.hM.kept hs (hg.block M lM (fun e => h.aM e.symm))
  refine ⟨?_, ?_, ?_, ?_, ?_, h.bA, h.bM, h.ne, nA, nM, h.mA, h.mM, ?_⟩
  · exact (h.be.trans ((Below.refl B w).grown hg hB (fun k hk => (h.oa.lt k hk).1))).setCell (p := ⟨A, 7, none⟩) h.bA _
  · exact kA.set 7 (by simp) v'
  · exact kM.other (p := ⟨A, 7, none⟩) (fun e => h.ne (by simpa using e)) _
  · rw [List.length_append, List.length_singleton, rowV_append, ← hn, ← hx]
    exact own_heap hown (fun k hk => Below.heap_setCell w3 ⟨A, 7, none⟩ v' k (fun e => nA (by rw [hk]; exact congrArg some e)))
  · refine own_heap (own_heap h.om (fun k hk => hg.block k (h.om.lt k hk).2 (fun e => h.am k e.symm hk))) (fun k hk => Below.heap_setCell w3 ⟨A, 7, none⟩ v' k (fun e => h.mA (by rw [hk]; exact congrArg some e)))
  · intro k hk e
    rcases hat with h1 | h1
    · exact h.am k (h1 ▸ hk) e
    · have := (h.om.lt k e).2
      rw [h1] at hk; injection hk with hk; omega
theorem Rows2.pushM {B A M : Nat} {va vm v' : Value} {sa sm : List MSeat} {w0 w w3 : World} {n : Nat} {xs : List Value} (h : Rows2 B A M va vm sa sm w0 w) (hB : B ≤ w.heap.size) (s : MSeat) (hown : w3.ownsRow B 57 6 v' n xs) (hn : n = sm.length + 1) (hx : xs = rowV sm ++ reg6 s) (hg : w.grownBy w3 vm.ownBlock) (hat : v'.ownBlock = vm.ownBlock ∨ v'.ownBlock = some w.heap.size) :
    Rows2 B A M va v' sa (sm ++ [s]) w0 (w3.setCell ⟨M, 7, none⟩ v') := by
  have lA := h.hA.lt; have lM := h.hM.lt
  have nA : v'.ownBlock ≠ some A := own_or (w := w) hat h.mA lA
  have nM : v'.ownBlock ≠ some M := own_or (w := w) hat h.mM lM
  have hs := hg.size
  have kA := h.hA.kept hs (hg.block A lA (fun e => h.mA e.symm))
  have kM := h.hM.kept hs (hg.block M lM (fun e => h.mM e.symm))
  refine ⟨?_, ?_, ?_, ?_, ?_, h.bA, h.bM, h.ne, h.aA, h.aM, nA, nM, ?_⟩
  · exact (h.be.trans ((Below.refl B w).grown hg hB (fun k hk => (h.om.lt k hk).1))).setCell (p := ⟨M, 7, none⟩) h.bM _
  · exact kA.other (p := ⟨M, 7, none⟩) (fun e => h.ne (by simpa using e.symm)) _
  · exact kM.set 7 (by simp) v'
  · refine own_heap (own_heap h.oa (fun k hk => hg.block k (h.oa.lt k hk).2 (fun e => h.am k hk e.symm))) (fun k hk => Below.heap_setCell w3 ⟨M, 7, none⟩ v' k (fun e => h.aM (by rw [hk]; exact congrArg some e)))
  · rw [List.length_append, List.length_singleton, rowV_append, ← hn, ← hx]
    exact own_heap hown (fun k hk => Below.heap_setCell w3 ⟨M, 7, none⟩ v' k (fun e => nM (by rw [hk]; exact congrArg some e)))
  · intro k hk e
    rcases hat with h1 | h1
    · exact h.am k hk (h1 ▸ e)
    · have := (h.oa.lt k hk).2
      rw [h1] at e; injection e with e; omega
end Go.Proofs.YtkidljiffeonjaaDoor
