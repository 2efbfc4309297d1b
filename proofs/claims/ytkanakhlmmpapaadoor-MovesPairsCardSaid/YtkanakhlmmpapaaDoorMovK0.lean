/- A pair in memory: a kind is delivered. -/
import Derived.Test.YtkanakhlmmpapaaDoorRows
import Derived.WalkKit
import Derived.WalkSpells
import Derived.WalkLawsBesides
import Derived.BigQuiet
import Derived.Deep.QuietTactic
import Derived.StillTailTactics
import Derived.Handy
import Derived.Lib.Hide
import Derived.Test.YtkanakhlmmpapaaDoorMovJ
import Derived.Deep.RegionHeld3
import Derived.Deep.CutRange
set_option linter.unusedSimpArgs false
set_option linter.unusedVariables false
namespace Go.Proofs.YtkanakhlmmpapaaDoor
open Go.RowKit

theorem Blk.grown {w w' : World} {b : Nat} {C : Array Value} {row : Option Nat} (h : Blk w b C) (hg : w.grownBy w' row) (hne : row ≠ some b) : Blk w' b C :=
  h.heap hg.size (hg.block b h.lt (fun e => hne e.symm))
theorem Blk.beside {w w' : World} {b g : Nat} {v : Value} {C : Array Value} (h : Blk w b C) (hb : Beside w w' g v) (hg : b ≠ g) (hv : v.ownBlock ≠ some b) : Blk w' b C :=
  h.heap hb.size (hb.block b h.lt hg hv)

set_option maxRecDepth 100000 in
set_option maxHeartbeats 4000000 in
theorem pdeliver_err (B g : Nat) (v : Value) (P : MPair) (i : Int) (copies : Bool) (ea : Int → Addr) (w : World) (hE : Err5 ea w) (h : PairIn B g v P w) (hl : P.fl.length ≤ 1000)
    (hc : i < 0 ∨ (P.fl.length : Int) ≤ i ∨ (copies = true ∧ mFull P = true)) :
    Calls Tryd.prog 15 #[.pointer (some ⟨g, 0, none⟩), .int .i64 i, .bool copies] w fun e w' => e = .returned (.tuple #[effV (mPDeliver P i copies).2.1, errOf ea (mPDeliver P i copies).2.2]) ∧ PairGoes B g v (mPDeliver P i copies).1 w w' := by
  have k1 : w.cell? ⟨0, 0, none⟩ = some (errV (ea 1)) := hE.e.e1
  have k6 : w.cell? ⟨1, 0, none⟩ = some (errV (ea 6)) := hE.e6
  have hg1 := World.block_lt_of_cell? _ _ k1
  have hg6 := World.block_lt_of_cell? _ _ k6
  have a8 : w.cell? ⟨g, 8, none⟩ = some v := h.blk.cell 8
  have hgl := h.blk.lt
  have hF := fun W hW => full_of B g v P W hW hl
  have hz : PairGoes B g v P w (w.alloc (.cells #[.int .i64 0, .int .i64 0, .int .i64 0, .int .i64 0, .int .i64 0, .int .i64 0, .int .i64 0, .bool false] 34)).drew := PairGoes.same h (((Below.refl _ _).alloc (Nat.le_refl _) _).drew)
  unfold mPDeliver
  obtain ⟨f, hf⟩ : ∃ f, f = mFull P := ⟨_, rfl⟩
  rw [← hf] at hF hc ⊢
  obtain ⟨a, cap, rfl⟩ := h.slice
  have HP := Lib.hid h; clear h
  have HZ := Lib.hid hz; clear hz hf
  obtain ⟨n, hn⟩ : ∃ n, n = P.fl.length := ⟨_, rfl⟩
  rw [← hn] at hl a8 hc hF HP HZ ⊢
  clear hn
  have HF := Lib.hid hF; clear hF
  by_cases h0 : i < 0
  · rw [if_pos (.inl h0), show errOf ea 1 = errV (ea 1) from rfl]
    clear hc k6 hg6
    go_enter Tryd.func15, Tryd.ntmps15
    go_wp2
    go_region
    all_goals go_wp2
    all_goals exact bodyPost_ret (v := .tuple #[.agg #[.int .i64 0, .int .i64 0, .int .i64 0, .int .i64 0, .int .i64 0, .int .i64 0, .int .i64 0, .bool false], errV (ea 1)]) (by simp [results, Tryd.results15, go_sem]) rfl ⟨rfl, HZ.out⟩
  · by_cases h1 : (n : Int) ≤ i
    · rw [if_pos (.inr h1), show errOf ea 1 = errV (ea 1) from rfl]
      have h2 : 0 ≤ i := by omega
      clear hc k6 hg6
      go_enter Tryd.func15, Tryd.ntmps15
      go_wp2
      go_region
      all_goals go_wp2
      all_goals exact bodyPost_ret (v := .tuple #[.agg #[.int .i64 0, .int .i64 0, .int .i64 0, .int .i64 0, .int .i64 0, .int .i64 0, .int .i64 0, .bool false], errV (ea 1)]) (by simp [results, Tryd.results15, go_sem]) rfl ⟨rfl, HZ.out⟩
    · have h3 : copies = true ∧ f = true := by
        rcases hc with h | h | h
        · exact absurd h h0
        · exact absurd h h1
        · exact h
      obtain ⟨rfl, rfl⟩ := h3
      rw [if_neg (by omega), if_pos ⟨rfl, rfl⟩, show errOf ea 6 = errV (ea 6) from rfl]
      have h2 : 0 ≤ i := by omega
      have h4 : i < (n : Int) := by omega
      clear hc k1 hg1
      go_enter Tryd.func15, Tryd.ntmps15
      go_wp2_with (go_at_call 35; refine (HF.out _ (HP.out.rel (by go_grown))).mono ?_; rintro e w1 ⟨rfl, rfl⟩)
      go_region
      all_goals go_wp2
      all_goals exact bodyPost_ret (v := .tuple #[.agg #[.int .i64 0, .int .i64 0, .int .i64 0, .int .i64 0, .int .i64 0, .int .i64 0, .int .i64 0, .bool false], errV (ea 6)]) (by simp [results, Tryd.results15, go_sem]) rfl ⟨rfl, HZ.out⟩

abbrev effCells (e : Eff) : Array Value := #[.int .i64 e.seat.p, .int .i64 e.seat.d, .int .i64 e.seat.s, .int .i64 e.seat.h, .int .i64 e.send, .int .i64 e.fault, .int .i64 e.work, .bool e.ch]
abbrev zeroCells8 : Array Value := #[.int .i64 0, .int .i64 0, .int .i64 0, .int .i64 0, .int .i64 0, .int .i64 0, .int .i64 0, .bool false]
/-- behind the telling: the pair is as it was, the effect lies in a block of its own -/
structure Mid (B g : Nat) (v : Value) (P : MPair) (t k : Int) (e : Eff) (w : World) (E : Nat) (wx : World) : Prop where
  be : Below w.heap.size w wx
  pr : PairIn B g v P wx
  r0 : Blk wx w.heap.size zeroCells8
  f1 : Blk wx (w.heap.size + 1) #[.int .i64 t, .int .i64 k]
  ee : Blk wx E (effCells e)
  ne : w.heap.size + 2 ≤ E
def putEff (w : World) (E : Nat) (e : Eff) : World :=
  (((((((w.setCell ⟨E, 0, none⟩ (.int .i64 e.seat.p)).setCell ⟨E, 1, none⟩ (.int .i64 e.seat.d)).setCell ⟨E, 2, none⟩ (.int .i64 e.seat.s)).setCell ⟨E, 3, none⟩ (.int .i64 e.seat.h)).setCell ⟨E, 4, none⟩ (.int .i64 e.send)).setCell ⟨E, 5, none⟩ (.int .i64 e.fault)).setCell ⟨E, 6, none⟩ (.int .i64 e.work)).setCell ⟨E, 7, none⟩ (.bool e.ch)
theorem putEff_heap (w : World) (E : Nat) (e : Eff) (k : Nat) (h : k ≠ E) : (putEff w E e).heap[k]? = w.heap[k]? := by
  unfold putEff
  rw [Below.heap_setCell _ _ _ k h, Below.heap_setCell _ _ _ k h, Below.heap_setCell _ _ _ k h, Below.heap_setCell _ _ _ k h, Below.heap_setCell _ _ _ k h, Below.heap_setCell _ _ _ k h, Below.heap_setCell _ _ _ k h, Below.heap_setCell _ _ _ k h]
theorem putEff_size (w : World) (E : Nat) (e : Eff) : (putEff w E e).heap.size = w.heap.size := by simp [putEff]
theorem setCell_os (w : World) (a : Addr) (v : Value) : (w.setCell a v).os = w.os := rfl
theorem setCell_tape (w : World) (a : Addr) (v : Value) : (w.setCell a v).tape = w.tape := rfl
theorem setCell_output (w : World) (a : Addr) (v : Value) : (w.setCell a v).output = w.output := rfl
theorem putEff_os (w : World) (E : Nat) (e : Eff) : (putEff w E e).os = w.os ∧ (putEff w E e).tape = w.tape ∧ (putEff w E e).output = w.output := by
  unfold putEff
  exact ⟨by simp only [setCell_os], by simp only [setCell_tape], by simp only [setCell_output]⟩
theorem putEff_blk (w1 : World) (E : Nat) (e : Eff) (h : Blk w1 E zeroCells8) : Blk (putEff w1 E e) E (effCells e) := by
  have s0 := h.set 0 (by simp) (.int .i64 e.seat.p)
  have s1 := s0.set 1 (by simp) (.int .i64 e.seat.d)
  have s2 := s1.set 2 (by simp) (.int .i64 e.seat.s)
  have s3 := s2.set 3 (by simp) (.int .i64 e.seat.h)
  have s4 := s3.set 4 (by simp) (.int .i64 e.send)
  have s5 := s4.set 5 (by simp) (.int .i64 e.fault)
  have s6 := s5.set 6 (by simp) (.int .i64 e.work)
  have s7 := s6.set 7 (by simp) (.bool e.ch)
  unfold putEff
  exact s7
theorem Mid.put {B g : Nat} {v : Value} {P : MPair} {t k : Int} {e : Eff} {w w1 : World} {E : Nat} (be : Below w.heap.size w w1) (pr : PairIn B g v P w1) (r0 : Blk w1 w.heap.size zeroCells8) (f1 : Blk w1 (w.heap.size + 1) #[.int .i64 t, .int .i64 k]) (ee : Blk w1 E zeroCells8) (ne : w.heap.size + 2 ≤ E) (hg : g ≠ E) (hv : v.ownBlock ≠ some E) :
    Mid B g v P t k e w E ((((((((w1.setCell ⟨E, 0, none⟩ (.int .i64 e.seat.p)).setCell ⟨E, 1, none⟩ (.int .i64 e.seat.d)).setCell ⟨E, 2, none⟩ (.int .i64 e.seat.s)).setCell ⟨E, 3, none⟩ (.int .i64 e.seat.h)).setCell ⟨E, 4, none⟩ (.int .i64 e.send)).setCell ⟨E, 5, none⟩ (.int .i64 e.fault)).setCell ⟨E, 6, none⟩ (.int .i64 e.work)).setCell ⟨E, 7, none⟩ (.bool e.ch)) := by
  have hb := putEff_blk w1 E e ee
  have hs := putEff_size w1 E e
  have hh := putEff_heap w1 E e
  obtain ⟨o1, o2, o3⟩ := putEff_os w1 E e
  rw [show ((((((((w1.setCell ⟨E, 0, none⟩ (.int .i64 e.seat.p)).setCell ⟨E, 1, none⟩ (.int .i64 e.seat.d)).setCell ⟨E, 2, none⟩ (.int .i64 e.seat.s)).setCell ⟨E, 3, none⟩ (.int .i64 e.seat.h)).setCell ⟨E, 4, none⟩ (.int .i64 e.send)).setCell ⟨E, 5, none⟩ (.int .i64 e.fault)).setCell ⟨E, 6, none⟩ (.int .i64 e.work)).setCell ⟨E, 7, none⟩ (.bool e.ch)) = putEff w1 E e from rfl]
  generalize putEff w1 E e = W at *
  have hsz : w1.heap.size ≤ W.heap.size := Nat.le_of_eq hs.symm
  have b1 : Below w.heap.size w W := ⟨o1.trans be.os, o2.trans be.tape, o3.trans be.output, Nat.le_trans be.size hsz, fun k hk => (hh k (by omega)).trans (be.block k hk)⟩
  exact ⟨b1, pr.other hsz (hh g hg) (fun k hk => hh k (fun he => hv (by rw [hk, he]))), r0.heap hsz (hh _ (by omega)), f1.heap hsz (hh _ (by omega)), hb, ne⟩
theorem Blk.seat {w : World} {b g o : Nat} {C : Array Value} (h : Blk w b C) (s : MSeat) (hne : g ≠ b) : Blk (putSeat w g o s) b C :=
  (((h.other (p := ⟨g, o, none⟩) hne _).other (p := ⟨g, o + 1, none⟩) hne _).other (p := ⟨g, o + 2, none⟩) hne _).other (p := ⟨g, o + 3, none⟩) hne _
theorem Beside.cast {w w' : World} {g : Nat} {v1 v2 : Value} (h : Beside w w' g v1) (he : v1.ownBlock = v2.ownBlock) : Beside w w' g v2 := ⟨h.os, h.tape, h.output, h.size, fun k hk hg hr => h.block k hk hg (by rw [he]; exact hr)⟩
theorem PairGoes.cast {B g : Nat} {v1 v2 : Value} {P : MPair} {w w' : World} (h : PairGoes B g v1 P w w') (he : v1.ownBlock = v2.ownBlock) : PairGoes B g v2 P w w' := by
  obtain ⟨v', h1, h2, h3⟩ := h
  exact ⟨v', h1, h2.cast he, by unfold FreshOr at *; rw [← he]; exact h3⟩
theorem PairGoes.res {B g n0 : Nat} {v : Value} {P : MPair} {e : Eff} {w W w3 : World} (hb : Beside w W g v) (hp : PairGoes B g v P W w3) (hn1 : w.heap.size ≤ n0) (hn2 : n0 < W.heap.size) (hg : g ≠ n0) (hv : v.ownBlock ≠ some n0) : PairGoes B g v P w ((((((((w3.setCell ⟨n0, 0, none⟩ (.int .i64 e.seat.p)).setCell ⟨n0, 1, none⟩ (.int .i64 e.seat.d)).setCell ⟨n0, 2, none⟩ (.int .i64 e.seat.s)).setCell ⟨n0, 3, none⟩ (.int .i64 e.seat.h)).setCell ⟨n0, 4, none⟩ (.int .i64 e.send)).setCell ⟨n0, 5, none⟩ (.int .i64 e.fault)).setCell ⟨n0, 6, none⟩ (.int .i64 e.work)).setCell ⟨n0, 7, none⟩ (.bool e.ch)) := by
  obtain ⟨v', h1, h2, h3⟩ := hp
  have hv' : v'.ownBlock ≠ some n0 := by
    rcases h3 with h3 | ⟨m, hm, h3⟩
    · rw [h3]; exact hv
    · rw [h3]; intro e0; injection e0 with e0; omega
  have h2 := hb.trans h2 (.inl rfl)
  have h3 := FreshOr.trans (.inl rfl) h3 hb.size
  have hs := putEff_size w3 n0 e
  have hh := putEff_heap w3 n0 e
  obtain ⟨o1, o2, o3⟩ := putEff_os w3 n0 e
  rw [show ((((((((w3.setCell ⟨n0, 0, none⟩ (.int .i64 e.seat.p)).setCell ⟨n0, 1, none⟩ (.int .i64 e.seat.d)).setCell ⟨n0, 2, none⟩ (.int .i64 e.seat.s)).setCell ⟨n0, 3, none⟩ (.int .i64 e.seat.h)).setCell ⟨n0, 4, none⟩ (.int .i64 e.send)).setCell ⟨n0, 5, none⟩ (.int .i64 e.fault)).setCell ⟨n0, 6, none⟩ (.int .i64 e.work)).setCell ⟨n0, 7, none⟩ (.bool e.ch)) = putEff w3 n0 e from rfl]
  generalize putEff w3 n0 e = W' at *
  have hsz : w3.heap.size ≤ W'.heap.size := Nat.le_of_eq hs.symm
  refine ⟨v', h1.other hsz (hh g hg) (fun k hk => hh k (fun he => hv' (by rw [hk, he]))), ⟨o1.trans h2.os, o2.trans h2.tape, o3.trans h2.output, Nat.le_trans h2.size hsz, fun k hk hg' hr => (hh k (by omega)).trans (h2.block k hk hg' hr)⟩, h3⟩
end Go.Proofs.YtkanakhlmmpapaaDoor
