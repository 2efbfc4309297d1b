/- The reference's pair in memory (liaisonref11): what Deliver's walks hand over; the facts of the double append. -/
import Derived.Test.YtkanakhlmmpapaaDoorRows
import Derived.WalkKit
import Derived.WalkSpells
import Derived.WalkLawsBesides
import Derived.BigQuiet
import Derived.Deep.QuietTactic
import Derived.StillTailTactics
import Derived.Handy
import Derived.Lib.Hide
import Derived.Test.YtkanakhlmmpapaaDoorMovX
set_option linter.unusedSimpArgs false
set_option linter.unusedVariables false
namespace Go.Proofs.YtkanakhlmmpapaaDoor
open Go.RowKit

structure MidR (B g sb : Nat) (v : Value) (P : MPair) (t k : Int) (e : Eff) (w : World) (E : Nat) (wx : World) : Prop where
  be : Below w.heap.size w wx
  pr : RefIn B g sb v P wx
  r0 : Blk wx w.heap.size zeroCells8
  f1 : Blk wx (w.heap.size + 1) #[.int .i64 t, .int .i64 k]
  ee : Blk wx E (effCells e)
  ne : w.heap.size + 2 ≤ E
theorem Blk.besideR {w w' : World} {b g sb : Nat} {v : Value} {C : Array Value} (h : Blk w b C) (hb : BesideR w w' g sb v) (hg : b ≠ g) (hs : b ≠ sb) (hv : v.ownBlock ≠ some b) : Blk w' b C :=
  h.heap hb.size (hb.block b h.lt hg hs hv)
theorem MidR.put {B g sb : Nat} {v : Value} {P : MPair} {t k : Int} {e : Eff} {w w1 : World} {E : Nat} (be : Below w.heap.size w w1) (pr : RefIn B g sb v P w1) (r0 : Blk w1 w.heap.size zeroCells8) (f1 : Blk w1 (w.heap.size + 1) #[.int .i64 t, .int .i64 k]) (ee : Blk w1 E zeroCells8) (ne : w.heap.size + 2 ≤ E) (hg : g ≠ E) (hs : sb ≠ E) (hv : v.ownBlock ≠ some E) :
    MidR B g sb v P t k e w E ((((((((w1.setCell ⟨E, 0, none⟩ (.int .i64 e.seat.p)).setCell ⟨E, 1, none⟩ (.int .i64 e.seat.d)).setCell ⟨E, 2, none⟩ (.int .i64 e.seat.s)).setCell ⟨E, 3, none⟩ (.int .i64 e.seat.h)).setCell ⟨E, 4, none⟩ (.int .i64 e.send)).setCell ⟨E, 5, none⟩ (.int .i64 e.fault)).setCell ⟨E, 6, none⟩ (.int .i64 e.work)).setCell ⟨E, 7, none⟩ (.bool e.ch)) := by
  have hb := putEff_blk w1 E e ee
  have hz := putEff_size w1 E e
  have hh := putEff_heap w1 E e
  obtain ⟨o1, o2, o3⟩ := putEff_os w1 E e
  rw [show ((((((((w1.setCell ⟨E, 0, none⟩ (.int .i64 e.seat.p)).setCell ⟨E, 1, none⟩ (.int .i64 e.seat.d)).setCell ⟨E, 2, none⟩ (.int .i64 e.seat.s)).setCell ⟨E, 3, none⟩ (.int .i64 e.seat.h)).setCell ⟨E, 4, none⟩ (.int .i64 e.send)).setCell ⟨E, 5, none⟩ (.int .i64 e.fault)).setCell ⟨E, 6, none⟩ (.int .i64 e.work)).setCell ⟨E, 7, none⟩ (.bool e.ch)) = putEff w1 E e from rfl]
  generalize putEff w1 E e = W at *
  have hsz : w1.heap.size ≤ W.heap.size := Nat.le_of_eq hz.symm
  have b1 : Below w.heap.size w W := ⟨o1.trans be.os, o2.trans be.tape, o3.trans be.output, Nat.le_trans be.size hsz, fun k hk => (hh k (by omega)).trans (be.block k hk)⟩
  exact ⟨b1, pr.other hsz (hh g hg) (hh sb hs) (fun k hk => hh k (fun he => hv (by rw [hk, he]))), r0.heap hsz (hh _ (by omega)), f1.heap hsz (hh _ (by omega)), hb, ne⟩
theorem RefGoes.res {B g sb n0 : Nat} {v : Value} {P : MPair} {e : Eff} {w W w3 : World} (hb : BesideR w W g sb v) (hp : RefGoes B g sb v P W w3) (hn1 : w.heap.size ≤ n0) (hn2 : n0 < W.heap.size) (hg : g ≠ n0) (hsn : sb ≠ n0) (hv : v.ownBlock ≠ some n0) : RefGoes B g sb v P w ((((((((w3.setCell ⟨n0, 0, none⟩ (.int .i64 e.seat.p)).setCell ⟨n0, 1, none⟩ (.int .i64 e.seat.d)).setCell ⟨n0, 2, none⟩ (.int .i64 e.seat.s)).setCell ⟨n0, 3, none⟩ (.int .i64 e.seat.h)).setCell ⟨n0, 4, none⟩ (.int .i64 e.send)).setCell ⟨n0, 5, none⟩ (.int .i64 e.fault)).setCell ⟨n0, 6, none⟩ (.int .i64 e.work)).setCell ⟨n0, 7, none⟩ (.bool e.ch)) := by
  obtain ⟨v', h1, h2, h3⟩ := hp
  have hv' : v'.ownBlock ≠ some n0 := by
    rcases h3 with h3 | ⟨m, hm, h3⟩
    · rw [h3]; exact hv
    · rw [h3]; intro e0; injection e0 with e0; omega
  have h2 := hb.trans h2 (.inl rfl)
  have h3 := FreshOr.trans (.inl rfl) h3 hb.size
  have hs := putEff_size w3 n0 e
  have hh := putEff_heap w3 n0 e
  obtain ⟨o1, o2, o3⟩ := putEff_os w3 n0 e
  rw [show ((((((((w3.setCell ⟨n0, 0, none⟩ (.int .i64 e.seat.p)).setCell ⟨n0, 1, none⟩ (.int .i64 e.seat.d)).setCell ⟨n0, 2, none⟩ (.int .i64 e.seat.s)).setCell ⟨n0, 3, none⟩ (.int .i64 e.seat.h)).setCell ⟨n0, 4, none⟩ (.int .i64 e.send)).setCell ⟨n0, 5, none⟩ (.int .i64 e.fault)).setCell ⟨n0, 6, none⟩ (.int .i64 e.work)).setCell ⟨n0, 7, none⟩ (.bool e.ch)) = putEff w3 n0 e from rfl]
  generalize putEff w3 n0 e = W' at *
  have hsz : w3.heap.size ≤ W'.heap.size := Nat.le_of_eq hs.symm
  refine ⟨v', h1.other hsz (hh g hg) (hh sb hsn) (fun k hk => hh k (fun he => hv' (by rw [hk, he]))), ⟨o1.trans h2.os, o2.trans h2.tape, o3.trans h2.output, Nat.le_trans h2.size hsz, fun k hk hg' hs' hr => (hh k (by omega)).trans (h2.block k hk hg' hs' hr)⟩, h3⟩

theorem two_facts {B g sb b cap n j : Nat} {P : MPair} {w : World} (h : RefIn B g sb (.slice (some ⟨b, 0, none⟩) n cap) P w) (hn : n = P.fl.length) (hl : n ≤ 1000) (hB : B ≤ w.heap.size) (hj : j < n) :
    ∃ (news1 news2 : List Value) (A : Addr), (if cap = j + 1 then some (⟨b, 0, none⟩ : Addr) else some ⟨b, (j + 1) * 2, none⟩) = some A ∧ cap ≤ 9223372036854775807 ∧ n ≤ cap ∧ b < w.heap.size ∧ Hid (news1.length = j * 2) ∧ Hid (news2.length = (n - (j + 1)) * 2) ∧ Hid (∀ u ∈ news1, u.oneCell' = true) ∧ Hid (∀ u ∈ news2, u.oneCell' = true)
      ∧ Hid (∀ t u, news1[t]? = some u → (World.drew (w.alloc (.cells #[] 67))).cell? ((⟨b, 0, none⟩ : Addr).add t) = some u)
      ∧ Hid (∀ t u, news2[t]? = some u → (World.drew (w.alloc (.cells #[] 67))).cell? (A.add t) = some u)
      ∧ Hid (∀ t, (A.add t).block = b)
      ∧ Hid (0 + j ≤ maxLen ∧ (0 + j) * 16 ≤ 140737488355328 ∧ 0 + j + (n - (j + 1)) ≤ maxLen ∧ (0 + j + (n - (j + 1))) * 16 ≤ 140737488355328 ∧ B ≤ (World.drew (w.alloc (.cells #[] 67))).heap.size)
      ∧ Hid ((World.drew (w.alloc (.cells #[] 67))).ownsRow B 67 2 (.slice (some ⟨w.heap.size, 0, none⟩) 0 0) 0 [])
      ∧ Hid ((World.drew (w.alloc (.cells #[] 67))).heap.size = w.heap.size + 1)
      ∧ Hid (Below w.heap.size w (World.drew (w.alloc (.cells #[] 67))))
      ∧ Hid (flV (P.fl.eraseIdx j) = [] ++ news1 ++ news2 ∧ (P.fl.eraseIdx j).length = 0 + j + (n - (j + 1))) := by
  subst hn
  rcases h.own.2 with ⟨h0, _⟩ | ⟨b', cap', cur, h0, hbB, hbh, hcap, hcm, hcs, htk⟩
  · simp at h0
  simp only [Value.slice.injEq, Option.some.injEq, Addr.mk.injEq, and_true] at h0
  obtain ⟨rfl, -, rfl⟩ := h0
  have hbl : b < w.heap.size := (h.own.lt b rfl).2
  have hcell : ∀ t u, (flV P.fl)[t]? = some u → w.cell? ⟨b, t, none⟩ = some u := fun t u hu => by
    have ht := (List.getElem?_eq_some_iff.1 hu).1
    rw [flV_length] at ht
    exact (h.own.cellAt t ht).trans hu
  have hj' : j < P.fl.length := by omega
  have C1 : ∀ t u, (flV (P.fl.take j))[t]? = some u → w.cell? ⟨b, 0 + t, none⟩ = some u := by
    intro t u hu
    rw [Nat.zero_add]
    refine hcell t u ?_
    rw [← flV_take, List.getElem?_take] at hu
    split at hu
    · exact hu
    · cases hu
  obtain ⟨A, hA, hAb, C2⟩ : ∃ A : Addr, (if cap = j + 1 then some (⟨b, 0, none⟩ : Addr) else some ⟨b, (j + 1) * 2, none⟩) = some A ∧ (∀ t, (A.add t).block = b) ∧ ∀ t u, (flV (P.fl.drop (j + 1)))[t]? = some u → w.cell? (A.add t) = some u := by
    by_cases hh : cap = j + 1
    · refine ⟨⟨b, 0, none⟩, by simp [hh], fun t => by rw [Addr.add_lit], fun t u hu => ?_⟩
      have h0 : (flV (P.fl.drop (j + 1))).length = 0 := by rw [flV_length, List.length_drop]; omega
      rw [List.length_eq_zero_iff.1 h0] at hu
      simp at hu
    · refine ⟨⟨b, (j + 1) * 2, none⟩, by simp [hh], fun t => by rw [Addr.add_lit], fun t u hu => ?_⟩
      rw [← flV_drop, List.getElem?_drop] at hu
      rw [Addr.add_lit]
      exact hcell _ u hu
  have hz : (World.drew (w.alloc (.cells #[] 67))).heap.size = w.heap.size + 1 := by simp
  have hbe : Below w.heap.size w (World.drew (w.alloc (.cells #[] 67))) := ((Below.refl w.heap.size w).alloc (Nat.le_refl _) _).drew
  refine ⟨flV (P.fl.take j), flV (P.fl.drop (j + 1)), A, hA, by simpa [maxLen] using hcm, by omega, hbl, Lib.hid ?_, Lib.hid ?_, Lib.hid ?_, Lib.hid ?_, Lib.hid ?_, Lib.hid ?_, Lib.hid hAb, Lib.hid ⟨by unfold maxLen; omega, by omega, by unfold maxLen; omega, by omega, by rw [hz]; omega⟩, Lib.hid (World.ownsRow_lit w #[] 0 hB (by decide) rfl), Lib.hid hz, Lib.hid hbe, Lib.hid ⟨?_, ?_⟩⟩
  · rw [flV_length, List.length_take, Nat.min_eq_left (Nat.le_of_lt hj')]
  · rw [flV_length, List.length_drop]
  · intro u hu; obtain ⟨m, _, hm⟩ := List.mem_flatMap.1 hu; exact two_cells _ _ u hm
  · intro u hu; obtain ⟨m, _, hm⟩ := List.mem_flatMap.1 hu; exact two_cells _ _ u hm
  · intro t u hu
    rw [Addr.add_lit]
    exact (hbe.cell (p := ⟨b, 0 + t, none⟩) hbl).trans (C1 t u hu)
  · intro t u hu
    exact (hbe.cell (p := A.add t) (by rw [hAb t]; exact hbl)).trans (C2 t u hu)
  · rw [List.nil_append, ← flV_append, List.eraseIdx_eq_take_drop_succ]
  · rw [List.length_eraseIdx_of_lt hj']; omega
theorem fresh_ne {W2 W3 : World} {v v3 : Value} {lo : Nat} (_ : W2.heap.size ≤ W3.heap.size) (hf : FreshOr W2 v v3) (hv : ∀ m, lo ≤ m → v.ownBlock ≠ some m) : ∀ m, lo ≤ m → m < W2.heap.size → v3.ownBlock ≠ some m := by
  intro m hm hm2
  rcases hf with h | ⟨q, hq, h⟩
  · rw [h]; exact hv m hm
  · rw [h]; intro e0; injection e0 with e0; omega
theorem RefGoes.two {B g sb : Nat} {v v3 : Value} {Q : MPair} {W W3 w4 : World} (h3 : BesideR W W3 g sb v) (hf : FreshOr W v v3) (h4 : RefGoes B g sb v3 Q W3 w4) : RefGoes B g sb v Q W w4 := by
  obtain ⟨v4, p4, b4, f4⟩ := h4
  exact ⟨v4, p4, h3.trans b4 hf, FreshOr.trans hf f4 h3.size⟩
end Go.Proofs.YtkanakhlmmpapaaDoor
