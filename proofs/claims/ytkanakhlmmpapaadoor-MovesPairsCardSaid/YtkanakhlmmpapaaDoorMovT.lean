/- The reference's pair in memory (liaisonref11): making one, putting a kind behind the others. -/
import Derived.Test.YtkanakhlmmpapaaDoorRows
import Derived.WalkKit
import Derived.WalkSpells
import Derived.WalkLawsBesides
import Derived.BigQuiet
import Derived.Deep.QuietTactic
import Derived.StillTailTactics
import Derived.Handy
import Derived.Lib.Hide
import Derived.Test.YtkanakhlmmpapaaDoorMovS
import Derived.Test.YtkanakhlmmpapaaDoorMovN
set_option linter.unusedSimpArgs false
set_option linter.unusedVariables false
namespace Go.Proofs.YtkanakhlmmpapaaDoor
open Go.RowKit

theorem infoFlyR : (Tryd.prog.info? 67).map (fun i => (i.zero, i.size, i.bytes)) = some (some (.agg #[.int .i64 0, .int .i64 0]), 2, 16) := by kernel_rfl
abbrev seatCells (c x : MSeat) : Array Value := #[.int .i64 c.p, .int .i64 c.d, .int .i64 c.s, .int .i64 c.h, .int .i64 x.p, .int .i64 x.d, .int .i64 x.s, .int .i64 x.h]
structure RefIn (B g sb : Nat) (v : Value) (P : MPair) (w : World) : Prop where
  base : B ≤ g
  bases : B ≤ sb
  ne : g ≠ sb
  blk : Blk w g #[.slice (some ⟨sb, 0, none⟩) 2 2, v]
  sblk : Blk w sb (seatCells P.c P.x)
  own : w.ownsRow B 67 2 v P.fl.length (flV P.fl)
  apart : v.ownBlock ≠ some g
  aparts : v.ownBlock ≠ some sb
structure BesideR (w w' : World) (g sb : Nat) (v : Value) : Prop where
  os : w'.os = w.os
  tape : w'.tape = w.tape
  output : w'.output = w.output
  size : w.heap.size ≤ w'.heap.size
  block : ∀ k, k < w.heap.size → k ≠ g → k ≠ sb → v.ownBlock ≠ some k → w'.heap[k]? = w.heap[k]?
def RefGoes (B g sb : Nat) (v : Value) (P' : MPair) (w w' : World) : Prop := ∃ v', RefIn B g sb v' P' w' ∧ BesideR w w' g sb v ∧ FreshOr w v v'
theorem BesideR.of_below {w w' : World} (h : Below w.heap.size w w') (g sb : Nat) (v : Value) : BesideR w w' g sb v := ⟨h.os, h.tape, h.output, h.size, fun k hk _ _ _ => h.block k hk⟩
theorem BesideR.trans {w w1 w2 : World} {g sb : Nat} {v v1 : Value} (h1 : BesideR w w1 g sb v) (h2 : BesideR w1 w2 g sb v1) (hv : FreshOr w v v1) : BesideR w w2 g sb v := by
  refine ⟨h2.os.trans h1.os, h2.tape.trans h1.tape, h2.output.trans h1.output, Nat.le_trans h1.size h2.size, fun k hk hg hs hr => ?_⟩
  refine (h2.block k (Nat.lt_of_lt_of_le hk h1.size) hg hs ?_).trans (h1.block k hk hg hs hr)
  rcases hv with hv | ⟨n, hn, hv⟩
  · rw [hv]; exact hr
  · rw [hv]; intro e; injection e with e; omega
theorem BesideR.setCell {w w1 : World} {g sb : Nat} {v : Value} (h : BesideR w w1 g sb v) (i : Nat) (x : Value) : BesideR w (w1.setCell ⟨g, i, none⟩ x) g sb v :=
  ⟨h.os, h.tape, h.output, by simpa using h.size, fun k hk hg hs hr => (Below.heap_setCell w1 ⟨g, i, none⟩ x k (fun e => hg e)).trans (h.block k hk hg hs hr)⟩
theorem BesideR.setSeat {w w1 : World} {g sb : Nat} {v : Value} (h : BesideR w w1 g sb v) (i : Nat) (x : Value) : BesideR w (w1.setCell ⟨sb, i, none⟩ x) g sb v :=
  ⟨h.os, h.tape, h.output, by simpa using h.size, fun k hk hg hs hr => (Below.heap_setCell w1 ⟨sb, i, none⟩ x k (fun e => hs e)).trans (h.block k hk hg hs hr)⟩
theorem BesideR.of_grown {w w' : World} (g sb : Nat) (v : Value) (h : w.grownBy w' v.ownBlock) : BesideR w w' g sb v := ⟨h.os, h.tape, h.output, h.size, fun k hk _ _ hr => h.block k hk (fun e => hr e.symm)⟩
theorem RefIn.other {B g sb : Nat} {v : Value} {P : MPair} {w w' : World} (h : RefIn B g sb v P w) (hs : w.heap.size ≤ w'.heap.size) (hg : w'.heap[g]? = w.heap[g]?) (hb : w'.heap[sb]? = w.heap[sb]?) (hv : ∀ k, v.ownBlock = some k → w'.heap[k]? = w.heap[k]?) : RefIn B g sb v P w' :=
  ⟨h.base, h.bases, h.ne, h.blk.heap hs hg, h.sblk.heap hs hb, ownsRow_heap h.own hv, h.apart, h.aparts⟩
theorem RefIn.rel {B g sb : Nat} {v : Value} {P : MPair} {w w' : World} (h : RefIn B g sb v P w) (hb : Below w.heap.size w w') : RefIn B g sb v P w' :=
  h.other hb.size (hb.block g h.blk.lt) (hb.block sb h.sblk.lt) (fun k hk => hb.block k (h.own.lt k hk).2)
theorem BesideR.below {B g sb : Nat} {v : Value} {P : MPair} {w w' : World} (h : BesideR w w' g sb v) (hP : RefIn B g sb v P w) : Below B w w' := by
  refine ⟨h.os, h.tape, h.output, h.size, fun k hk => h.block k ?_ ?_ ?_ ?_⟩
  · have := hP.blk.lt; have := hP.base; omega
  · have := hP.base; omega
  · have := hP.bases; omega
  · intro e; have := (hP.own.lt k e).1; omega
theorem RefGoes.after {B g sb : Nat} {v : Value} {P : MPair} {w W w' : World} (hb : BesideR w W g sb v) (h : RefGoes B g sb v P W w') : RefGoes B g sb v P w w' := by
  obtain ⟨v', h1, h2, h3⟩ := h
  exact ⟨v', h1, hb.trans h2 (.inl rfl), FreshOr.trans (.inl rfl) h3 hb.size⟩
theorem RefGoes.same {B g sb : Nat} {v : Value} {P : MPair} {w w' : World} (h : RefIn B g sb v P w) (hb : Below w.heap.size w w') : RefGoes B g sb v P w w' := ⟨v, h.rel hb, BesideR.of_below hb g sb v, .inl rfl⟩
theorem own_setCellR {B g : Nat} {v : Value} {fl : List (Int × Int)} {w : World} (h : w.ownsRow B 67 2 v fl.length (flV fl)) (hne : v.ownBlock ≠ some g) (i : Nat) (x : Value) : (w.setCell ⟨g, i, none⟩ x).ownsRow B 67 2 v fl.length (flV fl) :=
  ownsRow_heap h (fun k hk => Below.heap_setCell w ⟨g, i, none⟩ x k (fun e => hne (by rw [hk]; exact congrArg some e)))
theorem RefIn.seat1 {B g sb : Nat} {v : Value} {P : MPair} {w : World} (h : RefIn B g sb v P w) (s : MSeat) : RefIn B g sb v ⟨s, P.x, P.fl⟩ (putSeat w sb 0 s) := by
  refine ⟨h.base, h.bases, h.ne, h.blk.seat s (fun e => h.ne e.symm), ?_, ?_, h.apart, h.aparts⟩
  · exact (((h.sblk.set 0 (by simp) (.int .i64 s.p)).set 1 (by simp) (.int .i64 s.d)).set 2 (by simp) (.int .i64 s.s)).set 3 (by simp) (.int .i64 s.h)
  · exact own_setCellR (own_setCellR (own_setCellR (own_setCellR h.own h.aparts _ _) h.aparts _ _) h.aparts _ _) h.aparts _ _
theorem RefIn.seat2 {B g sb : Nat} {v : Value} {P : MPair} {w : World} (h : RefIn B g sb v P w) (s : MSeat) : RefIn B g sb v ⟨P.c, s, P.fl⟩ (putSeat w sb 4 s) := by
  refine ⟨h.base, h.bases, h.ne, h.blk.seat s (fun e => h.ne e.symm), ?_, ?_, h.apart, h.aparts⟩
  · exact (((h.sblk.set 4 (by simp) (.int .i64 s.p)).set 5 (by simp) (.int .i64 s.d)).set 6 (by simp) (.int .i64 s.s)).set 7 (by simp) (.int .i64 s.h)
  · exact own_setCellR (own_setCellR (own_setCellR (own_setCellR h.own h.aparts _ _) h.aparts _ _) h.aparts _ _) h.aparts _ _
/-- its slice of what is on its way is another one -/
theorem RefIn.swap {B g sb : Nat} {v v' : Value} {P : MPair} {w w' : World} (h : RefIn B g sb v P w) (fl : List (Int × Int)) (hs : w.heap.size ≤ w'.heap.size) (hg : w'.heap[g]? = w.heap[g]?) (hb : w'.heap[sb]? = w.heap[sb]?) (ho : w'.ownsRow B 67 2 v' fl.length (flV fl)) (hne : v'.ownBlock ≠ some g) (hns : v'.ownBlock ≠ some sb) :
    RefIn B g sb v' ⟨P.c, P.x, fl⟩ (w'.setCell ⟨g, 1, none⟩ v') :=
  ⟨h.base, h.bases, h.ne, (h.blk.heap hs hg).set 1 (by simp) v', (h.sblk.heap hs hb).other (p := ⟨g, 1, none⟩) h.ne _, own_setCellR ho hne _ _, hne, hns⟩

set_option maxHeartbeats 1000000 in
theorem gnewPair_of (p : Int) (w : World) : Calls Tryd.prog 30 #[.int .i64 p] w fun e w' => ∃ g sb v, e = .returned (.pointer (some ⟨g, 0, none⟩)) ∧ RefIn w.heap.size g sb v (newPair p) w' ∧ Below w.heap.size w w' := by
  go_enter Tryd.func30, Tryd.ntmps30
  go_wp2
  go_ret
  refine ⟨w.heap.size + 1, w.heap.size, .slice none 0 0, rfl, ⟨by omega, Nat.le_refl _, by omega, Blk.fresh _ _ _ _ (by simp), (Blk.fresh w _ _ _ rfl).alloc _, World.ownsRow_nil _ _ _ _, by simp [Value.ownBlock], by simp [Value.ownBlock]⟩, by go_grown⟩
end Go.Proofs.YtkanakhlmmpapaaDoor
