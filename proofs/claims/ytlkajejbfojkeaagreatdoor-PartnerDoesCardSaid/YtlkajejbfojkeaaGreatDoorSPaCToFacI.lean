/- PaC, PaE, PaH, FacH, FacI -/
import Derived.Test.YtlkajejbfojkeaaGreatDoorRows
import Derived.WalkKit
import Derived.WalkSpells
import Derived.WalkLawsBesides
import Derived.BigQuiet
import Derived.Deep.QuietTactic
import Derived.StillTailTactics
import Derived.Handy
import Derived.Lib.Hide
import Derived.Test.YtlkajejbfojkeaaGreatDoorSStoUToPaB
import Derived.Test.YtlkajejbfojkeaaGreatDoorSFacDToStoC
set_option linter.unusedSimpArgs false
set_option linter.unusedVariables false
namespace Go.Proofs.YtlkajejbfojkeaaGreatDoor
open Go.RowKit

structure FrAt (bs : List (Nat × Array Value)) (Q : QLoc) (r : SRes) (w w' : World) : Prop where
 bl : ∀ x ∈ bs, Blk w' x.1 x.2
 ap : ∀ x ∈ bs, x.1 ∉ Q.foot
 nd : (bs.map Prod.fst).Nodup
 q : ResAt Q r w'
 nf : ∀ k ∈ Q.foot, w.heap.size ≤ k
 be : Below w.heap.size w w'
theorem fr_start {bs : List (Nat × Array Value)} {w W : World} (hb : Below w.heap.size w W) (hbl : ∀ x ∈ bs, Blk W x.1 x.2) (hn : (bs.map Prod.fst).Nodup) (T : TypeId) : FrAt bs ⟨W.heap.size, .slice none 0 0, .slice none 0 0⟩ ⟨[], [], 0⟩ w (W.alloc (.cells #[.slice none 0 0, .slice none 0 0, .int .i64 0] T)) := by
 refine ⟨fun x hx => (hbl x hx).alloc _, fun x hx h => ?_, hn, res_fresh W 0 T, fun k hk => ?_, hb.alloc hb.size _⟩
 · have := (hbl x hx).lt
   rcases QLoc.mem.1 h with e | e | e
   · simp at e; omega
   · simp [Value.ownBlock] at e
   · simp [Value.ownBlock] at e
 · have := hb.size
   rcases QLoc.mem.1 hk with e | e | e
   · simp at e; omega
   · simp [Value.ownBlock] at e
   · simp [Value.ownBlock] at e
theorem FrAt.below {bs : List (Nat × Array Value)} {Q : QLoc} {r : SRes} {w w1 w2 : World} (h : FrAt bs Q r w w1) (hb : Below w1.heap.size w1 w2) : FrAt bs Q r w w2 :=
 ⟨fun x hx => (h.bl x hx).below hb, h.ap, h.nd, h.q.below hb, h.nf, below_then h.be hb⟩
theorem FrAt.goes {bs : List (Nat × Array Value)} {Q : QLoc} {r r' : SRes} {w w1 w2 : World} (h : FrAt bs Q r w w1) (hs : QGoes Q r' w1 w2) : ∃ fv mv, FrAt bs ⟨Q.rb, fv, mv⟩ r' w w2 := by
 obtain ⟨⟨rb, fv, mv⟩, h1, h2, h3⟩ := hs
 dsimp only at h1
 subst h1
 refine ⟨fv, mv, fun x hx => (h.bl x hx).same h3.size (h3.block _ (h.bl x hx).lt (h.ap x hx)), fun x hx hk => ?_, h.nd, h2, fun k hk => ?_, h.be.trans (h3.below h.nf h.be.size)⟩
 · rcases h3.new _ hk with e | e
   · exact h.ap x hx e
   · have := (h.bl x hx).lt; omega
 · rcases h3.new k hk with e | e
   · exact h.nf k e
   · exact Nat.le_trans h.be.size e
theorem FrAt.push {bs : List (Nat × Array Value)} {Q : QLoc} {r : SRes} {w w1 : World} (h : FrAt bs Q r w w1) (C : Array Value) (T : TypeId) : FrAt ((w1.heap.size, C) :: bs) Q r w (w1.alloc (.cells C T)) := by
 have hb : Below w1.heap.size w1 (w1.alloc (.cells C T)) := (Below.refl _ _).alloc (Nat.le_refl _) _
 have h2 := h.below hb
 refine ⟨fun x hx => ?_, fun x hx hk => ?_, ?_, h2.q, h2.nf, h2.be⟩
 · rcases List.mem_cons.1 hx with rfl | hx
   · exact Blk.fresh w1 C T _ rfl
   · exact h2.bl x hx
 · rcases List.mem_cons.1 hx with rfl | hx
   · have := h.q.lt _ hk; dsimp only at this; omega
   · exact h2.ap x hx hk
 · rw [List.map_cons, List.nodup_cons]
   refine ⟨fun hm => ?_, h.nd⟩
   obtain ⟨x, hx, he⟩ := List.mem_map.1 hm
   have := (h.bl x hx).lt
   dsimp only at he
   omega
theorem FrAt.set {bs : List (Nat × Array Value)} {b : Nat} {C : Array Value} {Q : QLoc} {r : SRes} {w w1 : World} (h : FrAt ((b, C) :: bs) Q r w w1) (hb : w.heap.size ≤ b) (i : Nat) (hi : i < C.size) (v : Value) : FrAt ((b, C.set i v hi) :: bs) Q r w (w1.setCell ⟨b, i, none⟩ v) := by
 have hn := h.nd
 rw [List.map_cons, List.nodup_cons] at hn
 have hap := h.ap (b, C) (List.mem_cons_self)
 have hset : ∀ k, k ≠ b → (w1.setCell ⟨b, i, none⟩ v).heap[k]? = w1.heap[k]? := fun k hk => Below.heap_setCell _ _ _ _ hk
 refine ⟨fun x hx => ?_, fun x hx hk => ?_, by simpa using hn, ⟨h.q.blk.same (by simp) (hset _ (fun e => hap (QLoc.mem.2 (.inl e.symm)))), row_heap h.q.fs (fun k hk => hset _ (fun e => hap (QLoc.mem.2 (.inr (.inl (by rw [hk, e])))))), row_heap h.q.ms (fun k hk => hset _ (fun e => hap (QLoc.mem.2 (.inr (.inr (by rw [hk, e])))))), h.q.n1, h.q.n2, h.q.n3⟩, h.nf, h.be.setCell hb _⟩
 · rcases List.mem_cons.1 hx with rfl | hx
   · exact (h.bl (b, C) List.mem_cons_self).set' i hi v
   · exact (h.bl x (List.mem_cons_of_mem _ hx)).same (by simp) (hset _ (fun e => hn.1 (List.mem_map.2 ⟨x, hx, e⟩)))
 · rcases List.mem_cons.1 hx with rfl | hx
   · exact hap hk
   · exact h.ap x (List.mem_cons_of_mem _ hx) hk
theorem FrAt.wk {bs : List (Nat × Array Value)} {Q : QLoc} {r : SRes} {w w1 : World} (h : FrAt bs Q r w w1) (x : Int) : FrAt bs Q { r with wk := x } w (w1.setCell ⟨Q.rb, 2, none⟩ (.int .i64 x)) := by
 have hset : ∀ k, k ≠ Q.rb → (w1.setCell ⟨Q.rb, 2, none⟩ (.int .i64 x)).heap[k]? = w1.heap[k]? := fun k hk => Below.heap_setCell _ _ _ _ hk
 refine ⟨fun y hy => (h.bl y hy).same (by simp) (hset _ (fun e => h.ap y hy (QLoc.mem.2 (.inl e)))), h.ap, h.nd, ⟨h.q.blk.set' 2 (by simp) _, row_heap h.q.fs (fun k hk => hset _ (fun e => h.q.n1 (by rw [hk, e]))), row_heap h.q.ms (fun k hk => hset _ (fun e => h.q.n2 (by rw [hk, e]))), h.q.n1, h.q.n2, h.q.n3⟩, h.nf, h.be.setCell (h.nf _ (QLoc.mem.2 (.inl rfl))) _⟩
def ResEnds (r : SRes) (w : World) (e : Ending) (w' : World) : Prop := ∃ fv mv, e = .returned (.agg #[fv, mv, .int .i64 r.wk]) ∧ w'.ownsRow w.heap.size 39 14 fv r.fs.length (factsL r.fs) ∧ w'.ownsRow w.heap.size 81 9 mv r.ms.length (msgsL r.ms) ∧ Below w.heap.size w w'
theorem FrAt.out {bs : List (Nat × Array Value)} {Q : QLoc} {r : SRes} {w w1 w2 : World} (h : FrAt bs Q r w w1) (he : ∀ k ∈ Q.foot, w2.heap[k]? = w1.heap[k]?) (hb : Below w.heap.size w w2) : w2.ownsRow w.heap.size 39 14 Q.fv r.fs.length (factsL r.fs) ∧ w2.ownsRow w.heap.size 81 9 Q.mv r.ms.length (msgsL r.ms) ∧ Below w.heap.size w w2 :=
 ⟨row_up (row_heap h.q.fs (fun k hk => he k (QLoc.mem.2 (.inr (.inl hk))))) (fun k hk => h.nf k (QLoc.mem.2 (.inr (.inl hk)))), row_up (row_heap h.q.ms (fun k hk => he k (QLoc.mem.2 (.inr (.inr hk))))) (fun k hk => h.nf k (QLoc.mem.2 (.inr (.inr hk)))), hb⟩
theorem FrAt.ends {bs : List (Nat × Array Value)} {Q : QLoc} {r : SRes} {w w1 : World} {b : Nat} {C : Array Value} (h : FrAt bs Q r w w1) (hm : (b, C) ∈ bs) (hb : w.heap.size ≤ b) (x y z : Value) :
   (((w1.setCell ⟨b, 0, none⟩ x).setCell ⟨b, 1, none⟩ y).setCell ⟨b, 2, none⟩ z).ownsRow w.heap.size 39 14 Q.fv r.fs.length (factsL r.fs) ∧ (((w1.setCell ⟨b, 0, none⟩ x).setCell ⟨b, 1, none⟩ y).setCell ⟨b, 2, none⟩ z).ownsRow w.heap.size 81 9 Q.mv r.ms.length (msgsL r.ms) ∧ Below w.heap.size w (((w1.setCell ⟨b, 0, none⟩ x).setCell ⟨b, 1, none⟩ y).setCell ⟨b, 2, none⟩ z) :=
 h.out (fun k hk => by
   have hk' : k ≠ b := fun e => h.ap _ hm (e ▸ hk)
   rw [Below.heap_setCell _ _ _ _ hk', Below.heap_setCell _ _ _ _ hk', Below.heap_setCell _ _ _ _ hk']) (((h.be.setCell (p := ⟨b, 0, none⟩) hb _).setCell (p := ⟨b, 1, none⟩) hb _).setCell (p := ⟨b, 2, none⟩) hb _)
theorem ends_call {fs : List SFact} {ms : List SMsg} {w W w2 : World} {fv mv : Value} {b : Nat} (hb : Below w.heap.size w W) (h1 : w2.ownsRow W.heap.size 39 14 fv fs.length (factsL fs)) (h2 : w2.ownsRow W.heap.size 81 9 mv ms.length (msgsL ms)) (h3 : Below W.heap.size W w2) (hbl : w.heap.size ≤ b) (hlt : b < W.heap.size) (x y z : Value) :
   (((w2.setCell ⟨b, 0, none⟩ x).setCell ⟨b, 1, none⟩ y).setCell ⟨b, 2, none⟩ z).ownsRow w.heap.size 39 14 fv fs.length (factsL fs) ∧ (((w2.setCell ⟨b, 0, none⟩ x).setCell ⟨b, 1, none⟩ y).setCell ⟨b, 2, none⟩ z).ownsRow w.heap.size 81 9 mv ms.length (msgsL ms) ∧ Below w.heap.size w (((w2.setCell ⟨b, 0, none⟩ x).setCell ⟨b, 1, none⟩ y).setCell ⟨b, 2, none⟩ z) := by
 have hset : ∀ k, k ≠ b → (((w2.setCell ⟨b, 0, none⟩ x).setCell ⟨b, 1, none⟩ y).setCell ⟨b, 2, none⟩ z).heap[k]? = w2.heap[k]? := fun k hk => by
   rw [Below.heap_setCell _ _ _ _ hk, Below.heap_setCell _ _ _ _ hk, Below.heap_setCell _ _ _ _ hk]
 refine ⟨row_base (row_heap h1 (fun k hk => hset k (fun e => by have := (h1.lt k hk).1; omega))) hb.size, row_base (row_heap h2 (fun k hk => hset k (fun e => by have := (h2.lt k hk).1; omega))) hb.size, (((below_then hb h3).setCell (p := ⟨b, 0, none⟩) hbl _).setCell (p := ⟨b, 1, none⟩) hbl _).setCell (p := ⟨b, 2, none⟩) hbl _⟩
theorem row_form3 {w : World} {B : Nat} {e : TypeId} {size : Nat} {v : Value} {n : Nat} {xs : List Value} (h : w.ownsRow B e size v n xs) : ∃ a m c, v = .slice a m c := by
 obtain ⟨a, cap, h⟩ := row_slice h
 exact ⟨a, n, cap, h⟩
theorem FrAt.lt {bs : List (Nat × Array Value)} {Q : QLoc} {r : SRes} {w w1 : World} (h : FrAt bs Q r w w1) : Q.rb < w1.heap.size := h.q.blk.lt
end Go.Proofs.YtlkajejbfojkeaaGreatDoor

namespace Go.Proofs.YtlkajejbfojkeaaGreatDoor
open Go.RowKit
attribute [local go_sem] store_float

set_option maxRecDepth 100000 in
set_option maxHeartbeats 4000000 in
theorem down_1100 (p : SPart) (nd pt : Int) (m : SMsg) (x : Eff) (w : World) (hp : 0 ≤ p.rg) (hT : ∀ W, Below w.heap.size w W → Calls Tryz.prog 219 #[seatV p.seat, .int .i64 m.k] W (Makes (.tuple #[effV x, .nilIface]) W)) (hc : x.ch = true) (hs : x.send = 0) (hf : x.fault = 0) :
   Calls Tryz.prog 131 #[oneV p nd pt, msgV m] w (ResEnds ⟨[fTurn pt x.seat.s x.seat.h], [], x.work⟩ w) := by
 have HT := Lib.hid hT
 have hP := fun W => placed_of p nd pt W
 rw [decide_eq_true hp] at hP
 have HPl := Lib.hid hP
 have HTu := Lib.hid (fun W => pturned_of (p : SPart) nd pt x.seat W)
 have HRt := Lib.hid (fun Q r W h hl => remember_of Q r (fTurn pt x.seat.s x.seat.h) W h hl)
 obtain ⟨an, aq, rg, ⟨sp, sd, ss, sh⟩⟩ := p
 obtain ⟨mk, fr, to, man, maq, mrg, mpt, mpr, mco⟩ := m
 obtain ⟨⟨xp, xd, xs, xh⟩, send, fault, work, cc⟩ := x
 dsimp only [oneV, msgV, msgA, effV, seatV, factV, factC, fPlace, fTurn, ans, ResEnds] at *
 subst hc
 subst hs
 subst hf
 clear hT hP hp
 go_enter Tryz.func131, Tryz.ntmps131
 go_wp2_with fail
 refine (HPl.out _).mono ?_
 rintro e w1 ⟨rfl, hb1⟩
 have HF := Lib.hid ((fr_start (bs := [(w.heap.size, #[.int .i64 an, .int .i64 aq, .int .i64 rg, .int .i64 sp, .int .i64 sd, .int .i64 ss, .int .i64 sh, .int .i64 nd, .int .i64 pt]), (w.heap.size + 1, #[.int .i64 mk, .int .i64 fr, .int .i64 to, .int .i64 man, .int .i64 maq, .int .i64 mrg, .int .i64 mpt, .int .i64 mpr, .int .i64 mco]), (w.heap.size + 1 + 1, #[.slice none 0 0, .slice none 0 0, .int .i64 0])]) (w := w) (W := ((w.alloc (.cells #[.int .i64 an, .int .i64 aq, .int .i64 rg, .int .i64 sp, .int .i64 sd, .int .i64 ss, .int .i64 sh, .int .i64 nd, .int .i64 pt] 205)).alloc (.cells #[.int .i64 mk, .int .i64 fr, .int .i64 to, .int .i64 man, .int .i64 maq, .int .i64 mrg, .int .i64 mpt, .int .i64 mpr, .int .i64 mco] 81)).alloc (.cells #[.slice none 0 0, .slice none 0 0, .int .i64 0] 87)) (by go_grown) (by
   intro y hy
   simp only [List.mem_cons, List.not_mem_nil, or_false] at hy
   rcases hy with rfl | rfl | rfl
   · exact ((Blk.fresh w _ _ _ rfl).alloc _).alloc _
   · exact (Blk.fresh _ _ _ _ (by simp)).alloc _
   · exact Blk.fresh _ _ _ _ (by simp)) (by simp; omega) 87).below hb1)
 clear hb1
 rw [show (((w.alloc (.cells #[.int .i64 an, .int .i64 aq, .int .i64 rg, .int .i64 sp, .int .i64 sd, .int .i64 ss, .int .i64 sh, .int .i64 nd, .int .i64 pt] 205)).alloc (.cells #[.int .i64 mk, .int .i64 fr, .int .i64 to, .int .i64 man, .int .i64 maq, .int .i64 mrg, .int .i64 mpt, .int .i64 mpr, .int .i64 mco] 81)).alloc (.cells #[.slice none 0 0, .slice none 0 0, .int .i64 0] 87)).heap.size = w.heap.size + 1 + 1 + 1 by simp] at HF
 have hlt := HF.out.lt
 dsimp only at hlt
 have l0 : w.heap.size < w1.heap.size := by omega
 have l1 : w.heap.size + 1 < w1.heap.size := by omega
 have l2 : w.heap.size + 1 + 1 < w1.heap.size := by omega
 have l3 : w.heap.size + 1 + 1 + 1 < w1.heap.size := by omega
 have qp := (HF.out.bl _ (.head _)).cell; have fp := (HF.out.bl _ (.head _)).free; have qm := (HF.out.bl _ (.tail _ (.head _))).cell
 dsimp only at qp fp qm
 go_wp2_with fail
 clear hlt qp fp qm l0 l1 l2 l3
 refine (HT.out _ HF.out.be).mono ?_
 rintro e w2 ⟨rfl, hb2⟩
 have HF := Lib.hid (HF.out.below hb2)
 clear hb2
 have hlt := HF.out.lt
 dsimp only at hlt
 have l0 : w.heap.size < w2.heap.size := by omega
 have l1 : w.heap.size + 1 < w2.heap.size := by omega
 have l2 : w.heap.size + 1 + 1 < w2.heap.size := by omega
 have l3 : w.heap.size + 1 + 1 + 1 < w2.heap.size := by omega
 have qp := (HF.out.bl _ (.head _)).cell; have fp := (HF.out.bl _ (.head _)).free; have qm := (HF.out.bl _ (.tail _ (.head _))).cell
 dsimp only at qp fp qm
 go_wp2_with fail
 clear hlt qp fp qm l0 l1 l2 l3
 have HF := Lib.hid (HF.out.push #[.int .i64 xp, .int .i64 xd, .int .i64 xs, .int .i64 xh, .int .i64 0, .int .i64 0, .int .i64 work, .bool true] 224)
 refine (HTu.out _).mono ?_
 rintro e w3 ⟨rfl, hb3⟩
 have HF := Lib.hid (HF.out.below hb3)
 clear hb3
 have hlt := HF.out.lt
 dsimp only at hlt
 have l0 : w.heap.size < w3.heap.size := by omega
 have l1 : w.heap.size + 1 < w3.heap.size := by omega
 have l2 : w.heap.size + 1 + 1 < w3.heap.size := by omega
 have l3 : w.heap.size + 1 + 1 + 1 < w3.heap.size := by omega
 have qp := (HF.out.bl _ (.tail _ (.head _))).cell; have fp := (HF.out.bl _ (.tail _ (.head _))).free; have qm := (HF.out.bl _ (.tail _ (.tail _ (.head _)))).cell
 dsimp only at qp fp qm
 have qe := (HF.out.bl (w2.heap.size, #[.int .i64 xp, .int .i64 xd, .int .i64 xs, .int .i64 xh, .int .i64 0, .int .i64 0, .int .i64 work, .bool true]) (by simp)).cell
 have he1 := (HF.out.bl (w2.heap.size, #[.int .i64 xp, .int .i64 xd, .int .i64 xs, .int .i64 xh, .int .i64 0, .int .i64 0, .int .i64 work, .bool true]) (by simp)).lt
 dsimp only at qe he1
 go_wp2_with fail
 clear hlt qp fp qm l0 l1 l2 l3 qe he1
 refine (HRt.out _ _ _ HF.out.q (by simp)).mono ?_
 rintro e w4 ⟨rfl, hs4⟩
 obtain ⟨fv4, mv4, hF4⟩ := HF.out.goes hs4
 have HF := Lib.hid hF4
 clear hs4 hF4
 obtain ⟨af, lf, cf, hfv⟩ := row_form3 HF.out.q.fs
 obtain ⟨am, lm, cm, hmv⟩ := row_form3 HF.out.q.ms
 dsimp only at hfv hmv
 subst hfv hmv
 have hlt := HF.out.lt
 dsimp only at hlt
 have l0 : w.heap.size < w4.heap.size := by omega
 have l1 : w.heap.size + 1 < w4.heap.size := by omega
 have l2 : w.heap.size + 1 + 1 < w4.heap.size := by omega
 have l3 : w.heap.size + 1 + 1 + 1 < w4.heap.size := by omega
 have qp := (HF.out.bl _ (.tail _ (.head _))).cell; have fp := (HF.out.bl _ (.tail _ (.head _))).free; have qm := (HF.out.bl _ (.tail _ (.tail _ (.head _)))).cell
 dsimp only at qp fp qm
 have qe := (HF.out.bl (w2.heap.size, #[.int .i64 xp, .int .i64 xd, .int .i64 xs, .int .i64 xh, .int .i64 0, .int .i64 0, .int .i64 work, .bool true]) (by simp)).cell
 have he1 := (HF.out.bl (w2.heap.size, #[.int .i64 xp, .int .i64 xd, .int .i64 xs, .int .i64 xh, .int .i64 0, .int .i64 0, .int .i64 work, .bool true]) (by simp)).lt
 dsimp only at qe he1
 have q0 := HF.out.q.blk.cell; have f0 := HF.out.q.blk.free
 have qv := (HF.out.bl _ (.tail _ (.tail _ (.tail _ (.head _))))).cell; have fv := (HF.out.bl _ (.tail _ (.tail _ (.tail _ (.head _))))).free
 dsimp only at q0 f0 qv fv
 go_wp2_with fail
 refine bodyPost_ret (v := .agg #[.slice af lf cf, .slice am lm cm, .int .i64 work]) (by simp [results, Tryz.results131, go_sem, qv, fv, l2, Nat.ne_of_lt l2]) rfl ⟨_, _, rfl, ?_⟩
 exact (HF.out.wk work).ends (b := w.heap.size + 1 + 1) (C := #[.slice none 0 0, .slice none 0 0, .int .i64 0]) (by simp) (by omega) _ _ _
end Go.Proofs.YtlkajejbfojkeaaGreatDoor

namespace Go.Proofs.YtlkajejbfojkeaaGreatDoor
open Go.RowKit
attribute [local go_sem] store_float

set_option maxRecDepth 100000 in
set_option maxHeartbeats 4000000 in
theorem tell_tt_dn (sb : Value) (p : SPart) (nd : Int) (m : SMsg) (w : World) (hFd : ∀ W, Below w.heap.size w W → Calls Tryz.prog 121 #[sb, .int .i64 m.pt] W (Makes (.tuple #[oneV p nd m.pt, .bool true]) W)) (hft : fitsB p nd m = true) (r : SRes) (h18 : m.k ≠ 18) (h19 : m.k ≠ 19) (h15 : m.k ≠ 15) (hd : isDown m.k = true) (hD : ∀ W, Below w.heap.size w W → Calls Tryz.prog 131 #[oneV p nd m.pt, msgV m] W (ResEnds r W)) :
   Calls Tryz.prog 39 #[sb, msgV m] w (ResEnds r w) := by
 have HFd := Lib.hid hFd
 have hFt := fun W => fits_of p nd m.pt m W
 rw [hft] at hFt
 have HFt := Lib.hid hFt
 have HDo := Lib.hid hD
 have hDn := fun W => down_of m.k W
 rw [hd] at hDn
 have HDn := Lib.hid hDn
 clear hDn hd
 obtain ⟨an, aq, rg, ⟨sp, sd, ss, sh⟩⟩ := p
 obtain ⟨mk, fr, to, man, maq, mrg, mpt, mpr, mco⟩ := m
 dsimp only [oneV, msgV, msgA, seatV, factV, factC, fPlace, fTurn, ans, ResEnds] at *
 skip
 clear hD
 have e18 : (mk == 18) = false := by simpa using h18
 have e19 : (mk == 19) = false := by simpa using h19
 have e15 : (mk == 15) = false := by simpa using h15
 clear h18 h19 h15
 clear hFd hFt hft
 go_enter Tryz.func39, Tryz.ntmps39
 go_wp2_with fail
 refine (HFd.out _ (by go_grown)).mono ?_
 rintro e w1 ⟨rfl, hb1⟩
 have B1 : Below w.heap.size w w1 := below_then (by go_grown) hb1
 have HM := Lib.hid (((Blk.fresh w #[.int .i64 mk, .int .i64 fr, .int .i64 to, .int .i64 man, .int .i64 maq, .int .i64 mrg, .int .i64 mpt, .int .i64 mpr, .int .i64 mco] 81 _ rfl).alloc (.cells #[.slice none 0 0, .slice none 0 0, .int .i64 0] 87)).below hb1)
 have HV := Lib.hid ((Blk.fresh (w.alloc (.cells #[.int .i64 mk, .int .i64 fr, .int .i64 to, .int .i64 man, .int .i64 maq, .int .i64 mrg, .int .i64 mpt, .int .i64 mpr, .int .i64 mco] 81)) #[.slice none 0 0, .slice none 0 0, .int .i64 0] 87 (w.heap.size + 1) (by simp)).below hb1)
 have lm := HM.out.lt
 have lv := HV.out.lt
 have qm := HM.out.cell
 go_wp2_with fail
 clear qm
 refine (HFt.out _).mono ?_
 rintro e w2 ⟨rfl, hb2⟩
 have lp : w1.heap.size < w2.heap.size := by have := hb2.size; simp only [World.size_alloc] at this; omega
 have B2 : Below w.heap.size w w2 := below_then B1 (below_then (by go_grown) hb2)
 have HF := Lib.hid (fr_start (bs := [(w1.heap.size, #[.int .i64 an, .int .i64 aq, .int .i64 rg, .int .i64 sp, .int .i64 sd, .int .i64 ss, .int .i64 sh, .int .i64 nd, .int .i64 mpt]), (w.heap.size, #[.int .i64 mk, .int .i64 fr, .int .i64 to, .int .i64 man, .int .i64 maq, .int .i64 mrg, .int .i64 mpt, .int .i64 mpr, .int .i64 mco]), (w.heap.size + 1, #[.slice none 0 0, .slice none 0 0, .int .i64 0])]) (w := w) (W := w2) B2 (by
   intro y hy
   simp only [List.mem_cons, List.not_mem_nil, or_false] at hy
   rcases hy with rfl | rfl | rfl
   · exact (Blk.fresh w1 _ _ _ rfl).below hb2
   · exact (HM.out.alloc _).below hb2
   · exact (HV.out.alloc _).below hb2) (by simp; omega) 87)
 have HM2 := Lib.hid ((HM.out.alloc (.cells #[.int .i64 an, .int .i64 aq, .int .i64 rg, .int .i64 sp, .int .i64 sd, .int .i64 ss, .int .i64 sh, .int .i64 nd, .int .i64 mpt] 205)).below hb2)
 have HV2 := Lib.hid ((HV.out.alloc (.cells #[.int .i64 an, .int .i64 aq, .int .i64 rg, .int .i64 sp, .int .i64 sd, .int .i64 ss, .int .i64 sh, .int .i64 nd, .int .i64 mpt] 205)).below hb2)
 have HP2 := Lib.hid ((Blk.fresh w1 #[.int .i64 an, .int .i64 aq, .int .i64 rg, .int .i64 sp, .int .i64 sd, .int .i64 ss, .int .i64 sh, .int .i64 nd, .int .i64 mpt] 205 _ rfl).below hb2)
 have lm2 : w.heap.size + 1 < w2.heap.size := by omega
 have lm3 : w.heap.size < w2.heap.size := by omega
 clear hb2
 have qm := HM2.out.cell
 have qp := HP2.out.cell
 go_wp2_with fail
 clear qm qp
 clear hb1
 refine (HDn.out _).mono ?_
 rintro e w3 ⟨rfl, rfl⟩
 have qm := HM2.out.cell; have qv := HV2.out.cell; have fv := HV2.out.free
 have qp := HP2.out.cell
 go_wp2_with fail
 clear qm qv fv qp
 refine (HDn.out _).mono ?_
 rintro e w4 ⟨rfl, rfl⟩
 have qm := HM2.out.cell; have qv := HV2.out.cell; have fv := HV2.out.free
 have qp := HP2.out.cell
 go_wp2_with fail
 clear qm qv fv qp
 refine (HDo.out _ HF.out.be).mono ?_
 rintro e w5 ⟨fvR, mvR, rfl, ho1, ho2, hbR⟩
 have HE := Lib.hid (ends_call (b := w.heap.size + 1) HF.out.be ho1 ho2 hbR (by omega) (HF.out.bl _ (.tail _ (.tail _ (.head _)))).lt)
 have qv := ((HF.out.bl _ (.tail _ (.tail _ (.head _)))).below hbR).cell; have fv := ((HF.out.bl _ (.tail _ (.tail _ (.head _)))).below hbR).free
 have lv2 := ((HF.out.bl _ (.tail _ (.tail _ (.head _)))).below hbR).lt
 dsimp only at qv fv lv2
 obtain ⟨af, lf, cf, hfv⟩ := row_form3 ho1
 obtain ⟨am, lm', cm, hmv⟩ := row_form3 ho2
 subst hfv hmv
 clear ho1 ho2 hbR
 go_wp2_with fail
 refine bodyPost_ret (v := .agg #[.slice af lf cf, .slice am lm' cm, .int .i64 r.wk]) (by simp [results, Tryz.results39, go_sem, qv, fv]) rfl ⟨_, _, rfl, ?_⟩
 exact HE.out _ _ _
end Go.Proofs.YtlkajejbfojkeaaGreatDoor

namespace Go.Proofs.YtlkajejbfojkeaaGreatDoor
open Go.RowKit Go.Shelf
attribute [local go_sem] store_float

def sameF (p f : SFact) : Bool := decide (fplain p.ex = fplain f.ex) && (p.k == f.k && (p.an == f.an && (p.aq == f.aq && (p.rg == f.rg && (p.nd == f.nd && (p.pt == f.pt && (p.pr == f.pr && (p.oc == f.oc && (p.dp == f.dp && (p.pa == f.pa && (p.st == f.st && (p.hw == f.hw && (p.de == f.de)))))))))))))
set_option maxRecDepth 100000 in
set_option maxHeartbeats 4000000 in
theorem factRight_go (f p : SFact) (bk : Bool) (hx : F64 f.ex) (hp : F64 p.ex) (ea : Int → Addr) (w : World) (h : EnvS ea w) (hP : ∀ W, EnvS ea W → Calls Tryz.prog 187 #[factV f] W (Makes (.tuple #[factV p, .bool bk]) W)) :
   Calls Tryz.prog 83 #[factV f] w (Makes (.bool (bk && sameF p f && (forder p.ex f.ex == 0))) w) := by
 have hS : ∀ W, Calls Tryz.prog 188 #[factV p, factV f] W (Makes (.bool (sameF p f)) W) := fun W => factsSame_of _ _ _ _ _ _ _ _ _ _ _ _ _ _ _ _ _ _ _ _ _ _ _ _ _ _ p.ex f.ex hp hx W
 have hO := fun W => forder_of p.ex f.ex hp hx W
 generalize sameF p f = bs at *
 generalize forder p.ex f.ex = o at *
 obtain ⟨k, an, aq, rg, nd, pt, pr, oc, dp, pa, st, hw, de, ex⟩ := f
 obtain ⟨k', an', aq', rg', nd', pt', pr', oc', dp', pa', st', hw', de', ex'⟩ := p
 dsimp only [factV, factC] at *
 have HK := Lib.hid (Blk.fresh w #[.int .i64 k, .int .i64 an, .int .i64 aq, .int .i64 rg, .int .i64 nd, .int .i64 pt, .int .i64 pr, .int .i64 oc, .int .i64 dp, .int .i64 pa, .int .i64 st, .int .i64 hw, .int .i64 de, .float .f64 ex] 39 _ rfl)
 have HB := Lib.hid ((Below.refl w.heap.size w).alloc (Nat.le_refl _) (.cells #[.int .i64 k, .int .i64 an, .int .i64 aq, .int .i64 rg, .int .i64 nd, .int .i64 pt, .int .i64 pr, .int .i64 oc, .int .i64 dp, .int .i64 pa, .int .i64 st, .int .i64 hw, .int .i64 de, .float .f64 ex] 39))
 have HP := Lib.hid (hP _ (h.below HB.out)); have HS := Lib.hid hS; have HO := Lib.hid hO
 clear h hP hS hO hx hp
 go_enter Tryz.func83, Tryz.ntmps83
 go_wp2_with fail
 refine HP.out.mono ?_
 rintro e w1 ⟨rfl, hb1⟩
 have HB1 := Lib.hid (below_then HB.out hb1)
 have HK1 := Lib.hid (HK.out.below hb1)
 have HK2 := Lib.hid (HK1.out.alloc (.cells #[.int .i64 k', .int .i64 an', .int .i64 aq', .int .i64 rg', .int .i64 nd', .int .i64 pt', .int .i64 pr', .int .i64 oc', .int .i64 dp', .int .i64 pa', .int .i64 st', .int .i64 hw', .int .i64 de', .float .f64 ex'] 39))
 have HC2 := Lib.hid (Blk.fresh w1 #[.int .i64 k', .int .i64 an', .int .i64 aq', .int .i64 rg', .int .i64 nd', .int .i64 pt', .int .i64 pr', .int .i64 oc', .int .i64 dp', .int .i64 pa', .int .i64 st', .int .i64 hw', .int .i64 de', .float .f64 ex'] 39 _ rfl)
 have HB2 := Lib.hid (HB1.out.alloc HB1.out.size (.cells #[.int .i64 k', .int .i64 an', .int .i64 aq', .int .i64 rg', .int .i64 nd', .int .i64 pt', .int .i64 pr', .int .i64 oc', .int .i64 dp', .int .i64 pa', .int .i64 st', .int .i64 hw', .int .i64 de', .float .f64 ex'] 39))
 clear hb1
 cases bk with
 | false =>
   go_wp2_with fail
   go_ret
   exact ⟨ret_bool (by simp), HB2.out⟩
 | true =>
   obtain ⟨q, f⟩ := HK2.out.out; obtain ⟨q1, f1⟩ := HC2.out.out
   go_wp2_with fail
   refine (HS.out _).mono ?_
   rintro e w2 ⟨rfl, hb2⟩
   have HB3 := Lib.hid (below_then HB2.out hb2)
   clear q f q1 f1
   obtain ⟨q, f⟩ := (HK2.out.below hb2).out; obtain ⟨q1, f1⟩ := (HC2.out.below hb2).out
   clear hb2
   cases bs with
   | false =>
     go_wp2_with fail
     go_ret
     exact ⟨ret_bool (by simp), HB3.out⟩
   | true =>
     go_wp2_with fail
     refine (HO.out _).mono ?_
     rintro e w3 ⟨rfl, rfl⟩
     go_wp2_with fail
     go_ret
     exact ⟨ret_bool (by simp), HB3.out⟩
end Go.Proofs.YtlkajejbfojkeaaGreatDoor

namespace Go.Proofs.YtlkajejbfojkeaaGreatDoor
open Go.RowKit Go.Shelf

theorem forder_zero (x : Nat) : (forder 0 x == 0) = decide (x = 0) := by
 have h0 : fplace 0 = 0 := by decide +kernel
 unfold forder
 rw [h0]
 unfold fplace
 by_cases hn : fnan x = true
 · rw [if_pos hn]
   have hx : x ≠ 0 := by rintro rfl; revert hn; decide +kernel
   simp [hx]
 · rw [if_neg hn]
   by_cases hl : x < 9223372036854775808
   · rw [if_pos hl]
     by_cases hx : x = 0
     · subst hx; simp
     · have : ¬ ((x : Int) < 0) := by omega
       have h2 : (0 : Int) < (x : Int) := by omega
       rw [if_pos h2]; simp [hx]
   · rw [if_neg hl]
     have hx : x ≠ 0 := by omega
     have h1 : ¬ ((0 : Int) < -1 - ((x : Int) - 9223372036854775808)) := by omega
     have h2 : -1 - ((x : Int) - 9223372036854775808) < 0 := by omega
     rw [if_neg h1, if_pos h2]; simp [hx]
theorem forder_refl (x : Nat) : (forder x x == 0) = true := by simp [forder]
theorem fpl_same (f : SFact) : (fpk f && sameF (fpl f) f && (forder (fpl f).ex f.ex == 0)) = fok f := by
 obtain ⟨k, an, aq, rg, nd, pt, pr, oc, dp, pa, st, hw, de, ex⟩ := f
 by_cases h1 : k = 1
 · subst h1
   simp only [fpk, fpl, sameF, fok, if_true, forder_refl, Bool.and_true]
   rw [Bool.eq_iff_iff]
   simp
   omega
 have hz := forder_zero ex
 by_cases h2 : k = 2
 · subst h2
   by_cases hex : ex = 0
   · subst hex
     simp only [fpk, fpl, sameF, fok, if_true, forder_refl, Bool.and_true, show ¬ ((2 : Int) = 1) by decide, if_false]
     generalize idOk an aq = b1
     generalize stOk st hw = b2
     rw [Bool.eq_iff_iff]
     cases b1 <;> cases b2 <;> simp <;> omega
   · have hd : decide (ex = 0) = false := decide_eq_false hex
     rw [hd] at hz
     simp only [fpk, fpl, sameF, fok, if_true, Bool.and_true, show ¬ ((2 : Int) = 1) by decide, if_false, hz, Bool.and_false]
     simp [hex]
 by_cases h3 : k = 3
 · subst h3
   by_cases hex : ex = 0
   · subst hex
     simp only [fpk, fpl, sameF, fok, if_true, forder_refl, Bool.and_true, show ¬ ((3 : Int) = 1) by decide, if_false, show ¬ ((3 : Int) = 2) by decide]
     generalize idOk an aq = b1
     generalize stOk st hw = b2
     rw [Bool.eq_iff_iff]
     cases b1 <;> cases b2 <;> simp <;> omega
   · have hd : decide (ex = 0) = false := decide_eq_false hex
     rw [hd] at hz
     simp only [fpk, fpl, sameF, fok, if_true, Bool.and_true, show ¬ ((3 : Int) = 1) by decide, if_false, show ¬ ((3 : Int) = 2) by decide, hz, Bool.and_false]
     simp [hex]
 by_cases h4 : k = 4
 · subst h4
   by_cases hex : ex = 0
   · subst hex
     simp only [fpk, fpl, sameF, fok, if_true, forder_refl, Bool.and_true, show ¬ ((4 : Int) = 1) by decide, if_false, show ¬ ((4 : Int) = 2) by decide, show ¬ ((4 : Int) = 3) by decide]
     generalize idOk an aq = b1
     generalize stOk st hw = b2
     rw [Bool.eq_iff_iff]
     cases b1 <;> cases b2 <;> simp <;> omega
   · have hd : decide (ex = 0) = false := decide_eq_false hex
     rw [hd] at hz
     simp only [fpk, fpl, sameF, fok, if_true, Bool.and_true, show ¬ ((4 : Int) = 1) by decide, if_false, show ¬ ((4 : Int) = 2) by decide, show ¬ ((4 : Int) = 3) by decide, hz, Bool.and_false]
     simp [hex]
 by_cases h5 : k = 5
 · subst h5
   by_cases hex : ex = 0
   · subst hex
     simp only [fpk, fpl, sameF, fok, if_true, forder_refl, Bool.and_true, show ¬ ((5 : Int) = 1) by decide, if_false, show ¬ ((5 : Int) = 2) by decide, show ¬ ((5 : Int) = 3) by decide, show ¬ ((5 : Int) = 4) by decide]
     generalize idOk an aq = b1
     generalize stOk st hw = b2
     rw [Bool.eq_iff_iff]
     cases b1 <;> cases b2 <;> simp <;> omega
   · have hd : decide (ex = 0) = false := decide_eq_false hex
     rw [hd] at hz
     simp only [fpk, fpl, sameF, fok, if_true, Bool.and_true, show ¬ ((5 : Int) = 1) by decide, if_false, show ¬ ((5 : Int) = 2) by decide, show ¬ ((5 : Int) = 3) by decide, show ¬ ((5 : Int) = 4) by decide, hz, Bool.and_false]
     simp [hex]
 by_cases h6 : k = 6
 · subst h6
   by_cases hex : ex = 0
   · subst hex
     simp only [fpk, fpl, sameF, fok, if_true, forder_refl, Bool.and_true, show ¬ ((6 : Int) = 1) by decide, if_false, show ¬ ((6 : Int) = 2) by decide, show ¬ ((6 : Int) = 3) by decide, show ¬ ((6 : Int) = 4) by decide, show ¬ ((6 : Int) = 5) by decide]
     generalize idOk an aq = b1
     generalize stOk st hw = b2
     rw [Bool.eq_iff_iff]
     cases b1 <;> cases b2 <;> simp <;> omega
   · have hd : decide (ex = 0) = false := decide_eq_false hex
     rw [hd] at hz
     simp only [fpk, fpl, sameF, fok, if_true, Bool.and_true, show ¬ ((6 : Int) = 1) by decide, if_false, show ¬ ((6 : Int) = 2) by decide, show ¬ ((6 : Int) = 3) by decide, show ¬ ((6 : Int) = 4) by decide, show ¬ ((6 : Int) = 5) by decide, hz, Bool.and_false]
     simp [hex]
 by_cases h7 : k = 7
 · subst h7
   by_cases hex : ex = 0
   · subst hex
     simp only [fpk, fpl, sameF, fok, if_true, forder_refl, Bool.and_true, show ¬ ((7 : Int) = 1) by decide, if_false, show ¬ ((7 : Int) = 2) by decide, show ¬ ((7 : Int) = 3) by decide, show ¬ ((7 : Int) = 4) by decide, show ¬ ((7 : Int) = 5) by decide, show ¬ ((7 : Int) = 6) by decide]
     generalize idOk an aq = b1
     generalize stOk st hw = b2
     rw [Bool.eq_iff_iff]
     cases b1 <;> cases b2 <;> simp <;> omega
   · have hd : decide (ex = 0) = false := decide_eq_false hex
     rw [hd] at hz
     simp only [fpk, fpl, sameF, fok, if_true, Bool.and_true, show ¬ ((7 : Int) = 1) by decide, if_false, show ¬ ((7 : Int) = 2) by decide, show ¬ ((7 : Int) = 3) by decide, show ¬ ((7 : Int) = 4) by decide, show ¬ ((7 : Int) = 5) by decide, show ¬ ((7 : Int) = 6) by decide, hz, Bool.and_false]
     simp [hex]
 by_cases h8 : k = 8
 · subst h8
   by_cases hex : ex = 0
   · subst hex
     simp only [fpk, fpl, sameF, fok, if_true, forder_refl, Bool.and_true, show ¬ ((8 : Int) = 1) by decide, if_false, show ¬ ((8 : Int) = 2) by decide, show ¬ ((8 : Int) = 3) by decide, show ¬ ((8 : Int) = 4) by decide, show ¬ ((8 : Int) = 5) by decide, show ¬ ((8 : Int) = 6) by decide, show ¬ ((8 : Int) = 7) by decide]
     generalize idOk an aq = b1
     generalize stOk st hw = b2
     rw [Bool.eq_iff_iff]
     cases b1 <;> cases b2 <;> simp <;> omega
   · have hd : decide (ex = 0) = false := decide_eq_false hex
     rw [hd] at hz
     simp only [fpk, fpl, sameF, fok, if_true, Bool.and_true, show ¬ ((8 : Int) = 1) by decide, if_false, show ¬ ((8 : Int) = 2) by decide, show ¬ ((8 : Int) = 3) by decide, show ¬ ((8 : Int) = 4) by decide, show ¬ ((8 : Int) = 5) by decide, show ¬ ((8 : Int) = 6) by decide, show ¬ ((8 : Int) = 7) by decide, hz, Bool.and_false]
     simp [hex]
 by_cases hex : ex = 0
 all_goals simp [fpk, fok, h1, h2, h3, h4, h5, h6, h7, h8]
theorem factRight_of (f : SFact) (hx : F64 f.ex) (ea : Int → Addr) (w : World) (h : EnvS ea w) : Calls Tryz.prog 83 #[factV f] w (Makes (.bool (fok f)) w) := by
 have hp : F64 (fpl f).ex := by
   unfold fpl
   repeat' split
   all_goals first | exact hx | exact f64_zero
 rw [← fpl_same f]
 exact factRight_go f (fpl f) (fpk f) hx hp ea w h (fun W hW => plainF_of f hx ea W hW)
end Go.Proofs.YtlkajejbfojkeaaGreatDoor
