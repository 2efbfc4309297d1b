/- PaC, PaE, PaF -/
import Derived.Test.YtlkajejbfojkeaaGreatDoorRows
import Derived.WalkKit
import Derived.WalkSpells
import Derived.WalkLawsBesides
import Derived.BigQuiet
import Derived.Deep.QuietTactic
import Derived.StillTailTactics
import Derived.Handy
import Derived.Lib.Hide
import Derived.Test.YtlkajejbfojkeaaGreatDoorRStoUToPaB
set_option linter.unusedSimpArgs false
set_option linter.unusedVariables false
namespace Go.Proofs.YtlkajejbfojkeaaGreatDoor
open Go.RowKit

structure FrAt (bs : List (Nat × Array Value)) (Q : QLoc) (r : SRes) (w w' : World) : Prop where
 bl : ∀ x ∈ bs, Blk w' x.1 x.2
 ap : ∀ x ∈ bs, x.1 ∉ Q.foot
 nd : (bs.map Prod.fst).Nodup
 q : ResAt Q r w'
 nf : ∀ k ∈ Q.foot, w.heap.size ≤ k
 be : Below w.heap.size w w'
theorem fr_start {bs : List (Nat × Array Value)} {w W : World} (hb : Below w.heap.size w W) (hbl : ∀ x ∈ bs, Blk W x.1 x.2) (hn : (bs.map Prod.fst).Nodup) (T : TypeId) : FrAt bs ⟨W.heap.size, .slice none 0 0, .slice none 0 0⟩ ⟨[], [], 0⟩ w (W.alloc (.cells #[.slice none 0 0, .slice none 0 0, .int .i64 0] T)) := by
 refine ⟨fun x hx => (hbl x hx).alloc _, fun x hx h => ?_, hn, res_fresh W 0 T, fun k hk => ?_, hb.alloc hb.size _⟩
 · have := (hbl x hx).lt
   rcases QLoc.mem.1 h with e | e | e
   · simp at e; omega
   · simp [Value.ownBlock] at e
   · simp [Value.ownBlock] at e
 · have := hb.size
   rcases QLoc.mem.1 hk with e | e | e
   · simp at e; omega
   · simp [Value.ownBlock] at e
   · simp [Value.ownBlock] at e
theorem FrAt.below {bs : List (Nat × Array Value)} {Q : QLoc} {r : SRes} {w w1 w2 : World} (h : FrAt bs Q r w w1) (hb : Below w1.heap.size w1 w2) : FrAt bs Q r w w2 :=
 ⟨fun x hx => (h.bl x hx).below hb, h.ap, h.nd, h.q.below hb, h.nf, below_then h.be hb⟩
theorem FrAt.goes {bs : List (Nat × Array Value)} {Q : QLoc} {r r' : SRes} {w w1 w2 : World} (h : FrAt bs Q r w w1) (hs : QGoes Q r' w1 w2) : ∃ fv mv, FrAt bs ⟨Q.rb, fv, mv⟩ r' w w2 := by
 obtain ⟨⟨rb, fv, mv⟩, h1, h2, h3⟩ := hs
 dsimp only at h1
 subst h1
 refine ⟨fv, mv, fun x hx => (h.bl x hx).same h3.size (h3.block _ (h.bl x hx).lt (h.ap x hx)), fun x hx hk => ?_, h.nd, h2, fun k hk => ?_, h.be.trans (h3.below h.nf h.be.size)⟩
 · rcases h3.new _ hk with e | e
   · exact h.ap x hx e
   · have := (h.bl x hx).lt; omega
 · rcases h3.new k hk with e | e
   · exact h.nf k e
   · exact Nat.le_trans h.be.size e
theorem FrAt.push {bs : List (Nat × Array Value)} {Q : QLoc} {r : SRes} {w w1 : World} (h : FrAt bs Q r w w1) (C : Array Value) (T : TypeId) : FrAt ((w1.heap.size, C) :: bs) Q r w (w1.alloc (.cells C T)) := by
 have hb : Below w1.heap.size w1 (w1.alloc (.cells C T)) := (Below.refl _ _).alloc (Nat.le_refl _) _
 have h2 := h.below hb
 refine ⟨fun x hx => ?_, fun x hx hk => ?_, ?_, h2.q, h2.nf, h2.be⟩
 · rcases List.mem_cons.1 hx with rfl | hx
   · exact Blk.fresh w1 C T _ rfl
   · exact h2.bl x hx
 · rcases List.mem_cons.1 hx with rfl | hx
   · have := h.q.lt _ hk; dsimp only at this; omega
   · exact h2.ap x hx hk
 · rw [List.map_cons, List.nodup_cons]
   refine ⟨fun hm => ?_, h.nd⟩
   obtain ⟨x, hx, he⟩ := List.mem_map.1 hm
   have := (h.bl x hx).lt
   dsimp only at he
   omega
theorem FrAt.set {bs : List (Nat × Array Value)} {b : Nat} {C : Array Value} {Q : QLoc} {r : SRes} {w w1 : World} (h : FrAt ((b, C) :: bs) Q r w w1) (hb : w.heap.size ≤ b) (i : Nat) (hi : i < C.size) (v : Value) : FrAt ((b, C.set i v hi) :: bs) Q r w (w1.setCell ⟨b, i, none⟩ v) := by
 have hn := h.nd
 rw [List.map_cons, List.nodup_cons] at hn
 have hap := h.ap (b, C) (List.mem_cons_self)
 have hset : ∀ k, k ≠ b → (w1.setCell ⟨b, i, none⟩ v).heap[k]? = w1.heap[k]? := fun k hk => Below.heap_setCell _ _ _ _ hk
 refine ⟨fun x hx => ?_, fun x hx hk => ?_, by simpa using hn, ⟨h.q.blk.same (by simp) (hset _ (fun e => hap (QLoc.mem.2 (.inl e.symm)))), row_heap h.q.fs (fun k hk => hset _ (fun e => hap (QLoc.mem.2 (.inr (.inl (by rw [hk, e])))))), row_heap h.q.ms (fun k hk => hset _ (fun e => hap (QLoc.mem.2 (.inr (.inr (by rw [hk, e])))))), h.q.n1, h.q.n2, h.q.n3⟩, h.nf, h.be.setCell hb _⟩
 · rcases List.mem_cons.1 hx with rfl | hx
   · exact (h.bl (b, C) List.mem_cons_self).set' i hi v
   · exact (h.bl x (List.mem_cons_of_mem _ hx)).same (by simp) (hset _ (fun e => hn.1 (List.mem_map.2 ⟨x, hx, e⟩)))
 · rcases List.mem_cons.1 hx with rfl | hx
   · exact hap hk
   · exact h.ap x (List.mem_cons_of_mem _ hx) hk
theorem FrAt.wk {bs : List (Nat × Array Value)} {Q : QLoc} {r : SRes} {w w1 : World} (h : FrAt bs Q r w w1) (x : Int) : FrAt bs Q { r with wk := x } w (w1.setCell ⟨Q.rb, 2, none⟩ (.int .i64 x)) := by
 have hset : ∀ k, k ≠ Q.rb → (w1.setCell ⟨Q.rb, 2, none⟩ (.int .i64 x)).heap[k]? = w1.heap[k]? := fun k hk => Below.heap_setCell _ _ _ _ hk
 refine ⟨fun y hy => (h.bl y hy).same (by simp) (hset _ (fun e => h.ap y hy (QLoc.mem.2 (.inl e)))), h.ap, h.nd, ⟨h.q.blk.set' 2 (by simp) _, row_heap h.q.fs (fun k hk => hset _ (fun e => h.q.n1 (by rw [hk, e]))), row_heap h.q.ms (fun k hk => hset _ (fun e => h.q.n2 (by rw [hk, e]))), h.q.n1, h.q.n2, h.q.n3⟩, h.nf, h.be.setCell (h.nf _ (QLoc.mem.2 (.inl rfl))) _⟩
def ResEnds (r : SRes) (w : World) (e : Ending) (w' : World) : Prop := ∃ fv mv, e = .returned (.agg #[fv, mv, .int .i64 r.wk]) ∧ w'.ownsRow w.heap.size 39 14 fv r.fs.length (factsL r.fs) ∧ w'.ownsRow w.heap.size 81 9 mv r.ms.length (msgsL r.ms) ∧ Below w.heap.size w w'
theorem FrAt.out {bs : List (Nat × Array Value)} {Q : QLoc} {r : SRes} {w w1 w2 : World} (h : FrAt bs Q r w w1) (he : ∀ k ∈ Q.foot, w2.heap[k]? = w1.heap[k]?) (hb : Below w.heap.size w w2) : w2.ownsRow w.heap.size 39 14 Q.fv r.fs.length (factsL r.fs) ∧ w2.ownsRow w.heap.size 81 9 Q.mv r.ms.length (msgsL r.ms) ∧ Below w.heap.size w w2 :=
 ⟨row_up (row_heap h.q.fs (fun k hk => he k (QLoc.mem.2 (.inr (.inl hk))))) (fun k hk => h.nf k (QLoc.mem.2 (.inr (.inl hk)))), row_up (row_heap h.q.ms (fun k hk => he k (QLoc.mem.2 (.inr (.inr hk))))) (fun k hk => h.nf k (QLoc.mem.2 (.inr (.inr hk)))), hb⟩
theorem FrAt.ends {bs : List (Nat × Array Value)} {Q : QLoc} {r : SRes} {w w1 : World} {b : Nat} {C : Array Value} (h : FrAt bs Q r w w1) (hm : (b, C) ∈ bs) (hb : w.heap.size ≤ b) (x y z : Value) :
   (((w1.setCell ⟨b, 0, none⟩ x).setCell ⟨b, 1, none⟩ y).setCell ⟨b, 2, none⟩ z).ownsRow w.heap.size 39 14 Q.fv r.fs.length (factsL r.fs) ∧ (((w1.setCell ⟨b, 0, none⟩ x).setCell ⟨b, 1, none⟩ y).setCell ⟨b, 2, none⟩ z).ownsRow w.heap.size 81 9 Q.mv r.ms.length (msgsL r.ms) ∧ Below w.heap.size w (((w1.setCell ⟨b, 0, none⟩ x).setCell ⟨b, 1, none⟩ y).setCell ⟨b, 2, none⟩ z) :=
 h.out (fun k hk => by
   have hk' : k ≠ b := fun e => h.ap _ hm (e ▸ hk)
   rw [Below.heap_setCell _ _ _ _ hk', Below.heap_setCell _ _ _ _ hk', Below.heap_setCell _ _ _ _ hk']) (((h.be.setCell (p := ⟨b, 0, none⟩) hb _).setCell (p := ⟨b, 1, none⟩) hb _).setCell (p := ⟨b, 2, none⟩) hb _)
theorem ends_then {fs : List SFact} {ms : List SMsg} {w W W' : World} {fv mv : Value} (h : W.ownsRow w.heap.size 39 14 fv fs.length (factsL fs) ∧ W.ownsRow w.heap.size 81 9 mv ms.length (msgsL ms) ∧ Below w.heap.size w W) (hb : Below W.heap.size W W') :
   W'.ownsRow w.heap.size 39 14 fv fs.length (factsL fs) ∧ W'.ownsRow w.heap.size 81 9 mv ms.length (msgsL ms) ∧ Below w.heap.size w W' :=
 ⟨row_heap h.1 (fun k hk => hb.block k (h.1.lt k hk).2), row_heap h.2.1 (fun k hk => hb.block k (h.2.1.lt k hk).2), below_then h.2.2 hb⟩
theorem ends_call {fs : List SFact} {ms : List SMsg} {w W w2 : World} {fv mv : Value} {b : Nat} (hb : Below w.heap.size w W) (h1 : w2.ownsRow W.heap.size 39 14 fv fs.length (factsL fs)) (h2 : w2.ownsRow W.heap.size 81 9 mv ms.length (msgsL ms)) (h3 : Below W.heap.size W w2) (hbl : w.heap.size ≤ b) (hlt : b < W.heap.size) (x y z : Value) :
   (((w2.setCell ⟨b, 0, none⟩ x).setCell ⟨b, 1, none⟩ y).setCell ⟨b, 2, none⟩ z).ownsRow w.heap.size 39 14 fv fs.length (factsL fs) ∧ (((w2.setCell ⟨b, 0, none⟩ x).setCell ⟨b, 1, none⟩ y).setCell ⟨b, 2, none⟩ z).ownsRow w.heap.size 81 9 mv ms.length (msgsL ms) ∧ Below w.heap.size w (((w2.setCell ⟨b, 0, none⟩ x).setCell ⟨b, 1, none⟩ y).setCell ⟨b, 2, none⟩ z) := by
 have hset : ∀ k, k ≠ b → (((w2.setCell ⟨b, 0, none⟩ x).setCell ⟨b, 1, none⟩ y).setCell ⟨b, 2, none⟩ z).heap[k]? = w2.heap[k]? := fun k hk => by
   rw [Below.heap_setCell _ _ _ _ hk, Below.heap_setCell _ _ _ _ hk, Below.heap_setCell _ _ _ _ hk]
 refine ⟨row_base (row_heap h1 (fun k hk => hset k (fun e => by have := (h1.lt k hk).1; omega))) hb.size, row_base (row_heap h2 (fun k hk => hset k (fun e => by have := (h2.lt k hk).1; omega))) hb.size, (((below_then hb h3).setCell (p := ⟨b, 0, none⟩) hbl _).setCell (p := ⟨b, 1, none⟩) hbl _).setCell (p := ⟨b, 2, none⟩) hbl _⟩
theorem row_form3 {w : World} {B : Nat} {e : TypeId} {size : Nat} {v : Value} {n : Nat} {xs : List Value} (h : w.ownsRow B e size v n xs) : ∃ a m c, v = .slice a m c := by
 obtain ⟨a, cap, h⟩ := row_slice h
 exact ⟨a, n, cap, h⟩
theorem FrAt.lt {bs : List (Nat × Array Value)} {Q : QLoc} {r : SRes} {w w1 : World} (h : FrAt bs Q r w w1) : Q.rb < w1.heap.size := h.q.blk.lt
end Go.Proofs.YtlkajejbfojkeaaGreatDoor

namespace Go.Proofs.YtlkajejbfojkeaaGreatDoor
open Go.RowKit
attribute [local go_sem] store_float

set_option maxRecDepth 100000 in
set_option maxHeartbeats 4000000 in
theorem down_1000 (p : SPart) (nd pt : Int) (m : SMsg) (x : Eff) (w : World) (hp : 0 ≤ p.rg) (hT : ∀ W, Below w.heap.size w W → Calls Tryz.prog 219 #[seatV p.seat, .int .i64 m.k] W (Makes (.tuple #[effV x, .nilIface]) W)) (hc : x.ch = false) (hs : x.send = 0) (hf : x.fault = 0) :
   Calls Tryz.prog 131 #[oneV p nd pt, msgV m] w (ResEnds ⟨[], [], x.work⟩ w) := by
 have HT := Lib.hid hT
 have hP := fun W => placed_of p nd pt W
 rw [decide_eq_true hp] at hP
 have HPl := Lib.hid hP
 obtain ⟨an, aq, rg, ⟨sp, sd, ss, sh⟩⟩ := p
 obtain ⟨mk, fr, to, man, maq, mrg, mpt, mpr, mco⟩ := m
 obtain ⟨⟨xp, xd, xs, xh⟩, send, fault, work, cc⟩ := x
 dsimp only [oneV, msgV, msgA, effV, seatV, factV, factC, fPlace, fTurn, ans, ResEnds] at *
 subst hc
 subst hs
 subst hf
 clear hT hP hp
 go_enter Tryz.func131, Tryz.ntmps131
 go_wp2_with fail
 refine (HPl.out _).mono ?_
 rintro e w1 ⟨rfl, hb1⟩
 have HF := Lib.hid ((fr_start (bs := [(w.heap.size, #[.int .i64 an, .int .i64 aq, .int .i64 rg, .int .i64 sp, .int .i64 sd, .int .i64 ss, .int .i64 sh, .int .i64 nd, .int .i64 pt]), (w.heap.size + 1, #[.int .i64 mk, .int .i64 fr, .int .i64 to, .int .i64 man, .int .i64 maq, .int .i64 mrg, .int .i64 mpt, .int .i64 mpr, .int .i64 mco]), (w.heap.size + 1 + 1, #[.slice none 0 0, .slice none 0 0, .int .i64 0])]) (w := w) (W := ((w.alloc (.cells #[.int .i64 an, .int .i64 aq, .int .i64 rg, .int .i64 sp, .int .i64 sd, .int .i64 ss, .int .i64 sh, .int .i64 nd, .int .i64 pt] 205)).alloc (.cells #[.int .i64 mk, .int .i64 fr, .int .i64 to, .int .i64 man, .int .i64 maq, .int .i64 mrg, .int .i64 mpt, .int .i64 mpr, .int .i64 mco] 81)).alloc (.cells #[.slice none 0 0, .slice none 0 0, .int .i64 0] 87)) (by go_grown) (by
   intro y hy
   simp only [List.mem_cons, List.not_mem_nil, or_false] at hy
   rcases hy with rfl | rfl | rfl
   · exact ((Blk.fresh w _ _ _ rfl).alloc _).alloc _
   · exact (Blk.fresh _ _ _ _ (by simp)).alloc _
   · exact Blk.fresh _ _ _ _ (by simp)) (by simp; omega) 87).below hb1)
 clear hb1
 rw [show (((w.alloc (.cells #[.int .i64 an, .int .i64 aq, .int .i64 rg, .int .i64 sp, .int .i64 sd, .int .i64 ss, .int .i64 sh, .int .i64 nd, .int .i64 pt] 205)).alloc (.cells #[.int .i64 mk, .int .i64 fr, .int .i64 to, .int .i64 man, .int .i64 maq, .int .i64 mrg, .int .i64 mpt, .int .i64 mpr, .int .i64 mco] 81)).alloc (.cells #[.slice none 0 0, .slice none 0 0, .int .i64 0] 87)).heap.size = w.heap.size + 1 + 1 + 1 by simp] at HF
 have hlt := HF.out.lt
 dsimp only at hlt
 have l0 : w.heap.size < w1.heap.size := by omega
 have l1 : w.heap.size + 1 < w1.heap.size := by omega
 have l2 : w.heap.size + 1 + 1 < w1.heap.size := by omega
 have l3 : w.heap.size + 1 + 1 + 1 < w1.heap.size := by omega
 have qp := (HF.out.bl _ (.head _)).cell; have fp := (HF.out.bl _ (.head _)).free; have qm := (HF.out.bl _ (.tail _ (.head _))).cell
 dsimp only at qp fp qm
 go_wp2_with fail
 clear hlt qp fp qm l0 l1 l2 l3
 refine (HT.out _ HF.out.be).mono ?_
 rintro e w2 ⟨rfl, hb2⟩
 have HF := Lib.hid (HF.out.below hb2)
 clear hb2
 have hlt := HF.out.lt
 dsimp only at hlt
 have l0 : w.heap.size < w2.heap.size := by omega
 have l1 : w.heap.size + 1 < w2.heap.size := by omega
 have l2 : w.heap.size + 1 + 1 < w2.heap.size := by omega
 have l3 : w.heap.size + 1 + 1 + 1 < w2.heap.size := by omega
 have qp := (HF.out.bl _ (.head _)).cell; have fp := (HF.out.bl _ (.head _)).free; have qm := (HF.out.bl _ (.tail _ (.head _))).cell
 dsimp only at qp fp qm
 have q0 := HF.out.q.blk.cell; have f0 := HF.out.q.blk.free
 have qv := (HF.out.bl _ (.tail _ (.tail _ (.head _)))).cell; have fv := (HF.out.bl _ (.tail _ (.tail _ (.head _)))).free
 dsimp only at q0 f0 qv fv
 go_wp2_with fail
 refine bodyPost_ret (v := .agg #[.slice none 0 0, .slice none 0 0, .int .i64 work]) (by simp [results, Tryz.results131, go_sem, qv, fv, l2, Nat.ne_of_lt l2]) rfl ⟨_, _, rfl, ?_⟩
 exact ends_then ((HF.out.wk work).ends (b := w.heap.size + 1 + 1) (C := #[.slice none 0 0, .slice none 0 0, .int .i64 0]) (by simp) (by omega) (.slice none 0 0) (.slice none 0 0) (.int .i64 work)) ((Below.refl _ _).alloc (Nat.le_refl _) _)
set_option maxRecDepth 100000 in
set_option maxHeartbeats 4000000 in
theorem down_1001 (p : SPart) (nd pt : Int) (m : SMsg) (x : Eff) (w : World) (hp : 0 ≤ p.rg) (hT : ∀ W, Below w.heap.size w W → Calls Tryz.prog 219 #[seatV p.seat, .int .i64 m.k] W (Makes (.tuple #[effV x, .nilIface]) W)) (hc : x.ch = false) (hs : x.send = 0) (hf : x.fault ≠ 0) :
   Calls Tryz.prog 131 #[oneV p nd pt, msgV m] w (ResEnds ⟨[], [ans m 19 x.fault], x.work⟩ w) := by
 have HT := Lib.hid hT
 have hP := fun W => placed_of p nd pt W
 rw [decide_eq_true hp] at hP
 have HPl := Lib.hid hP
 have HAn := Lib.hid (fun W => answer_of m 19 x.fault W)
 have HSa := Lib.hid (fun Q r W h hl => send_of Q r (ans m 19 x.fault) W h hl)
 obtain ⟨an, aq, rg, ⟨sp, sd, ss, sh⟩⟩ := p
 obtain ⟨mk, fr, to, man, maq, mrg, mpt, mpr, mco⟩ := m
 obtain ⟨⟨xp, xd, xs, xh⟩, send, fault, work, cc⟩ := x
 dsimp only [oneV, msgV, msgA, effV, seatV, factV, factC, fPlace, fTurn, ans, ResEnds] at *
 subst hc
 subst hs
 have df : (fault != 0) = true := by simpa using hf
 clear hT hP hf hp
 go_enter Tryz.func131, Tryz.ntmps131
 go_wp2_with fail
 refine (HPl.out _).mono ?_
 rintro e w1 ⟨rfl, hb1⟩
 have HF := Lib.hid ((fr_start (bs := [(w.heap.size, #[.int .i64 an, .int .i64 aq, .int .i64 rg, .int .i64 sp, .int .i64 sd, .int .i64 ss, .int .i64 sh, .int .i64 nd, .int .i64 pt]), (w.heap.size + 1, #[.int .i64 mk, .int .i64 fr, .int .i64 to, .int .i64 man, .int .i64 maq, .int .i64 mrg, .int .i64 mpt, .int .i64 mpr, .int .i64 mco]), (w.heap.size + 1 + 1, #[.slice none 0 0, .slice none 0 0, .int .i64 0])]) (w := w) (W := ((w.alloc (.cells #[.int .i64 an, .int .i64 aq, .int .i64 rg, .int .i64 sp, .int .i64 sd, .int .i64 ss, .int .i64 sh, .int .i64 nd, .int .i64 pt] 205)).alloc (.cells #[.int .i64 mk, .int .i64 fr, .int .i64 to, .int .i64 man, .int .i64 maq, .int .i64 mrg, .int .i64 mpt, .int .i64 mpr, .int .i64 mco] 81)).alloc (.cells #[.slice none 0 0, .slice none 0 0, .int .i64 0] 87)) (by go_grown) (by
   intro y hy
   simp only [List.mem_cons, List.not_mem_nil, or_false] at hy
   rcases hy with rfl | rfl | rfl
   · exact ((Blk.fresh w _ _ _ rfl).alloc _).alloc _
   · exact (Blk.fresh _ _ _ _ (by simp)).alloc _
   · exact Blk.fresh _ _ _ _ (by simp)) (by simp; omega) 87).below hb1)
 clear hb1
 rw [show (((w.alloc (.cells #[.int .i64 an, .int .i64 aq, .int .i64 rg, .int .i64 sp, .int .i64 sd, .int .i64 ss, .int .i64 sh, .int .i64 nd, .int .i64 pt] 205)).alloc (.cells #[.int .i64 mk, .int .i64 fr, .int .i64 to, .int .i64 man, .int .i64 maq, .int .i64 mrg, .int .i64 mpt, .int .i64 mpr, .int .i64 mco] 81)).alloc (.cells #[.slice none 0 0, .slice none 0 0, .int .i64 0] 87)).heap.size = w.heap.size + 1 + 1 + 1 by simp] at HF
 have hlt := HF.out.lt
 dsimp only at hlt
 have l0 : w.heap.size < w1.heap.size := by omega
 have l1 : w.heap.size + 1 < w1.heap.size := by omega
 have l2 : w.heap.size + 1 + 1 < w1.heap.size := by omega
 have l3 : w.heap.size + 1 + 1 + 1 < w1.heap.size := by omega
 have qp := (HF.out.bl _ (.head _)).cell; have fp := (HF.out.bl _ (.head _)).free; have qm := (HF.out.bl _ (.tail _ (.head _))).cell
 dsimp only at qp fp qm
 go_wp2_with fail
 clear hlt qp fp qm l0 l1 l2 l3
 refine (HT.out _ HF.out.be).mono ?_
 rintro e w2 ⟨rfl, hb2⟩
 have HF := Lib.hid (HF.out.below hb2)
 clear hb2
 have hlt := HF.out.lt
 dsimp only at hlt
 have l0 : w.heap.size < w2.heap.size := by omega
 have l1 : w.heap.size + 1 < w2.heap.size := by omega
 have l2 : w.heap.size + 1 + 1 < w2.heap.size := by omega
 have l3 : w.heap.size + 1 + 1 + 1 < w2.heap.size := by omega
 have qp := (HF.out.bl _ (.head _)).cell; have fp := (HF.out.bl _ (.head _)).free; have qm := (HF.out.bl _ (.tail _ (.head _))).cell
 dsimp only at qp fp qm
 go_wp2_with fail
 clear hlt qp fp qm l0 l1 l2 l3
 have HF := Lib.hid (HF.out.push #[.int .i64 xp, .int .i64 xd, .int .i64 xs, .int .i64 xh, .int .i64 0, .int .i64 fault, .int .i64 work, .bool false] 224)
 refine (HAn.out _).mono ?_
 rintro e w3 ⟨rfl, hb3⟩
 have HF := Lib.hid (HF.out.below hb3)
 clear hb3
 have hlt := HF.out.lt
 dsimp only at hlt
 have l0 : w.heap.size < w3.heap.size := by omega
 have l1 : w.heap.size + 1 < w3.heap.size := by omega
 have l2 : w.heap.size + 1 + 1 < w3.heap.size := by omega
 have l3 : w.heap.size + 1 + 1 + 1 < w3.heap.size := by omega
 have qp := (HF.out.bl _ (.tail _ (.head _))).cell; have fp := (HF.out.bl _ (.tail _ (.head _))).free; have qm := (HF.out.bl _ (.tail _ (.tail _ (.head _)))).cell
 dsimp only at qp fp qm
 have qe := (HF.out.bl (w2.heap.size, #[.int .i64 xp, .int .i64 xd, .int .i64 xs, .int .i64 xh, .int .i64 0, .int .i64 fault, .int .i64 work, .bool false]) (by simp)).cell
 have he1 := (HF.out.bl (w2.heap.size, #[.int .i64 xp, .int .i64 xd, .int .i64 xs, .int .i64 xh, .int .i64 0, .int .i64 fault, .int .i64 work, .bool false]) (by simp)).lt
 dsimp only at qe he1
 go_wp2_with fail
 clear hlt qp fp qm l0 l1 l2 l3 qe he1
 refine (HSa.out _ _ _ HF.out.q (by simp)).mono ?_
 rintro e w4 ⟨rfl, hs4⟩
 obtain ⟨fv4, mv4, hF4⟩ := HF.out.goes hs4
 have HF := Lib.hid hF4
 clear hs4 hF4
 obtain ⟨af, lf, cf, hfv⟩ := row_form3 HF.out.q.fs
 obtain ⟨am, lm, cm, hmv⟩ := row_form3 HF.out.q.ms
 dsimp only at hfv hmv
 subst hfv hmv
 have hlt := HF.out.lt
 dsimp only at hlt
 have l0 : w.heap.size < w4.heap.size := by omega
 have l1 : w.heap.size + 1 < w4.heap.size := by omega
 have l2 : w.heap.size + 1 + 1 < w4.heap.size := by omega
 have l3 : w.heap.size + 1 + 1 + 1 < w4.heap.size := by omega
 have qp := (HF.out.bl _ (.tail _ (.head _))).cell; have fp := (HF.out.bl _ (.tail _ (.head _))).free; have qm := (HF.out.bl _ (.tail _ (.tail _ (.head _)))).cell
 dsimp only at qp fp qm
 have qe := (HF.out.bl (w2.heap.size, #[.int .i64 xp, .int .i64 xd, .int .i64 xs, .int .i64 xh, .int .i64 0, .int .i64 fault, .int .i64 work, .bool false]) (by simp)).cell
 have he1 := (HF.out.bl (w2.heap.size, #[.int .i64 xp, .int .i64 xd, .int .i64 xs, .int .i64 xh, .int .i64 0, .int .i64 fault, .int .i64 work, .bool false]) (by simp)).lt
 dsimp only at qe he1
 have q0 := HF.out.q.blk.cell; have f0 := HF.out.q.blk.free
 have qv := (HF.out.bl _ (.tail _ (.tail _ (.tail _ (.head _))))).cell; have fv := (HF.out.bl _ (.tail _ (.tail _ (.tail _ (.head _))))).free
 dsimp only at q0 f0 qv fv
 go_wp2_with fail
 refine bodyPost_ret (v := .agg #[.slice af lf cf, .slice am lm cm, .int .i64 work]) (by simp [results, Tryz.results131, go_sem, qv, fv, l2, Nat.ne_of_lt l2]) rfl ⟨_, _, rfl, ?_⟩
 exact (HF.out.wk work).ends (b := w.heap.size + 1 + 1) (C := #[.slice none 0 0, .slice none 0 0, .int .i64 0]) (by simp) (by omega) _ _ _
set_option maxRecDepth 100000 in
set_option maxHeartbeats 4000000 in
theorem down_1010 (p : SPart) (nd pt : Int) (m : SMsg) (x : Eff) (w : World) (hp : 0 ≤ p.rg) (hT : ∀ W, Below w.heap.size w W → Calls Tryz.prog 219 #[seatV p.seat, .int .i64 m.k] W (Makes (.tuple #[effV x, .nilIface]) W)) (hc : x.ch = false) (hs : x.send ≠ 0) (hf : x.fault = 0) :
   Calls Tryz.prog 131 #[oneV p nd pt, msgV m] w (ResEnds ⟨[], [⟨x.send, nd, p.an, p.an, p.aq, p.rg, pt, 0, 0⟩], x.work⟩ w) := by
 have HT := Lib.hid hT
 have hP := fun W => placed_of p nd pt W
 rw [decide_eq_true hp] at hP
 have HPl := Lib.hid hP
 have hM := fun W => message_of (p : SPart) nd pt x.send W
 rw [show max (p : SPart).rg 0 = p.rg from (by show max p.rg 0 = p.rg; omega)] at hM
 have HMs := Lib.hid hM
 have HSm := Lib.hid (fun Q r W h hl => send_of Q r ⟨x.send, nd, p.an, p.an, p.aq, p.rg, pt, 0, 0⟩ W h hl)
 obtain ⟨an, aq, rg, ⟨sp, sd, ss, sh⟩⟩ := p
 obtain ⟨mk, fr, to, man, maq, mrg, mpt, mpr, mco⟩ := m
 obtain ⟨⟨xp, xd, xs, xh⟩, send, fault, work, cc⟩ := x
 dsimp only [oneV, msgV, msgA, effV, seatV, factV, factC, fPlace, fTurn, ans, ResEnds] at *
 subst hc
 have ds : (send != 0) = true := by simpa using hs
 subst hf
 clear hT hP hs hM hp
 go_enter Tryz.func131, Tryz.ntmps131
 go_wp2_with fail
 refine (HPl.out _).mono ?_
 rintro e w1 ⟨rfl, hb1⟩
 have HF := Lib.hid ((fr_start (bs := [(w.heap.size, #[.int .i64 an, .int .i64 aq, .int .i64 rg, .int .i64 sp, .int .i64 sd, .int .i64 ss, .int .i64 sh, .int .i64 nd, .int .i64 pt]), (w.heap.size + 1, #[.int .i64 mk, .int .i64 fr, .int .i64 to, .int .i64 man, .int .i64 maq, .int .i64 mrg, .int .i64 mpt, .int .i64 mpr, .int .i64 mco]), (w.heap.size + 1 + 1, #[.slice none 0 0, .slice none 0 0, .int .i64 0])]) (w := w) (W := ((w.alloc (.cells #[.int .i64 an, .int .i64 aq, .int .i64 rg, .int .i64 sp, .int .i64 sd, .int .i64 ss, .int .i64 sh, .int .i64 nd, .int .i64 pt] 205)).alloc (.cells #[.int .i64 mk, .int .i64 fr, .int .i64 to, .int .i64 man, .int .i64 maq, .int .i64 mrg, .int .i64 mpt, .int .i64 mpr, .int .i64 mco] 81)).alloc (.cells #[.slice none 0 0, .slice none 0 0, .int .i64 0] 87)) (by go_grown) (by
   intro y hy
   simp only [List.mem_cons, List.not_mem_nil, or_false] at hy
   rcases hy with rfl | rfl | rfl
   · exact ((Blk.fresh w _ _ _ rfl).alloc _).alloc _
   · exact (Blk.fresh _ _ _ _ (by simp)).alloc _
   · exact Blk.fresh _ _ _ _ (by simp)) (by simp; omega) 87).below hb1)
 clear hb1
 rw [show (((w.alloc (.cells #[.int .i64 an, .int .i64 aq, .int .i64 rg, .int .i64 sp, .int .i64 sd, .int .i64 ss, .int .i64 sh, .int .i64 nd, .int .i64 pt] 205)).alloc (.cells #[.int .i64 mk, .int .i64 fr, .int .i64 to, .int .i64 man, .int .i64 maq, .int .i64 mrg, .int .i64 mpt, .int .i64 mpr, .int .i64 mco] 81)).alloc (.cells #[.slice none 0 0, .slice none 0 0, .int .i64 0] 87)).heap.size = w.heap.size + 1 + 1 + 1 by simp] at HF
 have hlt := HF.out.lt
 dsimp only at hlt
 have l0 : w.heap.size < w1.heap.size := by omega
 have l1 : w.heap.size + 1 < w1.heap.size := by omega
 have l2 : w.heap.size + 1 + 1 < w1.heap.size := by omega
 have l3 : w.heap.size + 1 + 1 + 1 < w1.heap.size := by omega
 have qp := (HF.out.bl _ (.head _)).cell; have fp := (HF.out.bl _ (.head _)).free; have qm := (HF.out.bl _ (.tail _ (.head _))).cell
 dsimp only at qp fp qm
 go_wp2_with fail
 clear hlt qp fp qm l0 l1 l2 l3
 refine (HT.out _ HF.out.be).mono ?_
 rintro e w2 ⟨rfl, hb2⟩
 have HF := Lib.hid (HF.out.below hb2)
 clear hb2
 have hlt := HF.out.lt
 dsimp only at hlt
 have l0 : w.heap.size < w2.heap.size := by omega
 have l1 : w.heap.size + 1 < w2.heap.size := by omega
 have l2 : w.heap.size + 1 + 1 < w2.heap.size := by omega
 have l3 : w.heap.size + 1 + 1 + 1 < w2.heap.size := by omega
 have qp := (HF.out.bl _ (.head _)).cell; have fp := (HF.out.bl _ (.head _)).free; have qm := (HF.out.bl _ (.tail _ (.head _))).cell
 dsimp only at qp fp qm
 go_wp2_with fail
 clear hlt qp fp qm l0 l1 l2 l3
 have HF := Lib.hid (HF.out.push #[.int .i64 xp, .int .i64 xd, .int .i64 xs, .int .i64 xh, .int .i64 send, .int .i64 0, .int .i64 work, .bool false] 224)
 refine (HMs.out _).mono ?_
 rintro e w3 ⟨rfl, hb3⟩
 have HF := Lib.hid (HF.out.below hb3)
 clear hb3
 have hlt := HF.out.lt
 dsimp only at hlt
 have l0 : w.heap.size < w3.heap.size := by omega
 have l1 : w.heap.size + 1 < w3.heap.size := by omega
 have l2 : w.heap.size + 1 + 1 < w3.heap.size := by omega
 have l3 : w.heap.size + 1 + 1 + 1 < w3.heap.size := by omega
 have qp := (HF.out.bl _ (.tail _ (.head _))).cell; have fp := (HF.out.bl _ (.tail _ (.head _))).free; have qm := (HF.out.bl _ (.tail _ (.tail _ (.head _)))).cell
 dsimp only at qp fp qm
 have qe := (HF.out.bl (w2.heap.size, #[.int .i64 xp, .int .i64 xd, .int .i64 xs, .int .i64 xh, .int .i64 send, .int .i64 0, .int .i64 work, .bool false]) (by simp)).cell
 have he1 := (HF.out.bl (w2.heap.size, #[.int .i64 xp, .int .i64 xd, .int .i64 xs, .int .i64 xh, .int .i64 send, .int .i64 0, .int .i64 work, .bool false]) (by simp)).lt
 dsimp only at qe he1
 go_wp2_with fail
 clear hlt qp fp qm l0 l1 l2 l3 qe he1
 refine (HSm.out _ _ _ HF.out.q (by simp)).mono ?_
 rintro e w4 ⟨rfl, hs4⟩
 obtain ⟨fv4, mv4, hF4⟩ := HF.out.goes hs4
 have HF := Lib.hid hF4
 clear hs4 hF4
 obtain ⟨af, lf, cf, hfv⟩ := row_form3 HF.out.q.fs
 obtain ⟨am, lm, cm, hmv⟩ := row_form3 HF.out.q.ms
 dsimp only at hfv hmv
 subst hfv hmv
 have hlt := HF.out.lt
 dsimp only at hlt
 have l0 : w.heap.size < w4.heap.size := by omega
 have l1 : w.heap.size + 1 < w4.heap.size := by omega
 have l2 : w.heap.size + 1 + 1 < w4.heap.size := by omega
 have l3 : w.heap.size + 1 + 1 + 1 < w4.heap.size := by omega
 have qp := (HF.out.bl _ (.tail _ (.head _))).cell; have fp := (HF.out.bl _ (.tail _ (.head _))).free; have qm := (HF.out.bl _ (.tail _ (.tail _ (.head _)))).cell
 dsimp only at qp fp qm
 have qe := (HF.out.bl (w2.heap.size, #[.int .i64 xp, .int .i64 xd, .int .i64 xs, .int .i64 xh, .int .i64 send, .int .i64 0, .int .i64 work, .bool false]) (by simp)).cell
 have he1 := (HF.out.bl (w2.heap.size, #[.int .i64 xp, .int .i64 xd, .int .i64 xs, .int .i64 xh, .int .i64 send, .int .i64 0, .int .i64 work, .bool false]) (by simp)).lt
 dsimp only at qe he1
 have q0 := HF.out.q.blk.cell; have f0 := HF.out.q.blk.free
 have qv := (HF.out.bl _ (.tail _ (.tail _ (.tail _ (.head _))))).cell; have fv := (HF.out.bl _ (.tail _ (.tail _ (.tail _ (.head _))))).free
 dsimp only at q0 f0 qv fv
 go_wp2_with fail
 refine bodyPost_ret (v := .agg #[.slice af lf cf, .slice am lm cm, .int .i64 work]) (by simp [results, Tryz.results131, go_sem, qv, fv, l2, Nat.ne_of_lt l2]) rfl ⟨_, _, rfl, ?_⟩
 exact (HF.out.wk work).ends (b := w.heap.size + 1 + 1) (C := #[.slice none 0 0, .slice none 0 0, .int .i64 0]) (by simp) (by omega) _ _ _
set_option maxRecDepth 100000 in
set_option maxHeartbeats 4000000 in
theorem down_1100 (p : SPart) (nd pt : Int) (m : SMsg) (x : Eff) (w : World) (hp : 0 ≤ p.rg) (hT : ∀ W, Below w.heap.size w W → Calls Tryz.prog 219 #[seatV p.seat, .int .i64 m.k] W (Makes (.tuple #[effV x, .nilIface]) W)) (hc : x.ch = true) (hs : x.send = 0) (hf : x.fault = 0) :
   Calls Tryz.prog 131 #[oneV p nd pt, msgV m] w (ResEnds ⟨[fTurn pt x.seat.s x.seat.h], [], x.work⟩ w) := by
 have HT := Lib.hid hT
 have hP := fun W => placed_of p nd pt W
 rw [decide_eq_true hp] at hP
 have HPl := Lib.hid hP
 have HTu := Lib.hid (fun W => pturned_of (p : SPart) nd pt x.seat W)
 have HRt := Lib.hid (fun Q r W h hl => remember_of Q r (fTurn pt x.seat.s x.seat.h) W h hl)
 obtain ⟨an, aq, rg, ⟨sp, sd, ss, sh⟩⟩ := p
 obtain ⟨mk, fr, to, man, maq, mrg, mpt, mpr, mco⟩ := m
 obtain ⟨⟨xp, xd, xs, xh⟩, send, fault, work, cc⟩ := x
 dsimp only [oneV, msgV, msgA, effV, seatV, factV, factC, fPlace, fTurn, ans, ResEnds] at *
 subst hc
 subst hs
 subst hf
 clear hT hP hp
 go_enter Tryz.func131, Tryz.ntmps131
 go_wp2_with fail
 refine (HPl.out _).mono ?_
 rintro e w1 ⟨rfl, hb1⟩
 have HF := Lib.hid ((fr_start (bs := [(w.heap.size, #[.int .i64 an, .int .i64 aq, .int .i64 rg, .int .i64 sp, .int .i64 sd, .int .i64 ss, .int .i64 sh, .int .i64 nd, .int .i64 pt]), (w.heap.size + 1, #[.int .i64 mk, .int .i64 fr, .int .i64 to, .int .i64 man, .int .i64 maq, .int .i64 mrg, .int .i64 mpt, .int .i64 mpr, .int .i64 mco]), (w.heap.size + 1 + 1, #[.slice none 0 0, .slice none 0 0, .int .i64 0])]) (w := w) (W := ((w.alloc (.cells #[.int .i64 an, .int .i64 aq, .int .i64 rg, .int .i64 sp, .int .i64 sd, .int .i64 ss, .int .i64 sh, .int .i64 nd, .int .i64 pt] 205)).alloc (.cells #[.int .i64 mk, .int .i64 fr, .int .i64 to, .int .i64 man, .int .i64 maq, .int .i64 mrg, .int .i64 mpt, .int .i64 mpr, .int .i64 mco] 81)).alloc (.cells #[.slice none 0 0, .slice none 0 0, .int .i64 0] 87)) (by go_grown) (by
   intro y hy
   simp only [List.mem_cons, List.not_mem_nil, or_false] at hy
   rcases hy with rfl | rfl | rfl
   · exact ((Blk.fresh w _ _ _ rfl).alloc _).alloc _
   · exact (Blk.fresh _ _ _ _ (by simp)).alloc _
   · exact Blk.fresh _ _ _ _ (by simp)) (by simp; omega) 87).below hb1)
 clear hb1
 rw [show (((w.alloc (.cells #[.int .i64 an, .int .i64 aq, .int .i64 rg, .int .i64 sp, .int .i64 sd, .int .i64 ss, .int .i64 sh, .int .i64 nd, .int .i64 pt] 205)).alloc (.cells #[.int .i64 mk, .int .i64 fr, .int .i64 to, .int .i64 man, .int .i64 maq, .int .i64 mrg, .int .i64 mpt, .int .i64 mpr, .int .i64 mco] 81)).alloc (.cells #[.slice none 0 0, .slice none 0 0, .int .i64 0] 87)).heap.size = w.heap.size + 1 + 1 + 1 by simp] at HF
 have hlt := HF.out.lt
 dsimp only at hlt
 have l0 : w.heap.size < w1.heap.size := by omega
 have l1 : w.heap.size + 1 < w1.heap.size := by omega
 have l2 : w.heap.size + 1 + 1 < w1.heap.size := by omega
 have l3 : w.heap.size + 1 + 1 + 1 < w1.heap.size := by omega
 have qp := (HF.out.bl _ (.head _)).cell; have fp := (HF.out.bl _ (.head _)).free; have qm := (HF.out.bl _ (.tail _ (.head _))).cell
 dsimp only at qp fp qm
 go_wp2_with fail
 clear hlt qp fp qm l0 l1 l2 l3
 refine (HT.out _ HF.out.be).mono ?_
 rintro e w2 ⟨rfl, hb2⟩
 have HF := Lib.hid (HF.out.below hb2)
 clear hb2
 have hlt := HF.out.lt
 dsimp only at hlt
 have l0 : w.heap.size < w2.heap.size := by omega
 have l1 : w.heap.size + 1 < w2.heap.size := by omega
 have l2 : w.heap.size + 1 + 1 < w2.heap.size := by omega
 have l3 : w.heap.size + 1 + 1 + 1 < w2.heap.size := by omega
 have qp := (HF.out.bl _ (.head _)).cell; have fp := (HF.out.bl _ (.head _)).free; have qm := (HF.out.bl _ (.tail _ (.head _))).cell
 dsimp only at qp fp qm
 go_wp2_with fail
 clear hlt qp fp qm l0 l1 l2 l3
 have HF := Lib.hid (HF.out.push #[.int .i64 xp, .int .i64 xd, .int .i64 xs, .int .i64 xh, .int .i64 0, .int .i64 0, .int .i64 work, .bool true] 224)
 refine (HTu.out _).mono ?_
 rintro e w3 ⟨rfl, hb3⟩
 have HF := Lib.hid (HF.out.below hb3)
 clear hb3
 have hlt := HF.out.lt
 dsimp only at hlt
 have l0 : w.heap.size < w3.heap.size := by omega
 have l1 : w.heap.size + 1 < w3.heap.size := by omega
 have l2 : w.heap.size + 1 + 1 < w3.heap.size := by omega
 have l3 : w.heap.size + 1 + 1 + 1 < w3.heap.size := by omega
 have qp := (HF.out.bl _ (.tail _ (.head _))).cell; have fp := (HF.out.bl _ (.tail _ (.head _))).free; have qm := (HF.out.bl _ (.tail _ (.tail _ (.head _)))).cell
 dsimp only at qp fp qm
 have qe := (HF.out.bl (w2.heap.size, #[.int .i64 xp, .int .i64 xd, .int .i64 xs, .int .i64 xh, .int .i64 0, .int .i64 0, .int .i64 work, .bool true]) (by simp)).cell
 have he1 := (HF.out.bl (w2.heap.size, #[.int .i64 xp, .int .i64 xd, .int .i64 xs, .int .i64 xh, .int .i64 0, .int .i64 0, .int .i64 work, .bool true]) (by simp)).lt
 dsimp only at qe he1
 go_wp2_with fail
 clear hlt qp fp qm l0 l1 l2 l3 qe he1
 refine (HRt.out _ _ _ HF.out.q (by simp)).mono ?_
 rintro e w4 ⟨rfl, hs4⟩
 obtain ⟨fv4, mv4, hF4⟩ := HF.out.goes hs4
 have HF := Lib.hid hF4
 clear hs4 hF4
 obtain ⟨af, lf, cf, hfv⟩ := row_form3 HF.out.q.fs
 obtain ⟨am, lm, cm, hmv⟩ := row_form3 HF.out.q.ms
 dsimp only at hfv hmv
 subst hfv hmv
 have hlt := HF.out.lt
 dsimp only at hlt
 have l0 : w.heap.size < w4.heap.size := by omega
 have l1 : w.heap.size + 1 < w4.heap.size := by omega
 have l2 : w.heap.size + 1 + 1 < w4.heap.size := by omega
 have l3 : w.heap.size + 1 + 1 + 1 < w4.heap.size := by omega
 have qp := (HF.out.bl _ (.tail _ (.head _))).cell; have fp := (HF.out.bl _ (.tail _ (.head _))).free; have qm := (HF.out.bl _ (.tail _ (.tail _ (.head _)))).cell
 dsimp only at qp fp qm
 have qe := (HF.out.bl (w2.heap.size, #[.int .i64 xp, .int .i64 xd, .int .i64 xs, .int .i64 xh, .int .i64 0, .int .i64 0, .int .i64 work, .bool true]) (by simp)).cell
 have he1 := (HF.out.bl (w2.heap.size, #[.int .i64 xp, .int .i64 xd, .int .i64 xs, .int .i64 xh, .int .i64 0, .int .i64 0, .int .i64 work, .bool true]) (by simp)).lt
 dsimp only at qe he1
 have q0 := HF.out.q.blk.cell; have f0 := HF.out.q.blk.free
 have qv := (HF.out.bl _ (.tail _ (.tail _ (.tail _ (.head _))))).cell; have fv := (HF.out.bl _ (.tail _ (.tail _ (.tail _ (.head _))))).free
 dsimp only at q0 f0 qv fv
 go_wp2_with fail
 refine bodyPost_ret (v := .agg #[.slice af lf cf, .slice am lm cm, .int .i64 work]) (by simp [results, Tryz.results131, go_sem, qv, fv, l2, Nat.ne_of_lt l2]) rfl ⟨_, _, rfl, ?_⟩
 exact (HF.out.wk work).ends (b := w.heap.size + 1 + 1) (C := #[.slice none 0 0, .slice none 0 0, .int .i64 0]) (by simp) (by omega) _ _ _
set_option maxRecDepth 100000 in
set_option maxHeartbeats 4000000 in
theorem down_1110 (p : SPart) (nd pt : Int) (m : SMsg) (x : Eff) (w : World) (hp : 0 ≤ p.rg) (hT : ∀ W, Below w.heap.size w W → Calls Tryz.prog 219 #[seatV p.seat, .int .i64 m.k] W (Makes (.tuple #[effV x, .nilIface]) W)) (hc : x.ch = true) (hs : x.send ≠ 0) (hf : x.fault = 0) :
   Calls Tryz.prog 131 #[oneV p nd pt, msgV m] w (ResEnds ⟨[fTurn pt x.seat.s x.seat.h], [⟨x.send, nd, p.an, p.an, p.aq, p.rg, pt, 0, 0⟩], x.work⟩ w) := by
 have HT := Lib.hid hT
 have hP := fun W => placed_of p nd pt W
 rw [decide_eq_true hp] at hP
 have HPl := Lib.hid hP
 have HTu := Lib.hid (fun W => pturned_of (p : SPart) nd pt x.seat W)
 have HRt := Lib.hid (fun Q r W h hl => remember_of Q r (fTurn pt x.seat.s x.seat.h) W h hl)
 have hM := fun W => message_of (p : SPart) nd pt x.send W
 rw [show max (p : SPart).rg 0 = p.rg from (by show max p.rg 0 = p.rg; omega)] at hM
 have HMs := Lib.hid hM
 have HSm := Lib.hid (fun Q r W h hl => send_of Q r ⟨x.send, nd, p.an, p.an, p.aq, p.rg, pt, 0, 0⟩ W h hl)
 obtain ⟨an, aq, rg, ⟨sp, sd, ss, sh⟩⟩ := p
 obtain ⟨mk, fr, to, man, maq, mrg, mpt, mpr, mco⟩ := m
 obtain ⟨⟨xp, xd, xs, xh⟩, send, fault, work, cc⟩ := x
 dsimp only [oneV, msgV, msgA, effV, seatV, factV, factC, fPlace, fTurn, ans, ResEnds] at *
 subst hc
 have ds : (send != 0) = true := by simpa using hs
 subst hf
 clear hT hP hs hM hp
 go_enter Tryz.func131, Tryz.ntmps131
 go_wp2_with fail
 refine (HPl.out _).mono ?_
 rintro e w1 ⟨rfl, hb1⟩
 have HF := Lib.hid ((fr_start (bs := [(w.heap.size, #[.int .i64 an, .int .i64 aq, .int .i64 rg, .int .i64 sp, .int .i64 sd, .int .i64 ss, .int .i64 sh, .int .i64 nd, .int .i64 pt]), (w.heap.size + 1, #[.int .i64 mk, .int .i64 fr, .int .i64 to, .int .i64 man, .int .i64 maq, .int .i64 mrg, .int .i64 mpt, .int .i64 mpr, .int .i64 mco]), (w.heap.size + 1 + 1, #[.slice none 0 0, .slice none 0 0, .int .i64 0])]) (w := w) (W := ((w.alloc (.cells #[.int .i64 an, .int .i64 aq, .int .i64 rg, .int .i64 sp, .int .i64 sd, .int .i64 ss, .int .i64 sh, .int .i64 nd, .int .i64 pt] 205)).alloc (.cells #[.int .i64 mk, .int .i64 fr, .int .i64 to, .int .i64 man, .int .i64 maq, .int .i64 mrg, .int .i64 mpt, .int .i64 mpr, .int .i64 mco] 81)).alloc (.cells #[.slice none 0 0, .slice none 0 0, .int .i64 0] 87)) (by go_grown) (by
   intro y hy
   simp only [List.mem_cons, List.not_mem_nil, or_false] at hy
   rcases hy with rfl | rfl | rfl
   · exact ((Blk.fresh w _ _ _ rfl).alloc _).alloc _
   · exact (Blk.fresh _ _ _ _ (by simp)).alloc _
   · exact Blk.fresh _ _ _ _ (by simp)) (by simp; omega) 87).below hb1)
 clear hb1
 rw [show (((w.alloc (.cells #[.int .i64 an, .int .i64 aq, .int .i64 rg, .int .i64 sp, .int .i64 sd, .int .i64 ss, .int .i64 sh, .int .i64 nd, .int .i64 pt] 205)).alloc (.cells #[.int .i64 mk, .int .i64 fr, .int .i64 to, .int .i64 man, .int .i64 maq, .int .i64 mrg, .int .i64 mpt, .int .i64 mpr, .int .i64 mco] 81)).alloc (.cells #[.slice none 0 0, .slice none 0 0, .int .i64 0] 87)).heap.size = w.heap.size + 1 + 1 + 1 by simp] at HF
 have hlt := HF.out.lt
 dsimp only at hlt
 have l0 : w.heap.size < w1.heap.size := by omega
 have l1 : w.heap.size + 1 < w1.heap.size := by omega
 have l2 : w.heap.size + 1 + 1 < w1.heap.size := by omega
 have l3 : w.heap.size + 1 + 1 + 1 < w1.heap.size := by omega
 have qp := (HF.out.bl _ (.head _)).cell; have fp := (HF.out.bl _ (.head _)).free; have qm := (HF.out.bl _ (.tail _ (.head _))).cell
 dsimp only at qp fp qm
 go_wp2_with fail
 clear hlt qp fp qm l0 l1 l2 l3
 refine (HT.out _ HF.out.be).mono ?_
 rintro e w2 ⟨rfl, hb2⟩
 have HF := Lib.hid (HF.out.below hb2)
 clear hb2
 have hlt := HF.out.lt
 dsimp only at hlt
 have l0 : w.heap.size < w2.heap.size := by omega
 have l1 : w.heap.size + 1 < w2.heap.size := by omega
 have l2 : w.heap.size + 1 + 1 < w2.heap.size := by omega
 have l3 : w.heap.size + 1 + 1 + 1 < w2.heap.size := by omega
 have qp := (HF.out.bl _ (.head _)).cell; have fp := (HF.out.bl _ (.head _)).free; have qm := (HF.out.bl _ (.tail _ (.head _))).cell
 dsimp only at qp fp qm
 go_wp2_with fail
 clear hlt qp fp qm l0 l1 l2 l3
 have HF := Lib.hid (HF.out.push #[.int .i64 xp, .int .i64 xd, .int .i64 xs, .int .i64 xh, .int .i64 send, .int .i64 0, .int .i64 work, .bool true] 224)
 refine (HTu.out _).mono ?_
 rintro e w3 ⟨rfl, hb3⟩
 have HF := Lib.hid (HF.out.below hb3)
 clear hb3
 have hlt := HF.out.lt
 dsimp only at hlt
 have l0 : w.heap.size < w3.heap.size := by omega
 have l1 : w.heap.size + 1 < w3.heap.size := by omega
 have l2 : w.heap.size + 1 + 1 < w3.heap.size := by omega
 have l3 : w.heap.size + 1 + 1 + 1 < w3.heap.size := by omega
 have qp := (HF.out.bl _ (.tail _ (.head _))).cell; have fp := (HF.out.bl _ (.tail _ (.head _))).free; have qm := (HF.out.bl _ (.tail _ (.tail _ (.head _)))).cell
 dsimp only at qp fp qm
 have qe := (HF.out.bl (w2.heap.size, #[.int .i64 xp, .int .i64 xd, .int .i64 xs, .int .i64 xh, .int .i64 send, .int .i64 0, .int .i64 work, .bool true]) (by simp)).cell
 have he1 := (HF.out.bl (w2.heap.size, #[.int .i64 xp, .int .i64 xd, .int .i64 xs, .int .i64 xh, .int .i64 send, .int .i64 0, .int .i64 work, .bool true]) (by simp)).lt
 dsimp only at qe he1
 go_wp2_with fail
 clear hlt qp fp qm l0 l1 l2 l3 qe he1
 refine (HRt.out _ _ _ HF.out.q (by simp)).mono ?_
 rintro e w4 ⟨rfl, hs4⟩
 obtain ⟨fv4, mv4, hF4⟩ := HF.out.goes hs4
 have HF := Lib.hid hF4
 clear hs4 hF4
 have hlt := HF.out.lt
 dsimp only at hlt
 have l0 : w.heap.size < w4.heap.size := by omega
 have l1 : w.heap.size + 1 < w4.heap.size := by omega
 have l2 : w.heap.size + 1 + 1 < w4.heap.size := by omega
 have l3 : w.heap.size + 1 + 1 + 1 < w4.heap.size := by omega
 have qp := (HF.out.bl _ (.tail _ (.head _))).cell; have fp := (HF.out.bl _ (.tail _ (.head _))).free; have qm := (HF.out.bl _ (.tail _ (.tail _ (.head _)))).cell
 dsimp only at qp fp qm
 have qe := (HF.out.bl (w2.heap.size, #[.int .i64 xp, .int .i64 xd, .int .i64 xs, .int .i64 xh, .int .i64 send, .int .i64 0, .int .i64 work, .bool true]) (by simp)).cell
 have he1 := (HF.out.bl (w2.heap.size, #[.int .i64 xp, .int .i64 xd, .int .i64 xs, .int .i64 xh, .int .i64 send, .int .i64 0, .int .i64 work, .bool true]) (by simp)).lt
 dsimp only at qe he1
 go_wp2_with fail
 clear hlt qp fp qm l0 l1 l2 l3 qe he1
 refine (HMs.out _).mono ?_
 rintro e w5 ⟨rfl, hb5⟩
 have HF := Lib.hid (HF.out.below hb5)
 clear hb5
 have hlt := HF.out.lt
 dsimp only at hlt
 have l0 : w.heap.size < w5.heap.size := by omega
 have l1 : w.heap.size + 1 < w5.heap.size := by omega
 have l2 : w.heap.size + 1 + 1 < w5.heap.size := by omega
 have l3 : w.heap.size + 1 + 1 + 1 < w5.heap.size := by omega
 have qp := (HF.out.bl _ (.tail _ (.head _))).cell; have fp := (HF.out.bl _ (.tail _ (.head _))).free; have qm := (HF.out.bl _ (.tail _ (.tail _ (.head _)))).cell
 dsimp only at qp fp qm
 have qe := (HF.out.bl (w2.heap.size, #[.int .i64 xp, .int .i64 xd, .int .i64 xs, .int .i64 xh, .int .i64 send, .int .i64 0, .int .i64 work, .bool true]) (by simp)).cell
 have he1 := (HF.out.bl (w2.heap.size, #[.int .i64 xp, .int .i64 xd, .int .i64 xs, .int .i64 xh, .int .i64 send, .int .i64 0, .int .i64 work, .bool true]) (by simp)).lt
 dsimp only at qe he1
 go_wp2_with fail
 clear hlt qp fp qm l0 l1 l2 l3 qe he1
 refine (HSm.out _ _ _ HF.out.q (by simp)).mono ?_
 rintro e w6 ⟨rfl, hs6⟩
 obtain ⟨fv6, mv6, hF6⟩ := HF.out.goes hs6
 have HF := Lib.hid hF6
 clear hs6 hF6
 obtain ⟨af, lf, cf, hfv⟩ := row_form3 HF.out.q.fs
 obtain ⟨am, lm, cm, hmv⟩ := row_form3 HF.out.q.ms
 dsimp only at hfv hmv
 subst hfv hmv
 have hlt := HF.out.lt
 dsimp only at hlt
 have l0 : w.heap.size < w6.heap.size := by omega
 have l1 : w.heap.size + 1 < w6.heap.size := by omega
 have l2 : w.heap.size + 1 + 1 < w6.heap.size := by omega
 have l3 : w.heap.size + 1 + 1 + 1 < w6.heap.size := by omega
 have qp := (HF.out.bl _ (.tail _ (.head _))).cell; have fp := (HF.out.bl _ (.tail _ (.head _))).free; have qm := (HF.out.bl _ (.tail _ (.tail _ (.head _)))).cell
 dsimp only at qp fp qm
 have qe := (HF.out.bl (w2.heap.size, #[.int .i64 xp, .int .i64 xd, .int .i64 xs, .int .i64 xh, .int .i64 send, .int .i64 0, .int .i64 work, .bool true]) (by simp)).cell
 have he1 := (HF.out.bl (w2.heap.size, #[.int .i64 xp, .int .i64 xd, .int .i64 xs, .int .i64 xh, .int .i64 send, .int .i64 0, .int .i64 work, .bool true]) (by simp)).lt
 dsimp only at qe he1
 have q0 := HF.out.q.blk.cell; have f0 := HF.out.q.blk.free
 have qv := (HF.out.bl _ (.tail _ (.tail _ (.tail _ (.head _))))).cell; have fv := (HF.out.bl _ (.tail _ (.tail _ (.tail _ (.head _))))).free
 dsimp only at q0 f0 qv fv
 go_wp2_with fail
 refine bodyPost_ret (v := .agg #[.slice af lf cf, .slice am lm cm, .int .i64 work]) (by simp [results, Tryz.results131, go_sem, qv, fv, l2, Nat.ne_of_lt l2]) rfl ⟨_, _, rfl, ?_⟩
 exact (HF.out.wk work).ends (b := w.heap.size + 1 + 1) (C := #[.slice none 0 0, .slice none 0 0, .int .i64 0]) (by simp) (by omega) _ _ _
end Go.Proofs.YtlkajejbfojkeaaGreatDoor

namespace Go.Proofs.YtlkajejbfojkeaaGreatDoor
open Go.RowKit
attribute [local go_sem] store_float

set_option maxRecDepth 100000 in
set_option maxHeartbeats 4000000 in
theorem down_0000 (p : SPart) (nd pt : Int) (m : SMsg) (x : Eff) (w : World) (hp : p.rg < 0) (hm : 0 ≤ m.rg) (hT : ∀ W, Below w.heap.size w W → Calls Tryz.prog 219 #[seatV p.seat, .int .i64 m.k] W (Makes (.tuple #[effV x, .nilIface]) W)) (hc : x.ch = false) (hs : x.send = 0) (hf : x.fault = 0) :
   Calls Tryz.prog 131 #[oneV p nd pt, msgV m] w (ResEnds ⟨[fPlace pt m.rg], [], x.work⟩ w) := by
 have HT := Lib.hid hT
 have hP := fun W => placed_of p nd pt W
 rw [decide_eq_false (show ¬ 0 ≤ p.rg by omega)] at hP
 have HPl := Lib.hid hP
 have HRe := Lib.hid (fun Q r W h hl => remember_of Q r (fPlace pt m.rg) W h hl)
 obtain ⟨an, aq, rg, ⟨sp, sd, ss, sh⟩⟩ := p
 obtain ⟨mk, fr, to, man, maq, mrg, mpt, mpr, mco⟩ := m
 obtain ⟨⟨xp, xd, xs, xh⟩, send, fault, work, cc⟩ := x
 dsimp only [oneV, msgV, msgA, effV, seatV, factV, factC, fPlace, fTurn, ans, ResEnds] at *
 subst hc
 subst hs
 subst hf
 clear hT hP hp hm
 go_enter Tryz.func131, Tryz.ntmps131
 go_wp2_with fail
 refine (HPl.out _).mono ?_
 rintro e w1 ⟨rfl, hb1⟩
 have HF := Lib.hid ((fr_start (bs := [(w.heap.size, #[.int .i64 an, .int .i64 aq, .int .i64 rg, .int .i64 sp, .int .i64 sd, .int .i64 ss, .int .i64 sh, .int .i64 nd, .int .i64 pt]), (w.heap.size + 1, #[.int .i64 mk, .int .i64 fr, .int .i64 to, .int .i64 man, .int .i64 maq, .int .i64 mrg, .int .i64 mpt, .int .i64 mpr, .int .i64 mco]), (w.heap.size + 1 + 1, #[.slice none 0 0, .slice none 0 0, .int .i64 0])]) (w := w) (W := ((w.alloc (.cells #[.int .i64 an, .int .i64 aq, .int .i64 rg, .int .i64 sp, .int .i64 sd, .int .i64 ss, .int .i64 sh, .int .i64 nd, .int .i64 pt] 205)).alloc (.cells #[.int .i64 mk, .int .i64 fr, .int .i64 to, .int .i64 man, .int .i64 maq, .int .i64 mrg, .int .i64 mpt, .int .i64 mpr, .int .i64 mco] 81)).alloc (.cells #[.slice none 0 0, .slice none 0 0, .int .i64 0] 87)) (by go_grown) (by
   intro y hy
   simp only [List.mem_cons, List.not_mem_nil, or_false] at hy
   rcases hy with rfl | rfl | rfl
   · exact ((Blk.fresh w _ _ _ rfl).alloc _).alloc _
   · exact (Blk.fresh _ _ _ _ (by simp)).alloc _
   · exact Blk.fresh _ _ _ _ (by simp)) (by simp; omega) 87).below hb1)
 clear hb1
 rw [show (((w.alloc (.cells #[.int .i64 an, .int .i64 aq, .int .i64 rg, .int .i64 sp, .int .i64 sd, .int .i64 ss, .int .i64 sh, .int .i64 nd, .int .i64 pt] 205)).alloc (.cells #[.int .i64 mk, .int .i64 fr, .int .i64 to, .int .i64 man, .int .i64 maq, .int .i64 mrg, .int .i64 mpt, .int .i64 mpr, .int .i64 mco] 81)).alloc (.cells #[.slice none 0 0, .slice none 0 0, .int .i64 0] 87)).heap.size = w.heap.size + 1 + 1 + 1 by simp] at HF
 have hlt := HF.out.lt
 dsimp only at hlt
 have l0 : w.heap.size < w1.heap.size := by omega
 have l1 : w.heap.size + 1 < w1.heap.size := by omega
 have l2 : w.heap.size + 1 + 1 < w1.heap.size := by omega
 have l3 : w.heap.size + 1 + 1 + 1 < w1.heap.size := by omega
 have qp := (HF.out.bl _ (.head _)).cell; have fp := (HF.out.bl _ (.head _)).free; have qm := (HF.out.bl _ (.tail _ (.head _))).cell
 dsimp only at qp fp qm
 go_wp2_with fail
 clear hlt qp fp qm l0 l1 l2 l3
 refine (HRe.out _ _ _ HF.out.q (by simp)).mono ?_
 rintro e w2 ⟨rfl, hs2⟩
 obtain ⟨fv2, mv2, hF2⟩ := HF.out.goes hs2
 have HF := Lib.hid hF2
 clear hs2 hF2
 have hlt := HF.out.lt
 dsimp only at hlt
 have l0 : w.heap.size < w2.heap.size := by omega
 have l1 : w.heap.size + 1 < w2.heap.size := by omega
 have l2 : w.heap.size + 1 + 1 < w2.heap.size := by omega
 have l3 : w.heap.size + 1 + 1 + 1 < w2.heap.size := by omega
 have qp := (HF.out.bl _ (.head _)).cell; have fp := (HF.out.bl _ (.head _)).free; have qm := (HF.out.bl _ (.tail _ (.head _))).cell
 dsimp only at qp fp qm
 go_wp2_with fail
 clear hlt qp fp qm l0 l1 l2 l3
 have HF := Lib.hid (show FrAt [(w.heap.size, #[.int .i64 an, .int .i64 aq, .int .i64 mrg, .int .i64 sp, .int .i64 sd, .int .i64 ss, .int .i64 sh, .int .i64 nd, .int .i64 pt]), (w.heap.size + 1, #[.int .i64 mk, .int .i64 fr, .int .i64 to, .int .i64 man, .int .i64 maq, .int .i64 mrg, .int .i64 mpt, .int .i64 mpr, .int .i64 mco]), (w.heap.size + 1 + 1, #[.slice none 0 0, .slice none 0 0, .int .i64 0])] _ _ w _ from HF.out.set (Nat.le_refl _) 2 (by simp) (.int .i64 mrg))
 refine (HT.out _ HF.out.be).mono ?_
 rintro e w3 ⟨rfl, hb3⟩
 have HF := Lib.hid (HF.out.below hb3)
 clear hb3
 obtain ⟨af, lf, cf, hfv⟩ := row_form3 HF.out.q.fs
 obtain ⟨am, lm, cm, hmv⟩ := row_form3 HF.out.q.ms
 dsimp only at hfv hmv
 subst hfv hmv
 have hlt := HF.out.lt
 dsimp only at hlt
 have l0 : w.heap.size < w3.heap.size := by omega
 have l1 : w.heap.size + 1 < w3.heap.size := by omega
 have l2 : w.heap.size + 1 + 1 < w3.heap.size := by omega
 have l3 : w.heap.size + 1 + 1 + 1 < w3.heap.size := by omega
 have qp := (HF.out.bl _ (.head _)).cell; have fp := (HF.out.bl _ (.head _)).free; have qm := (HF.out.bl _ (.tail _ (.head _))).cell
 dsimp only at qp fp qm
 have q0 := HF.out.q.blk.cell; have f0 := HF.out.q.blk.free
 have qv := (HF.out.bl _ (.tail _ (.tail _ (.head _)))).cell; have fv := (HF.out.bl _ (.tail _ (.tail _ (.head _)))).free
 dsimp only at q0 f0 qv fv
 go_wp2_with fail
 refine bodyPost_ret (v := .agg #[.slice af lf cf, .slice am lm cm, .int .i64 work]) (by simp [results, Tryz.results131, go_sem, qv, fv, l2, Nat.ne_of_lt l2]) rfl ⟨_, _, rfl, ?_⟩
 exact ends_then ((HF.out.wk work).ends (b := w.heap.size + 1 + 1) (C := #[.slice none 0 0, .slice none 0 0, .int .i64 0]) (by simp) (by omega) (.slice af lf cf) (.slice am lm cm) (.int .i64 work)) ((Below.refl _ _).alloc (Nat.le_refl _) _)
set_option maxRecDepth 100000 in
set_option maxHeartbeats 4000000 in
theorem down_0001 (p : SPart) (nd pt : Int) (m : SMsg) (x : Eff) (w : World) (hp : p.rg < 0) (hm : 0 ≤ m.rg) (hT : ∀ W, Below w.heap.size w W → Calls Tryz.prog 219 #[seatV p.seat, .int .i64 m.k] W (Makes (.tuple #[effV x, .nilIface]) W)) (hc : x.ch = false) (hs : x.send = 0) (hf : x.fault ≠ 0) :
   Calls Tryz.prog 131 #[oneV p nd pt, msgV m] w (ResEnds ⟨[fPlace pt m.rg], [ans m 19 x.fault], x.work⟩ w) := by
 have HT := Lib.hid hT
 have hP := fun W => placed_of p nd pt W
 rw [decide_eq_false (show ¬ 0 ≤ p.rg by omega)] at hP
 have HPl := Lib.hid hP
 have HRe := Lib.hid (fun Q r W h hl => remember_of Q r (fPlace pt m.rg) W h hl)
 have HAn := Lib.hid (fun W => answer_of m 19 x.fault W)
 have HSa := Lib.hid (fun Q r W h hl => send_of Q r (ans m 19 x.fault) W h hl)
 obtain ⟨an, aq, rg, ⟨sp, sd, ss, sh⟩⟩ := p
 obtain ⟨mk, fr, to, man, maq, mrg, mpt, mpr, mco⟩ := m
 obtain ⟨⟨xp, xd, xs, xh⟩, send, fault, work, cc⟩ := x
 dsimp only [oneV, msgV, msgA, effV, seatV, factV, factC, fPlace, fTurn, ans, ResEnds] at *
 subst hc
 subst hs
 have df : (fault != 0) = true := by simpa using hf
 clear hT hP hf hp hm
 go_enter Tryz.func131, Tryz.ntmps131
 go_wp2_with fail
 refine (HPl.out _).mono ?_
 rintro e w1 ⟨rfl, hb1⟩
 have HF := Lib.hid ((fr_start (bs := [(w.heap.size, #[.int .i64 an, .int .i64 aq, .int .i64 rg, .int .i64 sp, .int .i64 sd, .int .i64 ss, .int .i64 sh, .int .i64 nd, .int .i64 pt]), (w.heap.size + 1, #[.int .i64 mk, .int .i64 fr, .int .i64 to, .int .i64 man, .int .i64 maq, .int .i64 mrg, .int .i64 mpt, .int .i64 mpr, .int .i64 mco]), (w.heap.size + 1 + 1, #[.slice none 0 0, .slice none 0 0, .int .i64 0])]) (w := w) (W := ((w.alloc (.cells #[.int .i64 an, .int .i64 aq, .int .i64 rg, .int .i64 sp, .int .i64 sd, .int .i64 ss, .int .i64 sh, .int .i64 nd, .int .i64 pt] 205)).alloc (.cells #[.int .i64 mk, .int .i64 fr, .int .i64 to, .int .i64 man, .int .i64 maq, .int .i64 mrg, .int .i64 mpt, .int .i64 mpr, .int .i64 mco] 81)).alloc (.cells #[.slice none 0 0, .slice none 0 0, .int .i64 0] 87)) (by go_grown) (by
   intro y hy
   simp only [List.mem_cons, List.not_mem_nil, or_false] at hy
   rcases hy with rfl | rfl | rfl
   · exact ((Blk.fresh w _ _ _ rfl).alloc _).alloc _
   · exact (Blk.fresh _ _ _ _ (by simp)).alloc _
   · exact Blk.fresh _ _ _ _ (by simp)) (by simp; omega) 87).below hb1)
 clear hb1
 rw [show (((w.alloc (.cells #[.int .i64 an, .int .i64 aq, .int .i64 rg, .int .i64 sp, .int .i64 sd, .int .i64 ss, .int .i64 sh, .int .i64 nd, .int .i64 pt] 205)).alloc (.cells #[.int .i64 mk, .int .i64 fr, .int .i64 to, .int .i64 man, .int .i64 maq, .int .i64 mrg, .int .i64 mpt, .int .i64 mpr, .int .i64 mco] 81)).alloc (.cells #[.slice none 0 0, .slice none 0 0, .int .i64 0] 87)).heap.size = w.heap.size + 1 + 1 + 1 by simp] at HF
 have hlt := HF.out.lt
 dsimp only at hlt
 have l0 : w.heap.size < w1.heap.size := by omega
 have l1 : w.heap.size + 1 < w1.heap.size := by omega
 have l2 : w.heap.size + 1 + 1 < w1.heap.size := by omega
 have l3 : w.heap.size + 1 + 1 + 1 < w1.heap.size := by omega
 have qp := (HF.out.bl _ (.head _)).cell; have fp := (HF.out.bl _ (.head _)).free; have qm := (HF.out.bl _ (.tail _ (.head _))).cell
 dsimp only at qp fp qm
 go_wp2_with fail
 clear hlt qp fp qm l0 l1 l2 l3
 refine (HRe.out _ _ _ HF.out.q (by simp)).mono ?_
 rintro e w2 ⟨rfl, hs2⟩
 obtain ⟨fv2, mv2, hF2⟩ := HF.out.goes hs2
 have HF := Lib.hid hF2
 clear hs2 hF2
 have hlt := HF.out.lt
 dsimp only at hlt
 have l0 : w.heap.size < w2.heap.size := by omega
 have l1 : w.heap.size + 1 < w2.heap.size := by omega
 have l2 : w.heap.size + 1 + 1 < w2.heap.size := by omega
 have l3 : w.heap.size + 1 + 1 + 1 < w2.heap.size := by omega
 have qp := (HF.out.bl _ (.head _)).cell; have fp := (HF.out.bl _ (.head _)).free; have qm := (HF.out.bl _ (.tail _ (.head _))).cell
 dsimp only at qp fp qm
 go_wp2_with fail
 clear hlt qp fp qm l0 l1 l2 l3
 have HF := Lib.hid (show FrAt [(w.heap.size, #[.int .i64 an, .int .i64 aq, .int .i64 mrg, .int .i64 sp, .int .i64 sd, .int .i64 ss, .int .i64 sh, .int .i64 nd, .int .i64 pt]), (w.heap.size + 1, #[.int .i64 mk, .int .i64 fr, .int .i64 to, .int .i64 man, .int .i64 maq, .int .i64 mrg, .int .i64 mpt, .int .i64 mpr, .int .i64 mco]), (w.heap.size + 1 + 1, #[.slice none 0 0, .slice none 0 0, .int .i64 0])] _ _ w _ from HF.out.set (Nat.le_refl _) 2 (by simp) (.int .i64 mrg))
 refine (HT.out _ HF.out.be).mono ?_
 rintro e w3 ⟨rfl, hb3⟩
 have HF := Lib.hid (HF.out.below hb3)
 clear hb3
 have hlt := HF.out.lt
 dsimp only at hlt
 have l0 : w.heap.size < w3.heap.size := by omega
 have l1 : w.heap.size + 1 < w3.heap.size := by omega
 have l2 : w.heap.size + 1 + 1 < w3.heap.size := by omega
 have l3 : w.heap.size + 1 + 1 + 1 < w3.heap.size := by omega
 have qp := (HF.out.bl _ (.head _)).cell; have fp := (HF.out.bl _ (.head _)).free; have qm := (HF.out.bl _ (.tail _ (.head _))).cell
 dsimp only at qp fp qm
 go_wp2_with fail
 clear hlt qp fp qm l0 l1 l2 l3
 have HF := Lib.hid (HF.out.push #[.int .i64 xp, .int .i64 xd, .int .i64 xs, .int .i64 xh, .int .i64 0, .int .i64 fault, .int .i64 work, .bool false] 224)
 refine (HAn.out _).mono ?_
 rintro e w4 ⟨rfl, hb4⟩
 have HF := Lib.hid (HF.out.below hb4)
 clear hb4
 have hlt := HF.out.lt
 dsimp only at hlt
 have l0 : w.heap.size < w4.heap.size := by omega
 have l1 : w.heap.size + 1 < w4.heap.size := by omega
 have l2 : w.heap.size + 1 + 1 < w4.heap.size := by omega
 have l3 : w.heap.size + 1 + 1 + 1 < w4.heap.size := by omega
 have qp := (HF.out.bl _ (.tail _ (.head _))).cell; have fp := (HF.out.bl _ (.tail _ (.head _))).free; have qm := (HF.out.bl _ (.tail _ (.tail _ (.head _)))).cell
 dsimp only at qp fp qm
 have qe := (HF.out.bl (w3.heap.size, #[.int .i64 xp, .int .i64 xd, .int .i64 xs, .int .i64 xh, .int .i64 0, .int .i64 fault, .int .i64 work, .bool false]) (by simp)).cell
 have he1 := (HF.out.bl (w3.heap.size, #[.int .i64 xp, .int .i64 xd, .int .i64 xs, .int .i64 xh, .int .i64 0, .int .i64 fault, .int .i64 work, .bool false]) (by simp)).lt
 dsimp only at qe he1
 go_wp2_with fail
 clear hlt qp fp qm l0 l1 l2 l3 qe he1
 refine (HSa.out _ _ _ HF.out.q (by simp)).mono ?_
 rintro e w5 ⟨rfl, hs5⟩
 obtain ⟨fv5, mv5, hF5⟩ := HF.out.goes hs5
 have HF := Lib.hid hF5
 clear hs5 hF5
 obtain ⟨af, lf, cf, hfv⟩ := row_form3 HF.out.q.fs
 obtain ⟨am, lm, cm, hmv⟩ := row_form3 HF.out.q.ms
 dsimp only at hfv hmv
 subst hfv hmv
 have hlt := HF.out.lt
 dsimp only at hlt
 have l0 : w.heap.size < w5.heap.size := by omega
 have l1 : w.heap.size + 1 < w5.heap.size := by omega
 have l2 : w.heap.size + 1 + 1 < w5.heap.size := by omega
 have l3 : w.heap.size + 1 + 1 + 1 < w5.heap.size := by omega
 have qp := (HF.out.bl _ (.tail _ (.head _))).cell; have fp := (HF.out.bl _ (.tail _ (.head _))).free; have qm := (HF.out.bl _ (.tail _ (.tail _ (.head _)))).cell
 dsimp only at qp fp qm
 have qe := (HF.out.bl (w3.heap.size, #[.int .i64 xp, .int .i64 xd, .int .i64 xs, .int .i64 xh, .int .i64 0, .int .i64 fault, .int .i64 work, .bool false]) (by simp)).cell
 have he1 := (HF.out.bl (w3.heap.size, #[.int .i64 xp, .int .i64 xd, .int .i64 xs, .int .i64 xh, .int .i64 0, .int .i64 fault, .int .i64 work, .bool false]) (by simp)).lt
 dsimp only at qe he1
 have q0 := HF.out.q.blk.cell; have f0 := HF.out.q.blk.free
 have qv := (HF.out.bl _ (.tail _ (.tail _ (.tail _ (.head _))))).cell; have fv := (HF.out.bl _ (.tail _ (.tail _ (.tail _ (.head _))))).free
 dsimp only at q0 f0 qv fv
 go_wp2_with fail
 refine bodyPost_ret (v := .agg #[.slice af lf cf, .slice am lm cm, .int .i64 work]) (by simp [results, Tryz.results131, go_sem, qv, fv, l2, Nat.ne_of_lt l2]) rfl ⟨_, _, rfl, ?_⟩
 exact (HF.out.wk work).ends (b := w.heap.size + 1 + 1) (C := #[.slice none 0 0, .slice none 0 0, .int .i64 0]) (by simp) (by omega) _ _ _
set_option maxRecDepth 100000 in
set_option maxHeartbeats 4000000 in
theorem down_0010 (p : SPart) (nd pt : Int) (m : SMsg) (x : Eff) (w : World) (hp : p.rg < 0) (hm : 0 ≤ m.rg) (hT : ∀ W, Below w.heap.size w W → Calls Tryz.prog 219 #[seatV p.seat, .int .i64 m.k] W (Makes (.tuple #[effV x, .nilIface]) W)) (hc : x.ch = false) (hs : x.send ≠ 0) (hf : x.fault = 0) :
   Calls Tryz.prog 131 #[oneV p nd pt, msgV m] w (ResEnds ⟨[fPlace pt m.rg], [⟨x.send, nd, p.an, p.an, p.aq, m.rg, pt, 0, 0⟩], x.work⟩ w) := by
 have HT := Lib.hid hT
 have hP := fun W => placed_of p nd pt W
 rw [decide_eq_false (show ¬ 0 ≤ p.rg by omega)] at hP
 have HPl := Lib.hid hP
 have HRe := Lib.hid (fun Q r W h hl => remember_of Q r (fPlace pt m.rg) W h hl)
 have hM := fun W => message_of ({ p with rg := m.rg } : SPart) nd pt x.send W
 rw [show max ({ p with rg := m.rg } : SPart).rg 0 = m.rg from (by show max m.rg 0 = m.rg; omega)] at hM
 have HMs := Lib.hid hM
 have HSm := Lib.hid (fun Q r W h hl => send_of Q r ⟨x.send, nd, p.an, p.an, p.aq, m.rg, pt, 0, 0⟩ W h hl)
 obtain ⟨an, aq, rg, ⟨sp, sd, ss, sh⟩⟩ := p
 obtain ⟨mk, fr, to, man, maq, mrg, mpt, mpr, mco⟩ := m
 obtain ⟨⟨xp, xd, xs, xh⟩, send, fault, work, cc⟩ := x
 dsimp only [oneV, msgV, msgA, effV, seatV, factV, factC, fPlace, fTurn, ans, ResEnds] at *
 subst hc
 have ds : (send != 0) = true := by simpa using hs
 subst hf
 clear hT hP hs hM hp hm
 go_enter Tryz.func131, Tryz.ntmps131
 go_wp2_with fail
 refine (HPl.out _).mono ?_
 rintro e w1 ⟨rfl, hb1⟩
 have HF := Lib.hid ((fr_start (bs := [(w.heap.size, #[.int .i64 an, .int .i64 aq, .int .i64 rg, .int .i64 sp, .int .i64 sd, .int .i64 ss, .int .i64 sh, .int .i64 nd, .int .i64 pt]), (w.heap.size + 1, #[.int .i64 mk, .int .i64 fr, .int .i64 to, .int .i64 man, .int .i64 maq, .int .i64 mrg, .int .i64 mpt, .int .i64 mpr, .int .i64 mco]), (w.heap.size + 1 + 1, #[.slice none 0 0, .slice none 0 0, .int .i64 0])]) (w := w) (W := ((w.alloc (.cells #[.int .i64 an, .int .i64 aq, .int .i64 rg, .int .i64 sp, .int .i64 sd, .int .i64 ss, .int .i64 sh, .int .i64 nd, .int .i64 pt] 205)).alloc (.cells #[.int .i64 mk, .int .i64 fr, .int .i64 to, .int .i64 man, .int .i64 maq, .int .i64 mrg, .int .i64 mpt, .int .i64 mpr, .int .i64 mco] 81)).alloc (.cells #[.slice none 0 0, .slice none 0 0, .int .i64 0] 87)) (by go_grown) (by
   intro y hy
   simp only [List.mem_cons, List.not_mem_nil, or_false] at hy
   rcases hy with rfl | rfl | rfl
   · exact ((Blk.fresh w _ _ _ rfl).alloc _).alloc _
   · exact (Blk.fresh _ _ _ _ (by simp)).alloc _
   · exact Blk.fresh _ _ _ _ (by simp)) (by simp; omega) 87).below hb1)
 clear hb1
 rw [show (((w.alloc (.cells #[.int .i64 an, .int .i64 aq, .int .i64 rg, .int .i64 sp, .int .i64 sd, .int .i64 ss, .int .i64 sh, .int .i64 nd, .int .i64 pt] 205)).alloc (.cells #[.int .i64 mk, .int .i64 fr, .int .i64 to, .int .i64 man, .int .i64 maq, .int .i64 mrg, .int .i64 mpt, .int .i64 mpr, .int .i64 mco] 81)).alloc (.cells #[.slice none 0 0, .slice none 0 0, .int .i64 0] 87)).heap.size = w.heap.size + 1 + 1 + 1 by simp] at HF
 have hlt := HF.out.lt
 dsimp only at hlt
 have l0 : w.heap.size < w1.heap.size := by omega
 have l1 : w.heap.size + 1 < w1.heap.size := by omega
 have l2 : w.heap.size + 1 + 1 < w1.heap.size := by omega
 have l3 : w.heap.size + 1 + 1 + 1 < w1.heap.size := by omega
 have qp := (HF.out.bl _ (.head _)).cell; have fp := (HF.out.bl _ (.head _)).free; have qm := (HF.out.bl _ (.tail _ (.head _))).cell
 dsimp only at qp fp qm
 go_wp2_with fail
 clear hlt qp fp qm l0 l1 l2 l3
 refine (HRe.out _ _ _ HF.out.q (by simp)).mono ?_
 rintro e w2 ⟨rfl, hs2⟩
 obtain ⟨fv2, mv2, hF2⟩ := HF.out.goes hs2
 have HF := Lib.hid hF2
 clear hs2 hF2
 have hlt := HF.out.lt
 dsimp only at hlt
 have l0 : w.heap.size < w2.heap.size := by omega
 have l1 : w.heap.size + 1 < w2.heap.size := by omega
 have l2 : w.heap.size + 1 + 1 < w2.heap.size := by omega
 have l3 : w.heap.size + 1 + 1 + 1 < w2.heap.size := by omega
 have qp := (HF.out.bl _ (.head _)).cell; have fp := (HF.out.bl _ (.head _)).free; have qm := (HF.out.bl _ (.tail _ (.head _))).cell
 dsimp only at qp fp qm
 go_wp2_with fail
 clear hlt qp fp qm l0 l1 l2 l3
 have HF := Lib.hid (show FrAt [(w.heap.size, #[.int .i64 an, .int .i64 aq, .int .i64 mrg, .int .i64 sp, .int .i64 sd, .int .i64 ss, .int .i64 sh, .int .i64 nd, .int .i64 pt]), (w.heap.size + 1, #[.int .i64 mk, .int .i64 fr, .int .i64 to, .int .i64 man, .int .i64 maq, .int .i64 mrg, .int .i64 mpt, .int .i64 mpr, .int .i64 mco]), (w.heap.size + 1 + 1, #[.slice none 0 0, .slice none 0 0, .int .i64 0])] _ _ w _ from HF.out.set (Nat.le_refl _) 2 (by simp) (.int .i64 mrg))
 refine (HT.out _ HF.out.be).mono ?_
 rintro e w3 ⟨rfl, hb3⟩
 have HF := Lib.hid (HF.out.below hb3)
 clear hb3
 have hlt := HF.out.lt
 dsimp only at hlt
 have l0 : w.heap.size < w3.heap.size := by omega
 have l1 : w.heap.size + 1 < w3.heap.size := by omega
 have l2 : w.heap.size + 1 + 1 < w3.heap.size := by omega
 have l3 : w.heap.size + 1 + 1 + 1 < w3.heap.size := by omega
 have qp := (HF.out.bl _ (.head _)).cell; have fp := (HF.out.bl _ (.head _)).free; have qm := (HF.out.bl _ (.tail _ (.head _))).cell
 dsimp only at qp fp qm
 go_wp2_with fail
 clear hlt qp fp qm l0 l1 l2 l3
 have HF := Lib.hid (HF.out.push #[.int .i64 xp, .int .i64 xd, .int .i64 xs, .int .i64 xh, .int .i64 send, .int .i64 0, .int .i64 work, .bool false] 224)
 refine (HMs.out _).mono ?_
 rintro e w4 ⟨rfl, hb4⟩
 have HF := Lib.hid (HF.out.below hb4)
 clear hb4
 have hlt := HF.out.lt
 dsimp only at hlt
 have l0 : w.heap.size < w4.heap.size := by omega
 have l1 : w.heap.size + 1 < w4.heap.size := by omega
 have l2 : w.heap.size + 1 + 1 < w4.heap.size := by omega
 have l3 : w.heap.size + 1 + 1 + 1 < w4.heap.size := by omega
 have qp := (HF.out.bl _ (.tail _ (.head _))).cell; have fp := (HF.out.bl _ (.tail _ (.head _))).free; have qm := (HF.out.bl _ (.tail _ (.tail _ (.head _)))).cell
 dsimp only at qp fp qm
 have qe := (HF.out.bl (w3.heap.size, #[.int .i64 xp, .int .i64 xd, .int .i64 xs, .int .i64 xh, .int .i64 send, .int .i64 0, .int .i64 work, .bool false]) (by simp)).cell
 have he1 := (HF.out.bl (w3.heap.size, #[.int .i64 xp, .int .i64 xd, .int .i64 xs, .int .i64 xh, .int .i64 send, .int .i64 0, .int .i64 work, .bool false]) (by simp)).lt
 dsimp only at qe he1
 go_wp2_with fail
 clear hlt qp fp qm l0 l1 l2 l3 qe he1
 refine (HSm.out _ _ _ HF.out.q (by simp)).mono ?_
 rintro e w5 ⟨rfl, hs5⟩
 obtain ⟨fv5, mv5, hF5⟩ := HF.out.goes hs5
 have HF := Lib.hid hF5
 clear hs5 hF5
 obtain ⟨af, lf, cf, hfv⟩ := row_form3 HF.out.q.fs
 obtain ⟨am, lm, cm, hmv⟩ := row_form3 HF.out.q.ms
 dsimp only at hfv hmv
 subst hfv hmv
 have hlt := HF.out.lt
 dsimp only at hlt
 have l0 : w.heap.size < w5.heap.size := by omega
 have l1 : w.heap.size + 1 < w5.heap.size := by omega
 have l2 : w.heap.size + 1 + 1 < w5.heap.size := by omega
 have l3 : w.heap.size + 1 + 1 + 1 < w5.heap.size := by omega
 have qp := (HF.out.bl _ (.tail _ (.head _))).cell; have fp := (HF.out.bl _ (.tail _ (.head _))).free; have qm := (HF.out.bl _ (.tail _ (.tail _ (.head _)))).cell
 dsimp only at qp fp qm
 have qe := (HF.out.bl (w3.heap.size, #[.int .i64 xp, .int .i64 xd, .int .i64 xs, .int .i64 xh, .int .i64 send, .int .i64 0, .int .i64 work, .bool false]) (by simp)).cell
 have he1 := (HF.out.bl (w3.heap.size, #[.int .i64 xp, .int .i64 xd, .int .i64 xs, .int .i64 xh, .int .i64 send, .int .i64 0, .int .i64 work, .bool false]) (by simp)).lt
 dsimp only at qe he1
 have q0 := HF.out.q.blk.cell; have f0 := HF.out.q.blk.free
 have qv := (HF.out.bl _ (.tail _ (.tail _ (.tail _ (.head _))))).cell; have fv := (HF.out.bl _ (.tail _ (.tail _ (.tail _ (.head _))))).free
 dsimp only at q0 f0 qv fv
 go_wp2_with fail
 refine bodyPost_ret (v := .agg #[.slice af lf cf, .slice am lm cm, .int .i64 work]) (by simp [results, Tryz.results131, go_sem, qv, fv, l2, Nat.ne_of_lt l2]) rfl ⟨_, _, rfl, ?_⟩
 exact (HF.out.wk work).ends (b := w.heap.size + 1 + 1) (C := #[.slice none 0 0, .slice none 0 0, .int .i64 0]) (by simp) (by omega) _ _ _
set_option maxRecDepth 100000 in
set_option maxHeartbeats 4000000 in
theorem down_0100 (p : SPart) (nd pt : Int) (m : SMsg) (x : Eff) (w : World) (hp : p.rg < 0) (hm : 0 ≤ m.rg) (hT : ∀ W, Below w.heap.size w W → Calls Tryz.prog 219 #[seatV p.seat, .int .i64 m.k] W (Makes (.tuple #[effV x, .nilIface]) W)) (hc : x.ch = true) (hs : x.send = 0) (hf : x.fault = 0) :
   Calls Tryz.prog 131 #[oneV p nd pt, msgV m] w (ResEnds ⟨[fPlace pt m.rg, fTurn pt x.seat.s x.seat.h], [], x.work⟩ w) := by
 have HT := Lib.hid hT
 have hP := fun W => placed_of p nd pt W
 rw [decide_eq_false (show ¬ 0 ≤ p.rg by omega)] at hP
 have HPl := Lib.hid hP
 have HRe := Lib.hid (fun Q r W h hl => remember_of Q r (fPlace pt m.rg) W h hl)
 have HTu := Lib.hid (fun W => pturned_of ({ p with rg := m.rg } : SPart) nd pt x.seat W)
 have HRt := Lib.hid (fun Q r W h hl => remember_of Q r (fTurn pt x.seat.s x.seat.h) W h hl)
 obtain ⟨an, aq, rg, ⟨sp, sd, ss, sh⟩⟩ := p
 obtain ⟨mk, fr, to, man, maq, mrg, mpt, mpr, mco⟩ := m
 obtain ⟨⟨xp, xd, xs, xh⟩, send, fault, work, cc⟩ := x
 dsimp only [oneV, msgV, msgA, effV, seatV, factV, factC, fPlace, fTurn, ans, ResEnds] at *
 subst hc
 subst hs
 subst hf
 clear hT hP hp hm
 go_enter Tryz.func131, Tryz.ntmps131
 go_wp2_with fail
 refine (HPl.out _).mono ?_
 rintro e w1 ⟨rfl, hb1⟩
 have HF := Lib.hid ((fr_start (bs := [(w.heap.size, #[.int .i64 an, .int .i64 aq, .int .i64 rg, .int .i64 sp, .int .i64 sd, .int .i64 ss, .int .i64 sh, .int .i64 nd, .int .i64 pt]), (w.heap.size + 1, #[.int .i64 mk, .int .i64 fr, .int .i64 to, .int .i64 man, .int .i64 maq, .int .i64 mrg, .int .i64 mpt, .int .i64 mpr, .int .i64 mco]), (w.heap.size + 1 + 1, #[.slice none 0 0, .slice none 0 0, .int .i64 0])]) (w := w) (W := ((w.alloc (.cells #[.int .i64 an, .int .i64 aq, .int .i64 rg, .int .i64 sp, .int .i64 sd, .int .i64 ss, .int .i64 sh, .int .i64 nd, .int .i64 pt] 205)).alloc (.cells #[.int .i64 mk, .int .i64 fr, .int .i64 to, .int .i64 man, .int .i64 maq, .int .i64 mrg, .int .i64 mpt, .int .i64 mpr, .int .i64 mco] 81)).alloc (.cells #[.slice none 0 0, .slice none 0 0, .int .i64 0] 87)) (by go_grown) (by
   intro y hy
   simp only [List.mem_cons, List.not_mem_nil, or_false] at hy
   rcases hy with rfl | rfl | rfl
   · exact ((Blk.fresh w _ _ _ rfl).alloc _).alloc _
   · exact (Blk.fresh _ _ _ _ (by simp)).alloc _
   · exact Blk.fresh _ _ _ _ (by simp)) (by simp; omega) 87).below hb1)
 clear hb1
 rw [show (((w.alloc (.cells #[.int .i64 an, .int .i64 aq, .int .i64 rg, .int .i64 sp, .int .i64 sd, .int .i64 ss, .int .i64 sh, .int .i64 nd, .int .i64 pt] 205)).alloc (.cells #[.int .i64 mk, .int .i64 fr, .int .i64 to, .int .i64 man, .int .i64 maq, .int .i64 mrg, .int .i64 mpt, .int .i64 mpr, .int .i64 mco] 81)).alloc (.cells #[.slice none 0 0, .slice none 0 0, .int .i64 0] 87)).heap.size = w.heap.size + 1 + 1 + 1 by simp] at HF
 have hlt := HF.out.lt
 dsimp only at hlt
 have l0 : w.heap.size < w1.heap.size := by omega
 have l1 : w.heap.size + 1 < w1.heap.size := by omega
 have l2 : w.heap.size + 1 + 1 < w1.heap.size := by omega
 have l3 : w.heap.size + 1 + 1 + 1 < w1.heap.size := by omega
 have qp := (HF.out.bl _ (.head _)).cell; have fp := (HF.out.bl _ (.head _)).free; have qm := (HF.out.bl _ (.tail _ (.head _))).cell
 dsimp only at qp fp qm
 go_wp2_with fail
 clear hlt qp fp qm l0 l1 l2 l3
 refine (HRe.out _ _ _ HF.out.q (by simp)).mono ?_
 rintro e w2 ⟨rfl, hs2⟩
 obtain ⟨fv2, mv2, hF2⟩ := HF.out.goes hs2
 have HF := Lib.hid hF2
 clear hs2 hF2
 have hlt := HF.out.lt
 dsimp only at hlt
 have l0 : w.heap.size < w2.heap.size := by omega
 have l1 : w.heap.size + 1 < w2.heap.size := by omega
 have l2 : w.heap.size + 1 + 1 < w2.heap.size := by omega
 have l3 : w.heap.size + 1 + 1 + 1 < w2.heap.size := by omega
 have qp := (HF.out.bl _ (.head _)).cell; have fp := (HF.out.bl _ (.head _)).free; have qm := (HF.out.bl _ (.tail _ (.head _))).cell
 dsimp only at qp fp qm
 go_wp2_with fail
 clear hlt qp fp qm l0 l1 l2 l3
 have HF := Lib.hid (show FrAt [(w.heap.size, #[.int .i64 an, .int .i64 aq, .int .i64 mrg, .int .i64 sp, .int .i64 sd, .int .i64 ss, .int .i64 sh, .int .i64 nd, .int .i64 pt]), (w.heap.size + 1, #[.int .i64 mk, .int .i64 fr, .int .i64 to, .int .i64 man, .int .i64 maq, .int .i64 mrg, .int .i64 mpt, .int .i64 mpr, .int .i64 mco]), (w.heap.size + 1 + 1, #[.slice none 0 0, .slice none 0 0, .int .i64 0])] _ _ w _ from HF.out.set (Nat.le_refl _) 2 (by simp) (.int .i64 mrg))
 refine (HT.out _ HF.out.be).mono ?_
 rintro e w3 ⟨rfl, hb3⟩
 have HF := Lib.hid (HF.out.below hb3)
 clear hb3
 have hlt := HF.out.lt
 dsimp only at hlt
 have l0 : w.heap.size < w3.heap.size := by omega
 have l1 : w.heap.size + 1 < w3.heap.size := by omega
 have l2 : w.heap.size + 1 + 1 < w3.heap.size := by omega
 have l3 : w.heap.size + 1 + 1 + 1 < w3.heap.size := by omega
 have qp := (HF.out.bl _ (.head _)).cell; have fp := (HF.out.bl _ (.head _)).free; have qm := (HF.out.bl _ (.tail _ (.head _))).cell
 dsimp only at qp fp qm
 go_wp2_with fail
 clear hlt qp fp qm l0 l1 l2 l3
 have HF := Lib.hid (HF.out.push #[.int .i64 xp, .int .i64 xd, .int .i64 xs, .int .i64 xh, .int .i64 0, .int .i64 0, .int .i64 work, .bool true] 224)
 refine (HTu.out _).mono ?_
 rintro e w4 ⟨rfl, hb4⟩
 have HF := Lib.hid (HF.out.below hb4)
 clear hb4
 have hlt := HF.out.lt
 dsimp only at hlt
 have l0 : w.heap.size < w4.heap.size := by omega
 have l1 : w.heap.size + 1 < w4.heap.size := by omega
 have l2 : w.heap.size + 1 + 1 < w4.heap.size := by omega
 have l3 : w.heap.size + 1 + 1 + 1 < w4.heap.size := by omega
 have qp := (HF.out.bl _ (.tail _ (.head _))).cell; have fp := (HF.out.bl _ (.tail _ (.head _))).free; have qm := (HF.out.bl _ (.tail _ (.tail _ (.head _)))).cell
 dsimp only at qp fp qm
 have qe := (HF.out.bl (w3.heap.size, #[.int .i64 xp, .int .i64 xd, .int .i64 xs, .int .i64 xh, .int .i64 0, .int .i64 0, .int .i64 work, .bool true]) (by simp)).cell
 have he1 := (HF.out.bl (w3.heap.size, #[.int .i64 xp, .int .i64 xd, .int .i64 xs, .int .i64 xh, .int .i64 0, .int .i64 0, .int .i64 work, .bool true]) (by simp)).lt
 dsimp only at qe he1
 go_wp2_with fail
 clear hlt qp fp qm l0 l1 l2 l3 qe he1
 refine (HRt.out _ _ _ HF.out.q (by simp)).mono ?_
 rintro e w5 ⟨rfl, hs5⟩
 obtain ⟨fv5, mv5, hF5⟩ := HF.out.goes hs5
 have HF := Lib.hid hF5
 clear hs5 hF5
 obtain ⟨af, lf, cf, hfv⟩ := row_form3 HF.out.q.fs
 obtain ⟨am, lm, cm, hmv⟩ := row_form3 HF.out.q.ms
 dsimp only at hfv hmv
 subst hfv hmv
 have hlt := HF.out.lt
 dsimp only at hlt
 have l0 : w.heap.size < w5.heap.size := by omega
 have l1 : w.heap.size + 1 < w5.heap.size := by omega
 have l2 : w.heap.size + 1 + 1 < w5.heap.size := by omega
 have l3 : w.heap.size + 1 + 1 + 1 < w5.heap.size := by omega
 have qp := (HF.out.bl _ (.tail _ (.head _))).cell; have fp := (HF.out.bl _ (.tail _ (.head _))).free; have qm := (HF.out.bl _ (.tail _ (.tail _ (.head _)))).cell
 dsimp only at qp fp qm
 have qe := (HF.out.bl (w3.heap.size, #[.int .i64 xp, .int .i64 xd, .int .i64 xs, .int .i64 xh, .int .i64 0, .int .i64 0, .int .i64 work, .bool true]) (by simp)).cell
 have he1 := (HF.out.bl (w3.heap.size, #[.int .i64 xp, .int .i64 xd, .int .i64 xs, .int .i64 xh, .int .i64 0, .int .i64 0, .int .i64 work, .bool true]) (by simp)).lt
 dsimp only at qe he1
 have q0 := HF.out.q.blk.cell; have f0 := HF.out.q.blk.free
 have qv := (HF.out.bl _ (.tail _ (.tail _ (.tail _ (.head _))))).cell; have fv := (HF.out.bl _ (.tail _ (.tail _ (.tail _ (.head _))))).free
 dsimp only at q0 f0 qv fv
 go_wp2_with fail
 refine bodyPost_ret (v := .agg #[.slice af lf cf, .slice am lm cm, .int .i64 work]) (by simp [results, Tryz.results131, go_sem, qv, fv, l2, Nat.ne_of_lt l2]) rfl ⟨_, _, rfl, ?_⟩
 exact (HF.out.wk work).ends (b := w.heap.size + 1 + 1) (C := #[.slice none 0 0, .slice none 0 0, .int .i64 0]) (by simp) (by omega) _ _ _
set_option maxRecDepth 100000 in
set_option maxHeartbeats 4000000 in
theorem down_0110 (p : SPart) (nd pt : Int) (m : SMsg) (x : Eff) (w : World) (hp : p.rg < 0) (hm : 0 ≤ m.rg) (hT : ∀ W, Below w.heap.size w W → Calls Tryz.prog 219 #[seatV p.seat, .int .i64 m.k] W (Makes (.tuple #[effV x, .nilIface]) W)) (hc : x.ch = true) (hs : x.send ≠ 0) (hf : x.fault = 0) :
   Calls Tryz.prog 131 #[oneV p nd pt, msgV m] w (ResEnds ⟨[fPlace pt m.rg, fTurn pt x.seat.s x.seat.h], [⟨x.send, nd, p.an, p.an, p.aq, m.rg, pt, 0, 0⟩], x.work⟩ w) := by
 have HT := Lib.hid hT
 have hP := fun W => placed_of p nd pt W
 rw [decide_eq_false (show ¬ 0 ≤ p.rg by omega)] at hP
 have HPl := Lib.hid hP
 have HRe := Lib.hid (fun Q r W h hl => remember_of Q r (fPlace pt m.rg) W h hl)
 have HTu := Lib.hid (fun W => pturned_of ({ p with rg := m.rg } : SPart) nd pt x.seat W)
 have HRt := Lib.hid (fun Q r W h hl => remember_of Q r (fTurn pt x.seat.s x.seat.h) W h hl)
 have hM := fun W => message_of ({ p with rg := m.rg } : SPart) nd pt x.send W
 rw [show max ({ p with rg := m.rg } : SPart).rg 0 = m.rg from (by show max m.rg 0 = m.rg; omega)] at hM
 have HMs := Lib.hid hM
 have HSm := Lib.hid (fun Q r W h hl => send_of Q r ⟨x.send, nd, p.an, p.an, p.aq, m.rg, pt, 0, 0⟩ W h hl)
 obtain ⟨an, aq, rg, ⟨sp, sd, ss, sh⟩⟩ := p
 obtain ⟨mk, fr, to, man, maq, mrg, mpt, mpr, mco⟩ := m
 obtain ⟨⟨xp, xd, xs, xh⟩, send, fault, work, cc⟩ := x
 dsimp only [oneV, msgV, msgA, effV, seatV, factV, factC, fPlace, fTurn, ans, ResEnds] at *
 subst hc
 have ds : (send != 0) = true := by simpa using hs
 subst hf
 clear hT hP hs hM hp hm
 go_enter Tryz.func131, Tryz.ntmps131
 go_wp2_with fail
 refine (HPl.out _).mono ?_
 rintro e w1 ⟨rfl, hb1⟩
 have HF := Lib.hid ((fr_start (bs := [(w.heap.size, #[.int .i64 an, .int .i64 aq, .int .i64 rg, .int .i64 sp, .int .i64 sd, .int .i64 ss, .int .i64 sh, .int .i64 nd, .int .i64 pt]), (w.heap.size + 1, #[.int .i64 mk, .int .i64 fr, .int .i64 to, .int .i64 man, .int .i64 maq, .int .i64 mrg, .int .i64 mpt, .int .i64 mpr, .int .i64 mco]), (w.heap.size + 1 + 1, #[.slice none 0 0, .slice none 0 0, .int .i64 0])]) (w := w) (W := ((w.alloc (.cells #[.int .i64 an, .int .i64 aq, .int .i64 rg, .int .i64 sp, .int .i64 sd, .int .i64 ss, .int .i64 sh, .int .i64 nd, .int .i64 pt] 205)).alloc (.cells #[.int .i64 mk, .int .i64 fr, .int .i64 to, .int .i64 man, .int .i64 maq, .int .i64 mrg, .int .i64 mpt, .int .i64 mpr, .int .i64 mco] 81)).alloc (.cells #[.slice none 0 0, .slice none 0 0, .int .i64 0] 87)) (by go_grown) (by
   intro y hy
   simp only [List.mem_cons, List.not_mem_nil, or_false] at hy
   rcases hy with rfl | rfl | rfl
   · exact ((Blk.fresh w _ _ _ rfl).alloc _).alloc _
   · exact (Blk.fresh _ _ _ _ (by simp)).alloc _
   · exact Blk.fresh _ _ _ _ (by simp)) (by simp; omega) 87).below hb1)
 clear hb1
 rw [show (((w.alloc (.cells #[.int .i64 an, .int .i64 aq, .int .i64 rg, .int .i64 sp, .int .i64 sd, .int .i64 ss, .int .i64 sh, .int .i64 nd, .int .i64 pt] 205)).alloc (.cells #[.int .i64 mk, .int .i64 fr, .int .i64 to, .int .i64 man, .int .i64 maq, .int .i64 mrg, .int .i64 mpt, .int .i64 mpr, .int .i64 mco] 81)).alloc (.cells #[.slice none 0 0, .slice none 0 0, .int .i64 0] 87)).heap.size = w.heap.size + 1 + 1 + 1 by simp] at HF
 have hlt := HF.out.lt
 dsimp only at hlt
 have l0 : w.heap.size < w1.heap.size := by omega
 have l1 : w.heap.size + 1 < w1.heap.size := by omega
 have l2 : w.heap.size + 1 + 1 < w1.heap.size := by omega
 have l3 : w.heap.size + 1 + 1 + 1 < w1.heap.size := by omega
 have qp := (HF.out.bl _ (.head _)).cell; have fp := (HF.out.bl _ (.head _)).free; have qm := (HF.out.bl _ (.tail _ (.head _))).cell
 dsimp only at qp fp qm
 go_wp2_with fail
 clear hlt qp fp qm l0 l1 l2 l3
 refine (HRe.out _ _ _ HF.out.q (by simp)).mono ?_
 rintro e w2 ⟨rfl, hs2⟩
 obtain ⟨fv2, mv2, hF2⟩ := HF.out.goes hs2
 have HF := Lib.hid hF2
 clear hs2 hF2
 have hlt := HF.out.lt
 dsimp only at hlt
 have l0 : w.heap.size < w2.heap.size := by omega
 have l1 : w.heap.size + 1 < w2.heap.size := by omega
 have l2 : w.heap.size + 1 + 1 < w2.heap.size := by omega
 have l3 : w.heap.size + 1 + 1 + 1 < w2.heap.size := by omega
 have qp := (HF.out.bl _ (.head _)).cell; have fp := (HF.out.bl _ (.head _)).free; have qm := (HF.out.bl _ (.tail _ (.head _))).cell
 dsimp only at qp fp qm
 go_wp2_with fail
 clear hlt qp fp qm l0 l1 l2 l3
 have HF := Lib.hid (show FrAt [(w.heap.size, #[.int .i64 an, .int .i64 aq, .int .i64 mrg, .int .i64 sp, .int .i64 sd, .int .i64 ss, .int .i64 sh, .int .i64 nd, .int .i64 pt]), (w.heap.size + 1, #[.int .i64 mk, .int .i64 fr, .int .i64 to, .int .i64 man, .int .i64 maq, .int .i64 mrg, .int .i64 mpt, .int .i64 mpr, .int .i64 mco]), (w.heap.size + 1 + 1, #[.slice none 0 0, .slice none 0 0, .int .i64 0])] _ _ w _ from HF.out.set (Nat.le_refl _) 2 (by simp) (.int .i64 mrg))
 refine (HT.out _ HF.out.be).mono ?_
 rintro e w3 ⟨rfl, hb3⟩
 have HF := Lib.hid (HF.out.below hb3)
 clear hb3
 have hlt := HF.out.lt
 dsimp only at hlt
 have l0 : w.heap.size < w3.heap.size := by omega
 have l1 : w.heap.size + 1 < w3.heap.size := by omega
 have l2 : w.heap.size + 1 + 1 < w3.heap.size := by omega
 have l3 : w.heap.size + 1 + 1 + 1 < w3.heap.size := by omega
 have qp := (HF.out.bl _ (.head _)).cell; have fp := (HF.out.bl _ (.head _)).free; have qm := (HF.out.bl _ (.tail _ (.head _))).cell
 dsimp only at qp fp qm
 go_wp2_with fail
 clear hlt qp fp qm l0 l1 l2 l3
 have HF := Lib.hid (HF.out.push #[.int .i64 xp, .int .i64 xd, .int .i64 xs, .int .i64 xh, .int .i64 send, .int .i64 0, .int .i64 work, .bool true] 224)
 refine (HTu.out _).mono ?_
 rintro e w4 ⟨rfl, hb4⟩
 have HF := Lib.hid (HF.out.below hb4)
 clear hb4
 have hlt := HF.out.lt
 dsimp only at hlt
 have l0 : w.heap.size < w4.heap.size := by omega
 have l1 : w.heap.size + 1 < w4.heap.size := by omega
 have l2 : w.heap.size + 1 + 1 < w4.heap.size := by omega
 have l3 : w.heap.size + 1 + 1 + 1 < w4.heap.size := by omega
 have qp := (HF.out.bl _ (.tail _ (.head _))).cell; have fp := (HF.out.bl _ (.tail _ (.head _))).free; have qm := (HF.out.bl _ (.tail _ (.tail _ (.head _)))).cell
 dsimp only at qp fp qm
 have qe := (HF.out.bl (w3.heap.size, #[.int .i64 xp, .int .i64 xd, .int .i64 xs, .int .i64 xh, .int .i64 send, .int .i64 0, .int .i64 work, .bool true]) (by simp)).cell
 have he1 := (HF.out.bl (w3.heap.size, #[.int .i64 xp, .int .i64 xd, .int .i64 xs, .int .i64 xh, .int .i64 send, .int .i64 0, .int .i64 work, .bool true]) (by simp)).lt
 dsimp only at qe he1
 go_wp2_with fail
 clear hlt qp fp qm l0 l1 l2 l3 qe he1
 refine (HRt.out _ _ _ HF.out.q (by simp)).mono ?_
 rintro e w5 ⟨rfl, hs5⟩
 obtain ⟨fv5, mv5, hF5⟩ := HF.out.goes hs5
 have HF := Lib.hid hF5
 clear hs5 hF5
 have hlt := HF.out.lt
 dsimp only at hlt
 have l0 : w.heap.size < w5.heap.size := by omega
 have l1 : w.heap.size + 1 < w5.heap.size := by omega
 have l2 : w.heap.size + 1 + 1 < w5.heap.size := by omega
 have l3 : w.heap.size + 1 + 1 + 1 < w5.heap.size := by omega
 have qp := (HF.out.bl _ (.tail _ (.head _))).cell; have fp := (HF.out.bl _ (.tail _ (.head _))).free; have qm := (HF.out.bl _ (.tail _ (.tail _ (.head _)))).cell
 dsimp only at qp fp qm
 have qe := (HF.out.bl (w3.heap.size, #[.int .i64 xp, .int .i64 xd, .int .i64 xs, .int .i64 xh, .int .i64 send, .int .i64 0, .int .i64 work, .bool true]) (by simp)).cell
 have he1 := (HF.out.bl (w3.heap.size, #[.int .i64 xp, .int .i64 xd, .int .i64 xs, .int .i64 xh, .int .i64 send, .int .i64 0, .int .i64 work, .bool true]) (by simp)).lt
 dsimp only at qe he1
 go_wp2_with fail
 clear hlt qp fp qm l0 l1 l2 l3 qe he1
 refine (HMs.out _).mono ?_
 rintro e w6 ⟨rfl, hb6⟩
 have HF := Lib.hid (HF.out.below hb6)
 clear hb6
 have hlt := HF.out.lt
 dsimp only at hlt
 have l0 : w.heap.size < w6.heap.size := by omega
 have l1 : w.heap.size + 1 < w6.heap.size := by omega
 have l2 : w.heap.size + 1 + 1 < w6.heap.size := by omega
 have l3 : w.heap.size + 1 + 1 + 1 < w6.heap.size := by omega
 have qp := (HF.out.bl _ (.tail _ (.head _))).cell; have fp := (HF.out.bl _ (.tail _ (.head _))).free; have qm := (HF.out.bl _ (.tail _ (.tail _ (.head _)))).cell
 dsimp only at qp fp qm
 have qe := (HF.out.bl (w3.heap.size, #[.int .i64 xp, .int .i64 xd, .int .i64 xs, .int .i64 xh, .int .i64 send, .int .i64 0, .int .i64 work, .bool true]) (by simp)).cell
 have he1 := (HF.out.bl (w3.heap.size, #[.int .i64 xp, .int .i64 xd, .int .i64 xs, .int .i64 xh, .int .i64 send, .int .i64 0, .int .i64 work, .bool true]) (by simp)).lt
 dsimp only at qe he1
 go_wp2_with fail
 clear hlt qp fp qm l0 l1 l2 l3 qe he1
 refine (HSm.out _ _ _ HF.out.q (by simp)).mono ?_
 rintro e w7 ⟨rfl, hs7⟩
 obtain ⟨fv7, mv7, hF7⟩ := HF.out.goes hs7
 have HF := Lib.hid hF7
 clear hs7 hF7
 obtain ⟨af, lf, cf, hfv⟩ := row_form3 HF.out.q.fs
 obtain ⟨am, lm, cm, hmv⟩ := row_form3 HF.out.q.ms
 dsimp only at hfv hmv
 subst hfv hmv
 have hlt := HF.out.lt
 dsimp only at hlt
 have l0 : w.heap.size < w7.heap.size := by omega
 have l1 : w.heap.size + 1 < w7.heap.size := by omega
 have l2 : w.heap.size + 1 + 1 < w7.heap.size := by omega
 have l3 : w.heap.size + 1 + 1 + 1 < w7.heap.size := by omega
 have qp := (HF.out.bl _ (.tail _ (.head _))).cell; have fp := (HF.out.bl _ (.tail _ (.head _))).free; have qm := (HF.out.bl _ (.tail _ (.tail _ (.head _)))).cell
 dsimp only at qp fp qm
 have qe := (HF.out.bl (w3.heap.size, #[.int .i64 xp, .int .i64 xd, .int .i64 xs, .int .i64 xh, .int .i64 send, .int .i64 0, .int .i64 work, .bool true]) (by simp)).cell
 have he1 := (HF.out.bl (w3.heap.size, #[.int .i64 xp, .int .i64 xd, .int .i64 xs, .int .i64 xh, .int .i64 send, .int .i64 0, .int .i64 work, .bool true]) (by simp)).lt
 dsimp only at qe he1
 have q0 := HF.out.q.blk.cell; have f0 := HF.out.q.blk.free
 have qv := (HF.out.bl _ (.tail _ (.tail _ (.tail _ (.head _))))).cell; have fv := (HF.out.bl _ (.tail _ (.tail _ (.tail _ (.head _))))).free
 dsimp only at q0 f0 qv fv
 go_wp2_with fail
 refine bodyPost_ret (v := .agg #[.slice af lf cf, .slice am lm cm, .int .i64 work]) (by simp [results, Tryz.results131, go_sem, qv, fv, l2, Nat.ne_of_lt l2]) rfl ⟨_, _, rfl, ?_⟩
 exact (HF.out.wk work).ends (b := w.heap.size + 1 + 1) (C := #[.slice none 0 0, .slice none 0 0, .int .i64 0]) (by simp) (by omega) _ _ _
end Go.Proofs.YtlkajejbfojkeaaGreatDoor
