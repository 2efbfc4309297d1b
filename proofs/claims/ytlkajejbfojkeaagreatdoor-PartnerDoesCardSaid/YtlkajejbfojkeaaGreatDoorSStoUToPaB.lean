/- StoU, StoE, MovEq, ParP, ParO, StoV, PaA, PaB -/
import Derived.Test.YtlkajejbfojkeaaGreatDoorRows
import Derived.WalkKit
import Derived.WalkSpells
import Derived.WalkLawsBesides
import Derived.BigQuiet
import Derived.Deep.QuietTactic
import Derived.StillTailTactics
import Derived.Handy
import Derived.Lib.Hide
import Derived.Test.YtlkajejbfojkeaaGreatDoorSToldBToStoN
import Derived.Test.YtlkajejbfojkeaaGreatDoorSFacDToStoC
import Derived.Deep.RegionWith
import Derived.Deep.RegionHeld3
import Derived.Deep.AppendLies
import Derived.Deep.RegionLaw
import Derived.Test.YtlkajejbfojkeaaGreatDoorSMovCToTold
import Derived.Laws.Tables
set_option linter.unusedSimpArgs false
set_option linter.unusedVariables false
namespace Go.Proofs.YtlkajejbfojkeaaGreatDoor
open Go.RowKit

theorem heap_seat (w : World) (g o : Nat) (t : MSeat) (k : Nat) (h : k ≠ g) : (putSeat4 w g o t).heap[k]? = w.heap[k]? := by
 unfold putSeat4
 rw [Below.heap_setCell _ _ _ _ h, Below.heap_setCell _ _ _ _ h, Below.heap_setCell _ _ _ _ h, Below.heap_setCell _ _ _ _ h]
theorem size_seat (w : World) (g o : Nat) (t : MSeat) : (putSeat4 w g o t).heap.size = w.heap.size := by unfold putSeat4; simp
theorem StoreAt.parts_in {L : SLoc} {S : Sto} {w w' : World} (h : StoreAt L S w) (ps : List SPart) (hz : w.heap.size ≤ w'.heap.size) (he : ∀ k, L.pv.ownBlock ≠ some k → k < w.heap.size → w'.heap[k]? = w.heap[k]?) (hrow : w'.ownsRow 0 61 7 L.pv ps.length (partsL ps)) : StoreAt L { S with parts := ps } w' := by
 have hn := h.ne_top
 refine ⟨h.blk.same hz (he _ hn.2.1 h.blk.lt), row_heap h.acts (fun k hk => he k (hn.2.2 k hk) (h.acts.lt k hk).2), hrow, fun j y b hy hb => ?_, h.once⟩
 obtain ⟨b1, b2⟩ := h.act j y b hy hb
 have hne := h.ne_act hy
 exact ⟨b1.same hz (he _ hne.2.2.1 b1.lt), row_heap b2 (fun k hk => he k (hne.2.2.2.2.2 k hk).2 (b2.lt k hk).2)⟩
theorem StoreAt.parts_to {L : SLoc} {S : Sto} {w w' : World} (h : StoreAt L S w) (pv' : Value) (ps : List SPart) (hz : w.heap.size ≤ w'.heap.size) (he : ∀ k, L.pv.ownBlock ≠ some k → k ≠ L.sb → k < w.heap.size → w'.heap[k]? = w.heap[k]?) (hblk : Blk w' L.sb #[.int .i64 S.node, .int .i64 S.next, L.av, pv']) (hrow : w'.ownsRow 0 61 7 pv' ps.length (partsL ps)) (hm : Moved L.foot L.pv pv') : StoreAt ⟨L.sb, L.av, pv', L.ab⟩ { S with parts := ps } w' := by
 have hn := h.ne_top
 refine ⟨hblk, row_heap h.acts (fun k hk => he k (hn.2.2 k hk) (fun e => hn.1 (by rw [hk, e])) (h.acts.lt k hk).2), hrow, fun j y b hy hb => ?_, once_pv h.once hm⟩
 obtain ⟨b1, b2⟩ := h.act j y b hy hb
 have hne := h.ne_act hy
 exact ⟨b1.same hz (he _ hne.2.2.1 hne.1 b1.lt), row_heap b2 (fun k hk => he k (hne.2.2.2.2.2 k hk).2 (fun e => hne.2.2.2.2.1 (by rw [hk, e])) (b2.lt k hk).2)⟩
theorem ptrs_set (ab : List (Nat × Value)) (i : Nat) (x : Nat × Value) (v' : Value) (hx : ab[i]? = some x) : ptrs (ab.set i (x.1, v')) = ptrs ab := by
 unfold ptrs
 rw [List.map_set]
 obtain ⟨hi, he⟩ := List.getElem?_eq_some_iff.1 hx
 have e : (Value.pointer (some ⟨x.1, 0, none⟩)) = (ab.map fun x => Value.pointer (some ⟨x.1, 0, none⟩))[i]'(by simpa using hi) := by simp [he]
 show (ab.map fun x => Value.pointer (some ⟨x.1, 0, none⟩)).set i (Value.pointer (some ⟨x.1, 0, none⟩)) = _
 rw [e, List.set_getElem_self]
theorem StoreAt.act_in {L : SLoc} {S : Sto} {w w' : World} {i : Nat} {x : Nat × Value} {a : SAct} (h : StoreAt L S w) (hx : L.ab[i]? = some x) (ha : S.acts[i]? = some a) (v' : Value) (a' : SAct) (hz : w.heap.size ≤ w'.heap.size) (he : ∀ k, k ≠ x.1 → x.2.ownBlock ≠ some k → k < w.heap.size → w'.heap[k]? = w.heap[k]?) (hblk : Blk w' x.1 (actC a' v')) (hrow : w'.ownsRow 0 55 6 v' a'.regs.length (regsL a'.regs)) (hm : Moved L.foot x.2 v') :
   StoreAt ⟨L.sb, L.av, L.pv, L.ab.set i (x.1, v')⟩ { S with acts := S.acts.set i a' } w' := by
 have hne := h.ne_act hx
 refine ⟨h.blk.same hz (he _ (fun e => hne.1 e.symm) hne.2.2.2.2.1 h.blk.lt), ?_, row_heap h.parts (fun k hk => he k (fun e => hne.2.2.1 (by rw [hk, e])) (fun e => (hne.2.2.2.2.2 k e).2 hk) (h.parts.lt k hk).2), fun j y b hy hb => ?_, once_rv h.once hx hm⟩
 · show w'.ownsRow 0 _ 1 L.av (S.acts.set i a').length (ptrs (L.ab.set i (x.1, v')))
   rw [ptrs_set _ _ _ _ hx, List.length_set]
   exact row_heap h.acts (fun k hk => he k (fun e => hne.2.1 (by rw [hk, e])) (fun e => (hne.2.2.2.2.2 k e).1 hk) (h.acts.lt k hk).2)
 · have hy' : (L.ab.set i (x.1, v'))[j]? = some y := hy
   have hb' : (S.acts.set i a')[j]? = some b := hb
   by_cases hij : i = j
   · subst hij
     rw [List.getElem?_set_self (List.getElem?_eq_some_iff.1 hx).1] at hy'
     rw [List.getElem?_set_self (List.getElem?_eq_some_iff.1 ha).1] at hb'
     injection hy' with hy'; injection hb' with hb'
     subst hy' hb'
     exact ⟨hblk, hrow⟩
   · rw [List.getElem?_set_ne hij] at hy' hb'
     obtain ⟨b1, b2⟩ := h.act j y b hy' hb'
     have h2 := h.ne_two hx hy' hij
     have hno : ∀ k, (k = y.1 ∨ y.2.ownBlock = some k) → k ≠ x.1 ∧ x.2.ownBlock ≠ some k := fun k hk => ⟨fun e => h2 k (.inl e) hk, fun e => h2 k (.inr e) hk⟩
     exact ⟨b1.same hz (he _ (hno _ (.inl rfl)).1 (hno _ (.inl rfl)).2 b1.lt), row_heap b2 (fun k hk => he k (hno _ (.inr hk)).1 (hno _ (.inr hk)).2 (b2.lt k hk).2)⟩
theorem StoreAt.acts_to {L : SLoc} {S : Sto} {w w' : World} (h : StoreAt L S w) (av' : Value) (m : Nat) (a : SAct) (nx : Int) (hr : a.regs = []) (hz : w.heap.size ≤ w'.heap.size) (hm : w.heap.size ≤ m) (he : ∀ k, L.av.ownBlock ≠ some k → k ≠ L.sb → k < w.heap.size → w'.heap[k]? = w.heap[k]?) (hblk : Blk w' L.sb #[.int .i64 S.node, .int .i64 nx, av', L.pv]) (hact : Blk w' m (actC a (.slice none 0 0))) (hrow : w'.ownsRow 0 159 1 av' (S.acts.length + 1) (ptrs L.ab ++ [.pointer (some ⟨m, 0, none⟩)])) (ha : av'.ownBlock = L.av.ownBlock ∨ ∃ k, av'.ownBlock = some k ∧ w.heap.size ≤ k ∧ k ≠ m) :
   StoreAt ⟨L.sb, av', L.pv, L.ab ++ [(m, .slice none 0 0)]⟩ { S with next := nx, acts := S.acts ++ [a] } w' := by
 have hn := h.ne_top
 have hmf : m ∉ L.foot := fun hk => by have := h.lt m hk; omega
 refine ⟨hblk, ?_, row_heap h.parts (fun k hk => he k (fun e => hn.2.2 k e hk) (fun e => hn.2.1 (by rw [hk, e])) (h.parts.lt k hk).2), fun j y b hy hb => ?_, once_add h.once hmf (ha.imp id (fun ⟨k, h1, h2, h3⟩ => ⟨k, h1, fun hk => by have := h.lt k hk; omega, h3⟩))⟩
 · show w'.ownsRow 0 _ 1 av' (S.acts ++ [a]).length (ptrs (L.ab ++ [(m, .slice none 0 0)]))
   rw [List.length_append]
   unfold ptrs at hrow ⊢
   rw [List.map_append]
   exact hrow
 · have hl := h.len
   have hy' : (L.ab ++ [(m, Value.slice none 0 0)])[j]? = some y := hy
   have hb' : (S.acts ++ [a])[j]? = some b := hb
   by_cases hj : j < S.acts.length
   · rw [List.getElem?_append_left (by omega)] at hy'
     rw [List.getElem?_append_left hj] at hb'
     obtain ⟨b1, b2⟩ := h.act j y b hy' hb'
     have hne := h.ne_act hy'
     exact ⟨b1.same hz (he _ hne.2.1 hne.1 b1.lt), row_heap b2 (fun k hk => he k (hne.2.2.2.2.2 k hk).1 (fun e => hne.2.2.2.2.1 (by rw [hk, e])) (b2.lt k hk).2)⟩
   · rw [List.getElem?_append_right (by omega)] at hy' hb'
     have hj' : j = S.acts.length := by
       have := (List.getElem?_eq_some_iff.1 hb').1
       simp at this; omega
     subst hj'
     rw [hl] at hy'
     simp at hy' hb'
     subst hy' hb'
     exact ⟨hact, by rw [hr]; exact World.ownsRow_nil _ _ _ _⟩
theorem StoreAt.acts_del {L : SLoc} {S : Sto} {w w' : World} {i : Nat} (h : StoreAt L S w) (av' : Value) (hi : i < S.acts.length) (hz : w.heap.size ≤ w'.heap.size) (he : ∀ k, L.av.ownBlock ≠ some k → k ≠ L.sb → k < w.heap.size → w'.heap[k]? = w.heap[k]?) (hblk : Blk w' L.sb #[.int .i64 S.node, .int .i64 S.next, av', L.pv]) (hrow : w'.ownsRow 0 159 1 av' (S.acts.length - 1) (ptrs (L.ab.eraseIdx i))) (ha : av'.ownBlock = L.av.ownBlock) :
   StoreAt ⟨L.sb, av', L.pv, L.ab.eraseIdx i⟩ { S with acts := S.acts.eraseIdx i } w' := by
 have hn := h.ne_top
 refine ⟨hblk, ?_, row_heap h.parts (fun k hk => he k (fun e => hn.2.2 k e hk) (fun e => hn.2.1 (by rw [hk, e])) (h.parts.lt k hk).2), fun j y b hy hb => ?_, once_del i h.once ha⟩
 · show w'.ownsRow 0 _ 1 av' (S.acts.eraseIdx i).length _
   rw [List.length_eraseIdx_of_lt hi]
   exact hrow
 · have hy' : (L.ab.eraseIdx i)[j]? = some y := hy
   have hb' : (S.acts.eraseIdx i)[j]? = some b := hb
   have key : ∀ q, L.ab[q]? = some y → S.acts[q]? = some b → Blk w' y.1 (actC b y.2) ∧ w'.ownsRow 0 55 6 y.2 b.regs.length (regsL b.regs) := fun q hyq hbq => by
     obtain ⟨b1, b2⟩ := h.act q y b hyq hbq
     have hne := h.ne_act hyq
     exact ⟨b1.same hz (he _ hne.2.1 hne.1 b1.lt), row_heap b2 (fun k hk => he k (hne.2.2.2.2.2 k hk).1 (fun e => hne.2.2.2.2.1 (by rw [hk, e])) (b2.lt k hk).2)⟩
   rw [List.getElem?_eraseIdx] at hy' hb'
   by_cases hj : j < i
   · rw [if_pos hj] at hy' hb'
     exact key j hy' hb'
   · rw [if_neg hj] at hy' hb'
     exact key (j + 1) hy' hb'
end Go.Proofs.YtlkajejbfojkeaaGreatDoor

namespace Go.Proofs.YtlkajejbfojkeaaGreatDoor
open Go.RowKit

theorem step_app {w : World} {ops : Array Oper} {o : Oper} {a : Act} {K : Act → World → Prop} {Q : Exit → Act → World → Prop} {E : Prop} (hgd : o.guard = none) (s x : Operand) (t : TypeId)
   (ho : o.op = .call { callee := .builtin .append, args := #[s, x], argTypes := #[t, t] })
   (base : Nat) (e : TypeId) (i : TypeInfo) (z : Value) (size bytes : Nat) (ht : Tryz.prog.underlying t = some (.slice e)) (hi : Tryz.prog.info? e = some i) (hz : i.zero = some z)
   (hsize : i.size = size) (hby : i.bytes = bytes) (hzs : z.cells.size = size) (hsz : 0 < size)
   (v : Value) (n : Nat) (xs : List Value) (hs : a.eval s = v) (hown : w.ownsRow base e size v n xs)
   (ad : Addr) (m c : Nat) (news : List Value) (hx : a.eval x = .slice (some ad) m c) (hl : news.length = m * size) (hnews : ∀ j u, news[j]? = some u → w.cell? (ad.add j) = some u) (h1 : ∀ u ∈ news, u.oneCell' = true)
   (h63 : n + m ≤ maxLen) (hbytes : (n + m) * bytes ≤ 140737488355328) (hbase : base ≤ w.heap.size)
   (h : ∀ v' w', w'.ownsRow base e size v' (n + m) (xs ++ news) → w.grownBy w' v.ownBlock → (v'.ownBlock = v.ownBlock ∨ v'.ownBlock = some w.heap.size) → K (a.put o.dst v') w') :
   if Region.wanted o (yielded ops a.tmps) = true then Oper.wp Tryz.prog o a w K Q else E := by
 have hw : Region.wanted o (yielded ops a.tmps) = true := by simp [Region.wanted, hgd]
 rw [if_pos hw]
 obtain ⟨v', w', hr, h2, h3, h4, h5⟩ := run_append_own_at (P := Tryz.prog) w base t o.type e i z size bytes ht hi hz hsize hby hzs hsz v n xs hown ad m c news hl hnews h1 h63 hbytes hbase
 unfold Oper.wp
 simp only [execOp, ho, resolve, invoke, builtin, Sem.run_bind, Sem.run_pure, Result.andThen_ok, List.map_toArray, List.map_cons, List.map_nil, hs, hx, hr]
 exact h v' w' h2 h3 h5
theorem infoPart : (Tryz.prog.info? 61).map (fun i => (i.zero, i.size, i.bytes)) = some (some (.agg #[.int .i64 0, .int .i64 0, .int .i64 0, .int .i64 0, .int .i64 0, .int .i64 0, .int .i64 0]), 7, 56) := by kernel_rfl
theorem infoReg : (Tryz.prog.info? 55).map (fun i => (i.zero, i.size, i.bytes)) = some (some (.agg #[.int .i64 0, .int .i64 0, .int .i64 0, .int .i64 0, .int .i64 0, .int .i64 0]), 6, 48) := by kernel_rfl
theorem infoActP : (Tryz.prog.info? 159).map (fun i => (i.zero, i.size, i.bytes)) = some (some (.pointer none), 1, 8) := by kernel_rfl
theorem lit_cells {W : World} {b : Nat} {l : List Value} (h : Blk W b l.toArray) : ∀ j u, l[j]? = some u → W.cell? ((⟨b, 0, none⟩ : Addr).add j) = some u := fun j u hu => by
 rw [Addr.add_lit, Nat.zero_add, h.cell]; simpa using hu
theorem Blk.set' {w : World} {b : Nat} {C : Array Value} (h : Blk w b C) (i : Nat) (hi : i < C.size) (v : Value) : Blk (w.setCell ⟨b, i, none⟩ v) b (C.set i v hi) := by
 refine ⟨by simpa using h.lt, fun j => ?_, fun j => by rw [World.frozen?_setCell]; exact h.free j⟩
 by_cases hj : j = i
 · subst hj
   have h1 : w.cell? ⟨b, j, none⟩ = some C[j] := by rw [h.cell]; exact Array.getElem?_eq_getElem hi
   rw [World.cell?_setCell_same (h := h1), Array.getElem?_set_self]
 · rw [World.cell?_setCell_other (h := by intro e; injection e with _ e2; exact hj e2.symm), h.cell, Array.getElem?_set_ne]
   exact fun e => hj e.symm
theorem joined_end {L : SLoc} {S : Sto} {w W w2 : World} {v2 : Value} {p : SPart} (h : StoreAt L S W) (hb : Below w.heap.size w W) (hg : W.grownBy w2 L.pv.ownBlock) (ho : w2.ownsRow 0 61 7 v2 (S.parts.length + 1) (partsL S.parts ++ partL p)) (hat : v2.ownBlock = L.pv.ownBlock ∨ v2.ownBlock = some W.heap.size) :
   SGoes L { S with parts := S.parts ++ [p] } w (w2.setCell ⟨L.sb, 3, none⟩ v2) := by
 have hn := h.ne_top
 have hm : Moved L.foot L.pv v2 := hat.imp id (fun e => ⟨_, e, fun hk => by have := h.lt _ hk; omega⟩)
 have hv2 : v2.ownBlock ≠ some L.sb := by
   rcases hat with e | e
   · rw [e]; exact hn.2.1
   · rw [e]; intro e'; injection e' with e'; have := h.blk.lt; omega
 have hblk : Blk w2 L.sb #[.int .i64 S.node, .int .i64 S.next, L.av, L.pv] := h.blk.same hg.size (hg.block _ h.blk.lt (fun e => hn.2.1 e.symm))
 refine ⟨⟨L.sb, L.av, v2, L.ab⟩, rfl, h.parts_to v2 _ (by simpa using hg.size) (fun k hk hs hlt => ?_) ?_ ?_ hm, ?_⟩
 · rw [Below.heap_setCell _ _ _ _ hs]
   exact hg.block k hlt (fun e => hk e.symm)
 · exact hblk.set' 3 (by simp) v2
 · rw [List.length_append]
   refine row_heap ?_ (fun k hk => Below.heap_setCell _ _ _ _ (fun e => hv2 (by rw [hk, e])))
   unfold partsL at ho ⊢
   rw [List.flatMap_append]
   simpa using ho
 · refine ((Goes.of_below hb).trans ((Goes.grown hg (fun k hk => SLoc.mem.2 (.inr (.inr (.inl hk))))).trans (Goes.setCell L.sb 3 v2 (SLoc.mem.2 (.inl rfl))))).change (fun k hk => ?_)
   rcases mem_pv (n := W.heap.size) (hat.imp id (fun e => ⟨_, e, Nat.le_refl _⟩)) k hk with h1 | h1
   · exact .inl h1
   · exact .inr (Nat.le_trans hb.size h1)
set_option maxRecDepth 100000 in
set_option maxHeartbeats 2000000 in
theorem joined_yes (L : SLoc) (S : Sto) (f : SFact) (w : World) (h : StoreAt L S w) (hG : StoGood S) (hpr : 1 ≤ f.pr ∧ f.pr ≤ 2) (hi : f.pt = (S.parts.length : Int)) :
   Calls Tryz.prog 85 #[.pointer (some ⟨L.sb, 0, none⟩), factV f] w fun e w' => e = .returned (.bool true) ∧ SGoes L { S with parts := S.parts ++ [⟨f.an, f.aq, -1, ⟨f.pr, 2, 1, 0⟩⟩] } w w' := by
 obtain ⟨a, cap, hv, hn, hr⟩ := part_row h.parts
 have hl := hG.parts
 have HN := Lib.hid (fun W => seatNew_of f.pr 2 W hpr (.inr rfl))
 have H := Lib.hid h
 have hsb := h.blk.lt
 obtain ⟨n, hnn⟩ : ∃ n, n = S.parts.length := ⟨_, rfl⟩
 have HE := Lib.hid (fun W w2 v2 (p : SPart) (h1 : StoreAt L S W) (h2 : Below w.heap.size w W) (h3 : W.grownBy w2 L.pv.ownBlock) (h4 : w2.ownsRow 0 61 7 v2 (n + 1) (partsL S.parts ++ partL p)) h5 => joined_end h1 h2 h3 (by rw [← hnn]; exact h4) h5)
 have HO := Lib.hid (fun W (hW : StoreAt L S W) => (show W.ownsRow 0 61 7 L.pv n (partsL S.parts) by rw [hnn]; exact hW.parts))
 rw [← hnn] at hv hi hl
 have HQ := Lib.hid (fun W (hW : StoreAt L S W) => (show W.cell? ⟨L.sb, 3, none⟩ = some (.slice a n cap) by rw [← hv]; exact hW.blk.cell 3))
 have HV := Lib.hid hv
 obtain ⟨i0, ei, ez, es, eb⟩ := info_parts infoPart
 obtain ⟨k, an, aq, rg, nd, pt, pr, oc, dp, pa, st, hw, de, ex⟩ := f
 dsimp only at hi HN
 subst hi
 dsimp only [factV, factC] at *
 clear hn hr hnn h hG hv hpr
 go_enter Tryz.func85, Tryz.ntmps85
 go_wp2_with fail
 refine (HN.out _).mono ?_
 rintro e w1 ⟨rfl, hb1⟩
 have HK1 := Lib.hid ((Blk.fresh w #[.int .i64 k, .int .i64 an, .int .i64 aq, .int .i64 rg, .int .i64 nd, .int .i64 (n : Int), .int .i64 pr, .int .i64 oc, .int .i64 dp, .int .i64 pa, .int .i64 st, .int .i64 hw, .int .i64 de, .float .f64 ex] 39 _ rfl).below hb1)
 have B1 : Below w.heap.size w w1 := below_then (by go_grown) hb1
 have H1 := Lib.hid (H.out.below B1)
 have hz1 := hb1.size
 simp only [World.size_alloc] at hz1
 have hs1 : L.sb < w1.heap.size := by omega
 have hs2 : w.heap.size < w1.heap.size := by omega
 obtain ⟨q, qf⟩ := HK1.out.out
 have c3 := HQ.out _ H1.out
 have hb := H1.out.blk.free
 go_wp2_with fail
 have hne : ((n : Int) != (n : Int)) = false := by simp
 go_region
 go_wp2_with fail
 clear hne
 go_region_law (refine step_app rfl (.tmp 29) (.tmp 34) 58 rfl 0 61 i0 (.agg #[.int .i64 0, .int .i64 0, .int .i64 0, .int .i64 0, .int .i64 0, .int .i64 0, .int .i64 0]) 7 56 Tryz.underlying58 ei ez es eb rfl (by decide) (.slice a n cap) n (partsL S.parts) (by rfl) (by rw [← HV.out]; exact HO.out _ (H1.out.below (by go_grown))) ⟨w1.heap.size + 1, 0, none⟩ 1 1 (partL ⟨an, aq, -1, ⟨pr, 2, 1, 0⟩⟩) (by rfl) rfl (lit_cells (Blk.fresh _ _ _ _ (by simp)).drew.drew) (partL_one _) (by unfold maxLen; omega) (by omega) (Nat.zero_le _) ?_; intro v2 w2 hown2 hgrow2 hat2; rw [← HV.out] at hgrow2 hat2; have s2 : w2.cell? ⟨L.sb, 3, none⟩ = some (.slice a n cap) := hgrow2.cell (HQ.out _ (H1.out.below (by go_grown))) (fun e => H1.out.ne_top.2.1 e.symm); have f2 : w2.frozen? ⟨L.sb, 3, none⟩ = false := (World.frozen?_of_block (a := ⟨L.sb, 3, none⟩) (hgrow2.block _ (World.block_lt_of_cell? _ _ (HQ.out _ (H1.out.below (by go_grown)))) (fun e => H1.out.ne_top.2.1 e.symm))).trans ((H1.out.below (by go_grown)).blk.free 3); have HR := Lib.hid (HE.out _ w2 v2 ⟨an, aq, -1, ⟨pr, 2, 1, 0⟩⟩ (H1.out.below (by go_grown)) (below_then B1 (by go_grown)) hgrow2 hown2 hat2); obtain ⟨a2, c2, rfl⟩ := row_slice hown2; clear hown2 hgrow2 hat2)
 all_goals go_wp2_with fail
 all_goals go_ret
 all_goals exact ⟨rfl, HR.out⟩
set_option maxRecDepth 100000 in
set_option maxHeartbeats 2000000 in
theorem joined_no (L : SLoc) (S : Sto) (f : SFact) (w : World) (h : StoreAt L S w) (hG : StoGood S) (hpr : 1 ≤ f.pr ∧ f.pr ≤ 2) (hi : f.pt ≠ (S.parts.length : Int)) :
   Calls Tryz.prog 85 #[.pointer (some ⟨L.sb, 0, none⟩), factV f] w fun e w' => e = .returned (.bool false) ∧ SGoes L S w w' := by
 obtain ⟨a, cap, hv, hn, hr⟩ := part_row h.parts
 have hl := hG.parts
 have HN := Lib.hid (fun W => seatNew_of f.pr 2 W hpr (.inr rfl))
 have H := Lib.hid h
 have hsb := h.blk.lt
 obtain ⟨n, hnn⟩ : ∃ n, n = S.parts.length := ⟨_, rfl⟩
 have HO := Lib.hid (fun W (hW : StoreAt L S W) => (show W.ownsRow 0 61 7 L.pv n (partsL S.parts) by rw [hnn]; exact hW.parts))
 rw [← hnn] at hv hi hl
 have HQ := Lib.hid (fun W (hW : StoreAt L S W) => (show W.cell? ⟨L.sb, 3, none⟩ = some (.slice a n cap) by rw [← hv]; exact hW.blk.cell 3))
 have HV := Lib.hid hv
 obtain ⟨i0, ei, ez, es, eb⟩ := info_parts infoPart
 obtain ⟨k, an, aq, rg, nd, pt, pr, oc, dp, pa, st, hw, de, ex⟩ := f
 dsimp only at hi HN
 dsimp only [factV, factC] at *
 have HI := Lib.hid hi
 clear hn hr hnn h hG hv hpr hi
 go_enter Tryz.func85, Tryz.ntmps85
 go_wp2_with fail
 refine (HN.out _).mono ?_
 rintro e w1 ⟨rfl, hb1⟩
 have HK1 := Lib.hid ((Blk.fresh w #[.int .i64 k, .int .i64 an, .int .i64 aq, .int .i64 rg, .int .i64 nd, .int .i64 pt, .int .i64 pr, .int .i64 oc, .int .i64 dp, .int .i64 pa, .int .i64 st, .int .i64 hw, .int .i64 de, .float .f64 ex] 39 _ rfl).below hb1)
 have B1 : Below w.heap.size w w1 := below_then (by go_grown) hb1
 have H1 := Lib.hid (H.out.below B1)
 have hz1 := hb1.size
 simp only [World.size_alloc] at hz1
 have hs1 : L.sb < w1.heap.size := by omega
 have hs2 : w.heap.size < w1.heap.size := by omega
 obtain ⟨q, qf⟩ := HK1.out.out
 have c3 := HQ.out _ H1.out
 have hb := H1.out.blk.free
 go_wp2_with fail
 have hne : (pt != (n : Int)) = true := by simpa using HI.out
 go_region
 all_goals go_wp2_with fail
 all_goals go_ret
 all_goals exact ⟨rfl, SGoes.same H.out (below_then B1 (by go_grown))⟩
end Go.Proofs.YtlkajejbfojkeaaGreatDoor

namespace Go.Proofs.YtlkajejbfojkeaaGreatDoor

def hows : List Int := [1, 4, 5, 6, 7, 8]
def eqAt (x : MSeat) (k : Int) : Bool := decide (mTell x k = gTell x k) && decide (mDo x k = gDo x k)
def eqSeat (p d s : Nat) : Bool := (if s = 14 then hows else [0]).all fun h => !rHas p d s || (List.range 15).all fun k : Nat => eqAt ⟨p, d, s, h⟩ k
set_option maxRecDepth 100000 in
theorem eq_all : ((List.range 3).all fun p => (List.range 3).all fun d => (List.range 15).all fun s => p == 0 || d == 0 || eqSeat p d s) = true := by decide +kernel
theorem eq_wrong {x : MSeat} {k : Int} (h : mRight x = false) : mTell x k = gTell x k ∧ mDo x k = gDo x k := by
 unfold mTell gTell mDo gDo
 rw [if_pos h, if_pos h, if_pos h, if_pos h]; exact ⟨rfl, rfl⟩
theorem rTakes_out2 {p d k : Int} (h : ¬ (0 ≤ k ∧ k ≤ 14)) : rTakes p d k = false := by
 unfold rTakes; simp only [decide_eq_false_iff_not]; omega
theorem eq_out {x : MSeat} {k : Int} (hr : ¬ mRight x = false) (h : ¬ (0 ≤ k ∧ k ≤ 14)) : mTell x k = gTell x k ∧ mDo x k = gDo x k := by
 have h1 : (rLook x.p x.d k x.s).2 ≠ 0 := by
   unfold rLook; rw [rTakes_out2 h]
   by_cases hs : rSide x.p x.d = false
   · rw [if_pos hs]; simp
   · rw [if_neg hs, if_pos rfl]; simp
 have h2 : (rStep x.p x.d k x.s).2 ≠ 0 := by
   unfold rStep; rw [rSends_out (fun h' => h ⟨by omega, by omega⟩)]
   by_cases hs : rSide x.p x.d = false
   · rw [if_pos hs]; simp
   · rw [if_neg hs, if_pos rfl]; simp
 unfold mTell gTell mDo gDo
 rw [if_neg hr, if_neg hr, if_pos h1, if_pos h1, if_neg hr, if_neg hr, if_pos h2, if_pos h2]
 exact ⟨rfl, rfl⟩
theorem eq_any (x : MSeat) (k : Int) : mTell x k = gTell x k ∧ mDo x k = gDo x k := by
 by_cases hr : mRight x = false
 · exact eq_wrong hr
 by_cases hk : 0 ≤ k ∧ k ≤ 14
 case neg => exact eq_out hr hk
 have h1 := right_eq x
 rw [show mRight x = true by simpa using hr] at h1
 have h2 := h1.symm
 simp only [Bool.and_eq_true, decide_eq_true_eq] at h2
 obtain ⟨⟨⟨p1, p2, d1, d2⟩, hh⟩, hw⟩ := h2
 obtain ⟨p, d, s, h⟩ := x
 simp only at p1 p2 d1 d2 hh hw
 have hs : 1 ≤ s ∧ s ≤ 14 := by
   refine Decidable.byContradiction fun hs => ?_
   rw [rHas_out hs] at hh; cases hh
 obtain ⟨pn, rfl⟩ : ∃ n : Nat, p = n := ⟨p.toNat, by omega⟩
 obtain ⟨dn, rfl⟩ : ∃ n : Nat, d = n := ⟨d.toNat, by omega⟩
 obtain ⟨sn, rfl⟩ : ∃ n : Nat, s = n := ⟨s.toNat, by omega⟩
 obtain ⟨kn, rfl⟩ : ∃ n : Nat, k = n := ⟨k.toNat, by omega⟩
 have ha := List.all_eq_true.1 (List.all_eq_true.1 (List.all_eq_true.1 eq_all pn (List.mem_range.2 (by omega))) dn (List.mem_range.2 (by omega))) sn (List.mem_range.2 (by omega))
 simp only [Bool.or_eq_true, beq_iff_eq] at ha
 have hb : eqSeat pn dn sn = true := by
   rcases ha with (ha | ha) | ha
   · omega
   · omega
   · exact ha
 unfold eqSeat at hb
 have hm : h ∈ (if sn = 14 then hows else [0]) := by
   by_cases h14 : sn = 14
   · subst h14
     rw [if_pos (show ((14 : Nat) : Int) = 14 from rfl)] at hw
     rw [if_pos rfl]
     simp only [decide_eq_true_eq] at hw
     simp [hows]; omega
   · rw [if_neg h14]
     rw [if_neg (by omega)] at hw
     simpa using hw
 have hc := List.all_eq_true.1 hb h hm
 simp only [Bool.or_eq_true, Bool.not_eq_true', hh, Bool.true_eq_false, false_or] at hc
 have he := List.all_eq_true.1 hc kn (List.mem_range.2 (by omega))
 unfold eqAt at he
 simp only [Bool.and_eq_true, decide_eq_true_eq] at he
 exact he
end Go.Proofs.YtlkajejbfojkeaaGreatDoor

namespace Go.Proofs.YtlkajejbfojkeaaGreatDoor

structure SMsg where
 k : Int
 fr : Int
 to : Int
 an : Int
 aq : Int
 rg : Int
 pt : Int
 pr : Int
 co : Int
 deriving DecidableEq
structure SRes where
 fs : List SFact
 ms : List SMsg
 wk : Int
def msg0 : SMsg := ⟨0, 0, 0, 0, 0, 0, 0, 0, 0⟩
def res0 : SRes := ⟨[], [], 0⟩
def ans (m : SMsg) (k c : Int) : SMsg := ⟨k, m.to, m.fr, m.an, m.aq, m.rg, m.pt, 0, c⟩
def fPlace (pt rg : Int) : SFact := ⟨7, 0, 0, rg, 0, pt, 0, 0, 0, 0, 0, 0, 0, 0⟩
def fTurn (pt s h : Int) : SFact := ⟨8, 0, 0, 0, 0, pt, 0, 0, 0, 0, s, h, 0, 0⟩
def isDown (k : Int) : Bool := decide (k = 2 ∨ 9 ≤ k ∧ k ≤ 14)
def pMsg (S : Sto) (pt : Int) (p : SPart) (rg k : Int) : SMsg := ⟨k, S.node, p.an, p.an, p.aq, rg, pt, 0, 0⟩
def pReg (S : Sto) (pt : Int) (p : SPart) : SMsg := ⟨17, S.node, p.an, p.an, p.aq, 0, pt, p.seat.p, 0⟩
def pGet (S : Sto) (pt : Int) : Option SPart := if 0 ≤ pt then S.parts[pt.toNat]? else none
def part0 : SPart := ⟨0, 0, 0, ⟨0, 0, 0, 0⟩⟩
def pDo (S : Sto) (pt k : Int) : SRes × Int := match pGet S pt with
 | none => (res0, 8)
 | some p => if p.rg < 0 then (res0, 9) else
   if (mDo p.seat k).2 ≠ 0 then (res0, (mDo p.seat k).2) else
     (⟨[fTurn pt (mDo p.seat k).1.seat.s (mDo p.seat k).1.seat.h], [pMsg S pt p p.rg (mDo p.seat k).1.send], (mDo p.seat k).1.work⟩, 0)
def pAgain (S : Sto) (pt : Int) : SMsg × Bool := match pGet S pt with
 | none => (msg0, false)
 | some p => if p.rg < 0 then (if p.seat.s = 1 then (pReg S pt p, true) else (msg0, false))
   else if mWaits p.seat ≠ 0 then (pMsg S pt p p.rg (mWaits p.seat), true) else (msg0, false)
def sfit : Sto → List SFact → Sto × Bool
 | S, [] => (S, true)
 | S, f :: t => if (sapply S f).2 = 0 then sfit (sapply S f).1 t else ((sapply S f).1, false)

/-! a seat that is right: what comes of telling it, by a finite look -/
def seatList : List MSeat := ([1, 2] : List Int).flatMap fun p => ([1, 2] : List Int).flatMap fun d => ([1, 2, 3, 4, 5, 6, 7, 8, 9, 10, 11, 12, 13, 14] : List Int).flatMap fun s => (if s = 14 then [1, 4, 5, 6, 7, 8] else [0]).map fun h => ⟨p, d, s, h⟩
theorem seat_mem {x : MSeat} (h : mRight x = true) : x ∈ seatList := by
 rw [right_eq] at h
 simp only [Bool.and_eq_true, decide_eq_true_eq] at h
 obtain ⟨⟨h1, h2⟩, h3⟩ := h
 obtain ⟨p, d, s, hh⟩ := x
 dsimp only at h1 h2 h3
 have hs : 1 ≤ s ∧ s ≤ 14 := Decidable.byContradiction fun hs => by rw [rHas_out hs] at h2; cases h2
 unfold seatList
 refine List.mem_flatMap.2 ⟨p, by simp; omega, List.mem_flatMap.2 ⟨d, by simp; omega, List.mem_flatMap.2 ⟨s, by simp; omega, List.mem_map.2 ⟨hh, ?_, rfl⟩⟩⟩⟩
 by_cases h14 : s = 14
 · rw [if_pos h14] at h3 ⊢
   simp at h3 ⊢
   omega
 · rw [if_neg h14] at h3 ⊢
   simpa using h3
def kinds15 : List Int := [0, 1, 2, 3, 4, 5, 6, 7, 8, 9, 10, 11, 12, 13, 14]
end Go.Proofs.YtlkajejbfojkeaaGreatDoor

namespace Go.Proofs.YtlkajejbfojkeaaGreatDoor

theorem pGet_some {S : Sto} {pt : Int} {p : SPart} (h : pGet S pt = some p) : 0 ≤ pt ∧ pt.toNat < S.parts.length ∧ S.parts[pt.toNat]? = some p ∧ p ∈ S.parts := by
 unfold pGet at h
 split at h
 · rename_i h0
   exact ⟨h0, (List.getElem?_eq_some_iff.1 h).1, h, List.mem_of_getElem? h⟩
 · cases h
theorem apply_turn {S : Sto} {pt s h : Int} {p : SPart} (hS : StoGood S) (hp : pGet S pt = some p) (h14 : p.seat.s ≠ 14) (hr : mRight ⟨p.seat.p, p.seat.d, s, h⟩ = true) (hok0 : stOk s h = true) : sapply S (fTurn pt s h) = ({ S with parts := S.parts.set pt.toNat { p with seat := ⟨p.seat.p, p.seat.d, s, h⟩ } }, 0) := by
 obtain ⟨g0, g1, g2, g3⟩ := pGet_some hp
 have hl := hS.parts
 have hok : fok (fTurn pt s h) = true := by unfold fok fTurn; simp [hok0]; omega
 unfold sapply
 rw [if_neg (by rw [hok]; simp)]
 have hput : sput S (fTurn pt s h) = some { S with parts := S.parts.set pt.toNat { p with seat := ⟨p.seat.p, p.seat.d, s, h⟩ } } := by
   unfold sput
   rw [if_neg (by simp [fTurn]), if_neg (by simp [fTurn]), if_pos (by simp [fTurn])]
   show (match S.parts[pt.toNat]? with | none => none | some p => _) = _
   rw [g2]
   simp only
   rw [if_pos (by simp [fTurn])]
   have ht : sturn p.seat (fTurn pt s h).st (fTurn pt s h).hw = some ⟨p.seat.p, p.seat.d, s, h⟩ := by
     unfold sturn
     rw [if_neg (by
       rintro (e | e)
       · exact h14 e
       · have e' : mRight ⟨p.seat.p, p.seat.d, s, h⟩ = false := e
         rw [hr] at e'; cases e')]
     rfl
   rw [ht]
   rfl
 rw [hput]
end Go.Proofs.YtlkajejbfojkeaaGreatDoor

namespace Go.Proofs.YtlkajejbfojkeaaGreatDoor
open Go.RowKit
attribute [local go_sem] store_float

theorem node_of (L : SLoc) (S : Sto) (w : World) (h : StoreAt L S w) : Calls Tryz.prog 94 #[.pointer (some ⟨L.sb, 0, none⟩)] w (Gives (.int .i64 S.node) w) := by
 have c0 : w.cell? ⟨L.sb, 0, none⟩ = some (.int .i64 S.node) := h.blk.cell 0
 clear h
 generalize S.node = x at *
 go_enter Tryz.func94, Tryz.ntmps94
 go_wp2
 go_ret
 exact ⟨rfl, rfl⟩
abbrev partA (p : SPart) : Array Value := #[.int .i64 p.an, .int .i64 p.aq, .int .i64 p.rg, .int .i64 p.seat.p, .int .i64 p.seat.d, .int .i64 p.seat.s, .int .i64 p.seat.h]
set_option maxRecDepth 100000 in
set_option maxHeartbeats 1000000 in
theorem part_no (L : SLoc) (S : Sto) (pt : Int) (w : World) (h : StoreAt L S w) (hp : pGet S pt = none) : Calls Tryz.prog 33 #[.pointer (some ⟨L.sb, 0, none⟩), .int .i64 pt] w (Makes (.tuple #[.agg (partA part0), .bool false]) w) := by
 have hH := fun W (hW : StoreAt L S W) => has_of L S pt W hW
 have hf : ¬ (0 ≤ pt ∧ pt < (S.parts.length : Int)) := by
   rintro ⟨h1, h2⟩
   unfold pGet at hp
   rw [if_pos h1] at hp
   have := List.getElem?_eq_none_iff.1 hp
   omega
 rw [decide_eq_false hf] at hH
 have HH := Lib.hid hH; have H := Lib.hid h
 clear hH h hp hf
 go_enter Tryz.func33, Tryz.ntmps33
 go_wp2_with fail
 (with_reducible refine (HH.out _ (H.out.below (by go_grown))).mono ?_)
 rintro e w1 ⟨rfl, rfl⟩
 go_wp2_with fail
 exact bodyPost_ret (v := .tuple #[.agg #[.int .i64 0, .int .i64 0, .int .i64 0, .int .i64 0, .int .i64 0, .int .i64 0, .int .i64 0], .bool false]) (by simp [results, Tryz.results33, go_sem]) rfl ⟨rfl, by go_grown⟩
set_option maxRecDepth 100000 in
set_option maxHeartbeats 1000000 in
theorem part_yes (L : SLoc) (S : Sto) (pt : Int) (p : SPart) (w : World) (h : StoreAt L S w) (hl : S.parts.length ≤ 8) (hp : pGet S pt = some p) : Calls Tryz.prog 33 #[.pointer (some ⟨L.sb, 0, none⟩), .int .i64 pt] w (Makes (.tuple #[.agg (partA p), .bool true]) w) := by
 have hH := fun W (hW : StoreAt L S W) => has_of L S pt W hW
 obtain ⟨h0, h1, h2, _⟩ := pGet_some hp
 obtain ⟨i, rfl⟩ : ∃ i : Nat, pt = i := ⟨pt.toNat, by omega⟩
 rw [Int.toNat_natCast] at h1 h2
 obtain ⟨a, cap, hv, hn, hrow⟩ := part_row h.parts
 obtain ⟨g, rfl, hg, hfz, hcell⟩ := hrow (by omega)
 obtain ⟨p0, p1, p2, p3, p4, p5, p6⟩ := hcell i p h2
 have c3 : w.cell? ⟨L.sb, 3, none⟩ = some (.slice (some ⟨g, 0, none⟩) S.parts.length cap) := by rw [← hv]; exact h.blk.cell 3
 have hT : decide ((0 : Int) ≤ (i : Int) ∧ (i : Int) < (S.parts.length : Int)) = true := decide_eq_true ⟨by omega, by omega⟩
 rw [hT] at hH
 have hsb := h.blk.lt
 obtain ⟨n, hnn⟩ : ∃ n, n = S.parts.length := ⟨_, rfl⟩
 rw [← hnn] at c3 h1 hl
 have HH := Lib.hid hH; have H := Lib.hid h
 have hi0 : (0 : Int) ≤ (i : Int) := by omega
 have hi1 : (i : Int) < (n : Int) := by omega
 obtain ⟨pan, paq, prg, ⟨sp, sd, ss, sh⟩⟩ := p
 dsimp only [partA] at *
 clear hH h hp hT hn hrow hcell hnn hv h0 h2 hfz
 go_enter Tryz.func33, Tryz.ntmps33
 go_wp2_with fail
 (with_reducible refine (HH.out _ (H.out.below (by go_grown))).mono ?_)
 rintro e w1 ⟨rfl, rfl⟩
 go_wp2_with fail
 (try go_region)
 all_goals (try go_wp2_with fail)
 all_goals exact bodyPost_ret (v := .tuple #[.agg #[.int .i64 pan, .int .i64 paq, .int .i64 prg, .int .i64 sp, .int .i64 sd, .int .i64 ss, .int .i64 sh], .bool true]) (by simp [results, Tryz.results33, go_sem]) rfl ⟨rfl, by go_grown⟩

theorem row_up {w : World} {B B' : Nat} {e : TypeId} {size : Nat} {v : Value} {n : Nat} {xs : List Value} (h : w.ownsRow B e size v n xs) (hB : ∀ k, v.ownBlock = some k → B' ≤ k) : w.ownsRow B' e size v n xs := by
 refine ⟨h.1, ?_⟩
 rcases h.2 with h | ⟨g, cap, cur, rfl, h2, h3⟩
 · exact .inl h
 · exact .inr ⟨g, cap, cur, rfl, hB g rfl, h3⟩
theorem row_base {w : World} {B B' : Nat} {e : TypeId} {size : Nat} {v : Value} {n : Nat} {xs : List Value} (h : w.ownsRow B' e size v n xs) (hB : B ≤ B') : w.ownsRow B e size v n xs := by
 refine ⟨h.1, ?_⟩
 rcases h.2 with h | ⟨g, cap, cur, h1, h2, h3⟩
 · exact .inl h
 · exact .inr ⟨g, cap, cur, h1, Nat.le_trans hB h2, h3⟩

end Go.Proofs.YtlkajejbfojkeaaGreatDoor

namespace Go.Proofs.YtlkajejbfojkeaaGreatDoor
open Go.RowKit Go.Shelf
attribute [local go_sem] store_float

abbrev msgA (m : SMsg) : Array Value := #[.int .i64 m.k, .int .i64 m.fr, .int .i64 m.to, .int .i64 m.an, .int .i64 m.aq, .int .i64 m.rg, .int .i64 m.pt, .int .i64 m.pr, .int .i64 m.co]
abbrev msgV (m : SMsg) : Value := .agg (msgA m)
abbrev oneV (p : SPart) (nd pt : Int) : Value := .agg #[.int .i64 p.an, .int .i64 p.aq, .int .i64 p.rg, .int .i64 p.seat.p, .int .i64 p.seat.d, .int .i64 p.seat.s, .int .i64 p.seat.h, .int .i64 nd, .int .i64 pt]
theorem lwithin_of (n l m : Int) (w : World) : Calls Tryz.prog 140 #[.int .i64 n, .int .i64 l, .int .i64 m] w (Gives (.bool (decide (l ≤ n ∧ n ≤ m))) w) := by
 by_cases h1 : l ≤ n
 · by_cases h2 : n ≤ m
   · rw [decide_eq_true ⟨h1, h2⟩]
     go_enter Tryz.func140, Tryz.ntmps140
     go_wp2_with fail
     go_ret
     exact ⟨rfl, rfl⟩
   · rw [decide_eq_false (fun h => h2 h.2)]
     go_enter Tryz.func140, Tryz.ntmps140
     go_wp2_with fail
     go_ret
     exact ⟨rfl, rfl⟩
 · rw [decide_eq_false (fun h => h1 h.1)]
   go_enter Tryz.func140, Tryz.ntmps140
   go_wp2_with fail
   go_ret
   exact ⟨rfl, rfl⟩
theorem down_of (k : Int) (w : World) : Calls Tryz.prog 129 #[.int .i64 k] w (Gives (.bool (isDown k)) w) := by
 have HW := Lib.hid (lwithin_of k 9 14 w)
 unfold isDown
 by_cases h : k = 2
 · have e : (k == 2) = true := by simpa using h
   rw [decide_eq_true (Or.inl h)]
   clear h
   go_enter Tryz.func129, Tryz.ntmps129
   go_wp2_with fail
   go_ret
   exact ⟨rfl, rfl⟩
 · have e : (k == 2) = false := by simpa using h
   rw [show decide (k = 2 ∨ 9 ≤ k ∧ k ≤ 14) = decide (9 ≤ k ∧ k ≤ 14) from decide_eq_decide.2 ⟨fun x => x.resolve_left h, Or.inr⟩]
   clear h
   go_enter Tryz.func129, Tryz.ntmps129
   go_wp2_with fail
   refine HW.out.mono ?_
   rintro e w1 ⟨rfl, rfl⟩
   go_wp2_with fail
   go_ret
   exact ⟨ret_bool (by simp), rfl⟩
theorem placed_of (p : SPart) (nd pt : Int) (w : World) : Calls Tryz.prog 123 #[oneV p nd pt] w (Makes (.bool (decide (0 ≤ p.rg))) w) := by
 obtain ⟨an, aq, rg, ⟨sp, sd, ss, sh⟩⟩ := p
 dsimp only [oneV]
 go_enter Tryz.func123, Tryz.ntmps123
 go_wp2_with fail
 go_ret
 exact ⟨rfl, by go_grown⟩
set_option maxRecDepth 100000 in
set_option maxHeartbeats 2000000 in
theorem message_of (p : SPart) (nd pt k : Int) (w : World) : Calls Tryz.prog 142 #[oneV p nd pt, .int .i64 k] w (Makes (msgV ⟨k, nd, p.an, p.an, p.aq, max p.rg 0, pt, 0, 0⟩) w) := by
 obtain ⟨an, aq, rg, ⟨sp, sd, ss, sh⟩⟩ := p
 dsimp only [oneV, msgV, msgA]
 by_cases h : 0 ≤ rg
 · rw [show max rg 0 = rg by omega]
   go_enter Tryz.func142, Tryz.ntmps142
   go_wp2_with fail
   exact bodyPost_ret (v := .agg #[.int .i64 k, .int .i64 nd, .int .i64 an, .int .i64 an, .int .i64 aq, .int .i64 rg, .int .i64 pt, .int .i64 0, .int .i64 0]) (by simp [results, Tryz.results142, go_sem]; omega) rfl ⟨rfl, by go_grown⟩
 · rw [show max rg 0 = 0 by omega]
   go_enter Tryz.func142, Tryz.ntmps142
   go_wp2_with fail
   exact bodyPost_ret (v := .agg #[.int .i64 k, .int .i64 nd, .int .i64 an, .int .i64 an, .int .i64 aq, .int .i64 0, .int .i64 pt, .int .i64 0, .int .i64 0]) (by simp [results, Tryz.results142, go_sem]; omega) rfl ⟨rfl, by go_grown⟩
set_option maxRecDepth 100000 in
set_option maxHeartbeats 2000000 in
theorem register_of (p : SPart) (nd pt : Int) (w : World) : Calls Tryz.prog 135 #[oneV p nd pt] w (Makes (msgV ⟨17, nd, p.an, p.an, p.aq, 0, pt, p.seat.p, 0⟩) w) := by
 have HM := Lib.hid (fun W => message_of p nd pt 17 W)
 obtain ⟨an, aq, rg, ⟨sp, sd, ss, sh⟩⟩ := p
 obtain ⟨x, hx⟩ : ∃ x, x = max rg 0 := ⟨_, rfl⟩
 dsimp only [oneV, msgV, msgA] at *
 rw [← hx] at HM
 clear hx
 go_enter Tryz.func135, Tryz.ntmps135
 go_wp2_with fail
 refine (HM.out _).mono ?_
 rintro e w1 ⟨rfl, hb⟩
 have B1 : Below w.heap.size w w1 := below_then (by go_grown) hb
 have HV := Lib.hid ((Blk.fresh (w.alloc (.cells #[.int .i64 an, .int .i64 aq, .int .i64 rg, .int .i64 sp, .int .i64 sd, .int .i64 ss, .int .i64 sh, .int .i64 nd, .int .i64 pt] 205)) #[.int .i64 0, .int .i64 0, .int .i64 0, .int .i64 0, .int .i64 0, .int .i64 0, .int .i64 0, .int .i64 0, .int .i64 0] 81 (w.heap.size + 1) (by simp)).below hb)
 obtain ⟨q, qf⟩ := (((Blk.fresh w #[.int .i64 an, .int .i64 aq, .int .i64 rg, .int .i64 sp, .int .i64 sd, .int .i64 ss, .int .i64 sh, .int .i64 nd, .int .i64 pt] 205 _ rfl).alloc (.cells #[.int .i64 0, .int .i64 0, .int .i64 0, .int .i64 0, .int .i64 0, .int .i64 0, .int .i64 0, .int .i64 0, .int .i64 0] 81)).below hb).out
 obtain ⟨qv, fv⟩ := HV.out.out
 have hz := hb.size
 simp only [World.size_alloc] at hz
 have hz1 : w.heap.size + 1 < w1.heap.size := by omega
 have hz0 : w.heap.size < w1.heap.size := by omega
 have HT : Hid (w1.heap[w.heap.size + 1]? = some (.cells #[.int .i64 0, .int .i64 0, .int .i64 0, .int .i64 0, .int .i64 0, .int .i64 0, .int .i64 0, .int .i64 0, .int .i64 0] 81 (0, 0))) := Lib.hid ((hb.block _ (by simp)).trans (by rw [show w.heap.size + 1 = (w.alloc (.cells #[.int .i64 an, .int .i64 aq, .int .i64 rg, .int .i64 sp, .int .i64 sd, .int .i64 ss, .int .i64 sh, .int .i64 nd, .int .i64 pt] 205)).heap.size by simp]; exact heap_alloc_new _ _))
 clear hb
 have HT2 : Hid ((World.drew (w1.alloc (.cells #[.int .i64 17, .int .i64 nd, .int .i64 an, .int .i64 an, .int .i64 aq, .int .i64 0, .int .i64 pt, .int .i64 sp, .int .i64 0] 81))).heap[w.heap.size + 1]? = some (.cells #[.int .i64 0, .int .i64 0, .int .i64 0, .int .i64 0, .int .i64 0, .int .i64 0, .int .i64 0, .int .i64 0, .int .i64 0] 81 (0, 0))) := Lib.hid ((((Below.refl w1.heap.size w1).alloc (Nat.le_refl _) (.cells #[.int .i64 17, .int .i64 nd, .int .i64 an, .int .i64 an, .int .i64 aq, .int .i64 0, .int .i64 pt, .int .i64 sp, .int .i64 0] 81)).drew.block _ hz1).trans HT.out)
 obtain ⟨HFr, hgr⟩ := row_end (cells := #[.int .i64 17, .int .i64 nd, .int .i64 an, .int .i64 an, .int .i64 aq, .int .i64 0, .int .i64 pt, .int .i64 sp, .int .i64 0]) HT2.out
 have HB1 := Lib.hid (((B1.alloc B1.size (.cells #[.int .i64 17, .int .i64 nd, .int .i64 an, .int .i64 an, .int .i64 aq, .int .i64 0, .int .i64 pt, .int .i64 sp, .int .i64 0] 81)).drew).grown hgr ((B1.alloc B1.size (.cells #[.int .i64 17, .int .i64 nd, .int .i64 an, .int .i64 an, .int .i64 aq, .int .i64 0, .int .i64 pt, .int .i64 sp, .int .i64 0] 81)).drew).size (fun k hk => by injection hk with hk; omega))
 go_wp2_with fail
 go_region
 clear qv fv
 obtain ⟨q1, f1⟩ := HFr.out
 clear hgr HFr
 go_wp2_with (refine wpList_store_row rfl 81 (.tmp 2) (.tmp 12) rfl (w.heap.size + 1) #[.int .i64 17, .int .i64 nd, .int .i64 an, .int .i64 an, .int .i64 aq, .int .i64 0, .int .i64 pt, .int .i64 sp, .int .i64 0] rfl rfl 81 #[.int .i64 0, .int .i64 0, .int .i64 0, .int .i64 0, .int .i64 0, .int .i64 0, .int .i64 0, .int .i64 0, .int .i64 0] HT2.out (by kernel_rfl) rfl (by simp [Value.oneCell']) ?_)
 exact bodyPost_ret (v := .agg #[.int .i64 17, .int .i64 nd, .int .i64 an, .int .i64 an, .int .i64 aq, .int .i64 0, .int .i64 pt, .int .i64 sp, .int .i64 0]) (by simp [results, Tryz.results135, go_sem, q1, f1]) rfl ⟨rfl, HB1.out⟩
set_option maxRecDepth 100000 in
theorem pturned_of (p : SPart) (nd pt : Int) (x : MSeat) (w : World) : Calls Tryz.prog 126 #[oneV p nd pt, seatV x] w (Makes (factV (fTurn pt x.s x.h)) w) := by
 obtain ⟨an, aq, rg, ⟨sp, sd, ss, sh⟩⟩ := p
 obtain ⟨xp, xd, xs, xh⟩ := x
 dsimp only [oneV, seatV, factV, factC, fTurn]
 go_enter Tryz.func126, Tryz.ntmps126
 go_wp2_with fail
 (try go_quiet (fail))
 all_goals (try go_wp2_with fail)
 all_goals exact bodyPost_ret (v := .agg #[.int .i64 8, .int .i64 0, .int .i64 0, .int .i64 0, .int .i64 0, .int .i64 pt, .int .i64 0, .int .i64 0, .int .i64 0, .int .i64 0, .int .i64 xs, .int .i64 xh, .int .i64 0, .float .f64 0]) (by simp [results, Tryz.results126, go_sem]) rfl ⟨rfl, by go_grown⟩
def fitsB (p : SPart) (nd : Int) (m : SMsg) : Bool := decide (p.an = m.an ∧ p.aq = m.aq ∧ m.fr = m.an ∧ m.to = nd ∧ (p.rg < 0 ∨ p.rg = m.rg))
set_option maxRecDepth 100000 in
set_option maxHeartbeats 1000000 in
theorem fits_of (p : SPart) (nd pt : Int) (m : SMsg) (w : World) : Calls Tryz.prog 122 #[oneV p nd pt, msgV m] w (Makes (.bool (fitsB p nd m)) w) := by
 have HP := Lib.hid (fun W => placed_of p nd pt W)
 have hse := fun W => actEq p.an p.aq m.an m.aq W
 unfold fitsB
 obtain ⟨t, ht⟩ : ∃ t, t = decide (p.an = m.an ∧ p.aq = m.aq) := ⟨_, rfl⟩
 rw [← ht] at hse
 have HT := Lib.hid ht
 clear ht
 obtain ⟨an, aq, rg, ⟨sp, sd, ss, sh⟩⟩ := p
 obtain ⟨mk, fr, to, man, maq, mrg, mpt, mpr, mco⟩ := m
 dsimp only [oneV, msgV, msgA] at *
 obtain ⟨pb, hpb⟩ : ∃ pb, pb = decide (0 ≤ rg) := ⟨_, rfl⟩
 rw [← hpb] at HP
 have HPB := Lib.hid hpb
 clear hpb
 cases t with
 | false =>
   rw [show decide (an = man ∧ aq = maq ∧ fr = man ∧ to = nd ∧ (rg < 0 ∨ rg = mrg)) = false from decide_eq_false (fun h => by have := HT.out; rw [eq_comm, decide_eq_false_iff_not] at this; exact this ⟨h.1, h.2.1⟩)]
   go_enter Tryz.func122, Tryz.ntmps122
   go_wp2_with fail
   (try go_quiet (fail))
   all_goals (try go_wp2_with fail)
   all_goals go_ret
   all_goals exact ⟨rfl, by go_grown⟩
 | true =>
   have h12 : an = man ∧ aq = maq := by have := HT.out; rw [eq_comm, decide_eq_true_eq] at this; exact this
   have hrest : decide (an = man ∧ aq = maq ∧ fr = man ∧ to = nd ∧ (rg < 0 ∨ rg = mrg)) = decide (fr = man ∧ to = nd ∧ (rg < 0 ∨ rg = mrg)) := decide_eq_decide.2 ⟨fun h => h.2.2, fun h => ⟨h12.1, h12.2, h⟩⟩
   rw [hrest]
   clear hrest h12
   by_cases h3 : fr = man
   case neg =>
     have e3 : (fr == man) = false := by simpa using h3
     rw [decide_eq_false (fun h => h3 h.1)]
     clear h3
     go_enter Tryz.func122, Tryz.ntmps122
     go_wp2_with fail
     (try go_quiet (fail))
     all_goals (try go_wp2_with fail)
     all_goals go_ret
     all_goals exact ⟨rfl, by go_grown⟩
   by_cases h4 : to = nd
   case neg =>
     have e3 : (fr == man) = true := by simpa using h3
     have e4 : (to == nd) = false := by simpa using h4
     rw [decide_eq_false (fun h => h4 h.2.1)]
     clear h3 h4
     go_enter Tryz.func122, Tryz.ntmps122
     go_wp2_with fail
     (try go_quiet (fail))
     all_goals (try go_wp2_with fail)
     all_goals go_ret
     all_goals exact ⟨rfl, by go_grown⟩
   have e3 : (fr == man) = true := by simpa using h3
   have e4 : (to == nd) = true := by simpa using h4
   rw [show decide (fr = man ∧ to = nd ∧ (rg < 0 ∨ rg = mrg)) = decide (rg < 0 ∨ rg = mrg) from decide_eq_decide.2 ⟨fun h => h.2.2, fun h => ⟨h3, h4, h⟩⟩]
   clear h3 h4
   cases pb with
   | false =>
     have h5 : rg < 0 := by have := HPB.out; rw [eq_comm, decide_eq_false_iff_not] at this; omega
     rw [decide_eq_true (Or.inl h5)]
     clear h5
     go_enter Tryz.func122, Tryz.ntmps122
     go_wp2_with fail
     (try go_quiet (fail))
     all_goals (try go_wp2_with fail)
     refine (HP.out _).mono ?_
     rintro e w1 ⟨rfl, hb⟩
     have B1 : Below w.heap.size w w1 := below_then (by go_grown) hb
     go_wp2_with fail
     go_ret
     exact ⟨rfl, B1⟩
   | true =>
     have h5 : ¬ rg < 0 := by have := HPB.out; rw [eq_comm, decide_eq_true_eq] at this; omega
     rw [show decide (rg < 0 ∨ rg = mrg) = (rg == mrg) by rw [Bool.eq_iff_iff]; simp; omega]
     obtain ⟨t6, h6⟩ : ∃ t6, t6 = (rg == mrg) := ⟨_, rfl⟩
     have e6 : (rg == mrg) = t6 := h6.symm
     rw [← h6]
     clear h5 h6
     go_enter Tryz.func122, Tryz.ntmps122
     go_wp2_with fail
     (try go_quiet (fail))
     all_goals (try go_wp2_with fail)
     refine (HP.out _).mono ?_
     rintro e w1 ⟨rfl, hb⟩
     have B1 : Below w.heap.size w w1 := below_then (by go_grown) hb
     obtain ⟨q1, qf1⟩ := (((Blk.fresh w #[.int .i64 an, .int .i64 aq, .int .i64 rg, .int .i64 sp, .int .i64 sd, .int .i64 ss, .int .i64 sh, .int .i64 nd, .int .i64 pt] 205 _ rfl).below (by go_grown)).below hb).out
     obtain ⟨q2, qf2⟩ := (((Blk.fresh (w.alloc (.cells #[.int .i64 an, .int .i64 aq, .int .i64 rg, .int .i64 sp, .int .i64 sd, .int .i64 ss, .int .i64 sh, .int .i64 nd, .int .i64 pt] 205)) #[.int .i64 mk, .int .i64 fr, .int .i64 to, .int .i64 man, .int .i64 maq, .int .i64 mrg, .int .i64 mpt, .int .i64 mpr, .int .i64 mco] 81 (w.heap.size + 1) (by simp)).below (by go_grown)).below hb).out
     go_wp2_with fail
     (try go_quiet (fail))
     all_goals (try go_wp2_with fail)
     all_goals go_ret
     all_goals exact ⟨ret_bool (by first | rfl | exact e6 | simp [e6]), by go_grown⟩
end Go.Proofs.YtlkajejbfojkeaaGreatDoor

namespace Go.Proofs.YtlkajejbfojkeaaGreatDoor
open Go.RowKit Go.Shelf
attribute [local go_sem] store_float

def factL (f : SFact) : List Value := [.int .i64 f.k, .int .i64 f.an, .int .i64 f.aq, .int .i64 f.rg, .int .i64 f.nd, .int .i64 f.pt, .int .i64 f.pr, .int .i64 f.oc, .int .i64 f.dp, .int .i64 f.pa, .int .i64 f.st, .int .i64 f.hw, .int .i64 f.de, .float .f64 f.ex]
def factsL (fs : List SFact) : List Value := fs.flatMap factL
def msgL (m : SMsg) : List Value := [.int .i64 m.k, .int .i64 m.fr, .int .i64 m.to, .int .i64 m.an, .int .i64 m.aq, .int .i64 m.rg, .int .i64 m.pt, .int .i64 m.pr, .int .i64 m.co]
def msgsL (ms : List SMsg) : List Value := ms.flatMap msgL
theorem factL_len (f : SFact) : (factL f).length = 14 := rfl
theorem msgL_len (m : SMsg) : (msgL m).length = 9 := rfl
theorem factL_one (f : SFact) : ∀ u ∈ factL f, u.oneCell' = true := by
 intro u hu
 simp only [factL, List.mem_cons, List.not_mem_nil, or_false] at hu
 rcases hu with rfl | rfl | rfl | rfl | rfl | rfl | rfl | rfl | rfl | rfl | rfl | rfl | rfl | rfl <;> rfl
theorem msgL_one (m : SMsg) : ∀ u ∈ msgL m, u.oneCell' = true := by
 intro u hu
 simp only [msgL, List.mem_cons, List.not_mem_nil, or_false] at hu
 rcases hu with rfl | rfl | rfl | rfl | rfl | rfl | rfl | rfl | rfl <;> rfl
theorem infoFact : (Tryz.prog.info? 39).map (fun i => (i.zero, i.size, i.bytes)) = some (some (.agg #[.int .i64 0, .int .i64 0, .int .i64 0, .int .i64 0, .int .i64 0, .int .i64 0, .int .i64 0, .int .i64 0, .int .i64 0, .int .i64 0, .int .i64 0, .int .i64 0, .int .i64 0, .float .f64 0]), 14, 112) := by kernel_rfl
theorem infoMsg : (Tryz.prog.info? 81).map (fun i => (i.zero, i.size, i.bytes)) = some (some (.agg #[.int .i64 0, .int .i64 0, .int .i64 0, .int .i64 0, .int .i64 0, .int .i64 0, .int .i64 0, .int .i64 0, .int .i64 0]), 9, 72) := by kernel_rfl
structure QLoc where
 rb : Nat
 fv : Value
 mv : Value
def QLoc.foot (q : QLoc) : List Nat := q.rb :: (q.fv.ownBlock.toList ++ q.mv.ownBlock.toList)
theorem QLoc.mem {q : QLoc} {k : Nat} : k ∈ q.foot ↔ k = q.rb ∨ q.fv.ownBlock = some k ∨ q.mv.ownBlock = some k := by
 unfold QLoc.foot
 simp [List.mem_append]
structure ResAt (q : QLoc) (r : SRes) (w : World) : Prop where
 blk : Blk w q.rb #[q.fv, q.mv, .int .i64 r.wk]
 fs : w.ownsRow 0 39 14 q.fv r.fs.length (factsL r.fs)
 ms : w.ownsRow 0 81 9 q.mv r.ms.length (msgsL r.ms)
 n1 : q.fv.ownBlock ≠ some q.rb
 n2 : q.mv.ownBlock ≠ some q.rb
 n3 : ∀ k, q.fv.ownBlock = some k → q.mv.ownBlock ≠ some k
theorem ResAt.lt {q : QLoc} {r : SRes} {w : World} (h : ResAt q r w) : ∀ k ∈ q.foot, k < w.heap.size := by
 intro k hk
 rcases QLoc.mem.1 hk with rfl | hk | hk
 · exact h.blk.lt
 · exact (h.fs.lt k hk).2
 · exact (h.ms.lt k hk).2
theorem ResAt.below {q : QLoc} {r : SRes} {w w' : World} (h : ResAt q r w) (hb : Below w.heap.size w w') : ResAt q r w' :=
 ⟨h.blk.below hb, row_heap h.fs (fun k hk => hb.block k (h.fs.lt k hk).2), row_heap h.ms (fun k hk => hb.block k (h.ms.lt k hk).2), h.n1, h.n2, h.n3⟩
def QGoes (q : QLoc) (r : SRes) (w w' : World) : Prop := ∃ q', q'.rb = q.rb ∧ ResAt q' r w' ∧ Goes q.foot q'.foot w w'
theorem QGoes.after {q : QLoc} {r : SRes} {w w1 w' : World} (hb : Below w.heap.size w w1) (h : QGoes q r w1 w') : QGoes q r w w' := by
 obtain ⟨q', h1, h2, h3⟩ := h
 exact ⟨q', h1, h2, .after hb h3⟩
theorem QGoes.then_below {q : QLoc} {r : SRes} {w w1 w' : World} (h : QGoes q r w w1) (hb : Below w1.heap.size w1 w') : QGoes q r w w' := by
 obtain ⟨q', h1, h2, h3⟩ := h
 exact ⟨q', h1, h2.below hb, h3.then_below hb⟩
theorem res_fresh (w : World) (wk : Int) (T : TypeId) : ResAt ⟨w.heap.size, .slice none 0 0, .slice none 0 0⟩ ⟨[], [], wk⟩ (w.alloc (.cells #[.slice none 0 0, .slice none 0 0, .int .i64 wk] T)) :=
 ⟨Blk.fresh w _ T _ rfl, World.ownsRow_nil _ _ _ _, World.ownsRow_nil _ _ _ _, by simp [Value.ownBlock], by simp [Value.ownBlock], by simp [Value.ownBlock]⟩

theorem q_fs {q : QLoc} {r : SRes} {w W w2 : World} {v2 : Value} {f : SFact} (h : ResAt q r w) (hb : Below w.heap.size w W) (hg : W.grownBy w2 q.fv.ownBlock) (hrow : w2.ownsRow 0 39 14 v2 (r.fs.length + 1) (factsL r.fs ++ factL f)) (hat : v2.ownBlock = q.fv.ownBlock ∨ v2.ownBlock = some W.heap.size) :
   QGoes q { r with fs := r.fs ++ [f] } w (w2.setCell ⟨q.rb, 0, none⟩ v2) := by
 have ho : ∀ k, q.mv.ownBlock = some k → k < w.heap.size := fun k hk => (h.ms.lt k hk).2
 have hW := h.blk.below hb
 have hv2 : v2.ownBlock ≠ some q.rb := by
   rcases hat with e | e
   · rw [e]; exact h.n1
   · rw [e]; intro e'; injection e' with e'; have := hW.lt; omega
 have hblk : Blk w2 q.rb #[q.fv, q.mv, .int .i64 r.wk] := hW.same hg.size (hg.block _ hW.lt (fun e => h.n1 e.symm))
 refine ⟨⟨q.rb, v2, q.mv⟩, rfl, ⟨hblk.set' 0 (by simp) v2, (by
     rw [List.length_append]
     refine row_heap (xs := factsL (r.fs ++ [f])) ?_ (fun k hk => Below.heap_setCell _ _ _ _ (fun e => hv2 (by rw [hk, e])))
     unfold factsL at hrow ⊢
     rw [List.flatMap_append]
     simpa using hrow), (row_heap h.ms (fun k hk => (Below.heap_setCell _ _ _ _ (fun e => h.n2 (by rw [hk, e]))).trans ((hg.block k (Nat.lt_of_lt_of_le (ho k hk) hb.size) (fun e => h.n3 k e.symm hk)).trans (hb.block k (ho k hk))))), hv2, h.n2, fun k hk => by
     rcases hat with e | e
     · exact h.n3 k (by rw [← e]; exact hk)
     · have hk' : v2.ownBlock = some k := hk
       rw [e] at hk'; injection hk' with hk'; subst hk'
       intro e'; have := ho _ e'; have := hb.size; omega⟩, ((Goes.of_below hb).trans ((Goes.grown hg (fun k hk => QLoc.mem.2 (.inr (.inl hk)))).trans (Goes.setCell q.rb 0 v2 (QLoc.mem.2 (.inl rfl))))).change (fun k hk => ?_)⟩
 rcases QLoc.mem.1 hk with e | e | e
 · exact .inl (QLoc.mem.2 (.inl e))
 · rcases hat with e2 | e2; exact .inl (QLoc.mem.2 (.inr (.inl (by rw [← e2]; exact e)))); have e3 : v2.ownBlock = some k := e; rw [e2] at e3; injection e3 with e3; exact .inr (by have := hb.size; omega)
 · exact .inl (QLoc.mem.2 (.inr (.inr e)))
set_option maxRecDepth 100000 in
set_option maxHeartbeats 2000000 in
theorem remember_of (q : QLoc) (r : SRes) (f : SFact) (w : World) (h : ResAt q r w) (hl : r.fs.length ≤ 1000) :
   Calls Tryz.prog 124 #[.pointer (some ⟨q.rb, 0, none⟩), factV f] w fun e w' => e = .returned (.tuple #[]) ∧ QGoes q { r with fs := r.fs ++ [f] } w w' := by
 obtain ⟨i0, ei, ez, es, eb⟩ := info_parts infoFact
 have hrb := h.blk.lt
 obtain ⟨n, hn⟩ : ∃ n, n = r.fs.length := ⟨_, rfl⟩
 have HE := Lib.hid (fun W w2 v2 (h2 : Below w.heap.size w W) (h3 : W.grownBy w2 q.fv.ownBlock) (h4 : w2.ownsRow 0 39 14 v2 (n + 1) (factsL r.fs ++ factL f)) h5 => q_fs (f := f) h h2 h3 (by rw [← hn]; exact h4) h5)
 obtain ⟨a, cap, hv⟩ := row_slice h.fs
 have HO := Lib.hid (fun W (hW : Below w.heap.size w W) => (show W.ownsRow 0 39 14 q.fv n (factsL r.fs) by rw [hn]; exact row_heap h.fs (fun k hk => hW.block k (h.fs.lt k hk).2)))
 rw [← hn] at hv hl
 have HV := Lib.hid hv
 have HQ := Lib.hid (fun W (hW : Below w.heap.size w W) => (show W.cell? ⟨q.rb, 0, none⟩ = some (.slice a n cap) by rw [← hv]; exact (h.blk.below hW).cell 0))
 have HN := Lib.hid h.n1
 have HF := Lib.hid (fun W (hW : Below w.heap.size w W) => (h.blk.below hW).free 0)
 have c0 := HQ.out w (Below.refl _ _)
 have hfr := h.blk.free
 obtain ⟨rb, fv, mv⟩ := q
 dsimp only at *
 obtain ⟨k, an, aq, rg, nd, pt, pr, oc, dp, pa, st, hw, de, ex⟩ := f
 dsimp only [factV, factC] at *
 clear h hn hfr hv
 go_enter Tryz.func124, Tryz.ntmps124
 go_wp2_with fail
 go_region_law (refine step_app rfl (.tmp 8) (.tmp 10) 22 rfl 0 39 i0 (.agg #[.int .i64 0, .int .i64 0, .int .i64 0, .int .i64 0, .int .i64 0, .int .i64 0, .int .i64 0, .int .i64 0, .int .i64 0, .int .i64 0, .int .i64 0, .int .i64 0, .int .i64 0, .float .f64 0]) 14 112 Tryz.underlying22 ei ez es eb rfl (by decide) (.slice a n cap) n (factsL r.fs) (by rfl) (by rw [← HV.out]; exact HO.out _ (by go_grown)) ⟨w.heap.size + 1, 0, none⟩ 1 1 (factL ⟨k, an, aq, rg, nd, pt, pr, oc, dp, pa, st, hw, de, ex⟩) (by rfl) rfl (lit_cells (by first | exact (Blk.fresh _ _ _ _ (by simp)).drew | exact Blk.fresh _ _ _ _ (by simp))) (factL_one _) (by unfold maxLen; omega) (by omega) (Nat.zero_le _) ?_; intro v2 w2 hown2 hgrow2 hat2; rw [← HV.out] at hgrow2 hat2; have s2 : w2.cell? ⟨rb, 0, none⟩ = some (.slice a n cap) := hgrow2.cell (HQ.out _ (by go_grown)) (fun e => HN.out e.symm); have f2 : w2.frozen? ⟨rb, 0, none⟩ = false := (World.frozen?_of_block (a := ⟨rb, 0, none⟩) (hgrow2.block _ (World.block_lt_of_cell? _ _ (HQ.out _ (by go_grown))) (fun e => HN.out e.symm))).trans (HF.out _ (by go_grown)); have HZ := Lib.hid (HE.out _ w2 v2 (by go_grown) hgrow2 hown2 hat2); obtain ⟨a2, c2, rfl⟩ := row_slice hown2; clear hown2 hgrow2 hat2)
 all_goals go_wp2_with fail
 all_goals exact bodyPost_end (results_none rfl _ _ _) rfl ⟨rfl, HZ.out⟩

theorem q_ms {q : QLoc} {r : SRes} {w W w2 : World} {v2 : Value} {f : SMsg} (h : ResAt q r w) (hb : Below w.heap.size w W) (hg : W.grownBy w2 q.mv.ownBlock) (hrow : w2.ownsRow 0 81 9 v2 (r.ms.length + 1) (msgsL r.ms ++ msgL f)) (hat : v2.ownBlock = q.mv.ownBlock ∨ v2.ownBlock = some W.heap.size) :
   QGoes q { r with ms := r.ms ++ [f] } w (w2.setCell ⟨q.rb, 1, none⟩ v2) := by
 have ho : ∀ k, q.fv.ownBlock = some k → k < w.heap.size := fun k hk => (h.fs.lt k hk).2
 have hW := h.blk.below hb
 have hv2 : v2.ownBlock ≠ some q.rb := by
   rcases hat with e | e
   · rw [e]; exact h.n2
   · rw [e]; intro e'; injection e' with e'; have := hW.lt; omega
 have hblk : Blk w2 q.rb #[q.fv, q.mv, .int .i64 r.wk] := hW.same hg.size (hg.block _ hW.lt (fun e => h.n2 e.symm))
 refine ⟨⟨q.rb, q.fv, v2⟩, rfl, ⟨hblk.set' 1 (by simp) v2, (row_heap h.fs (fun k hk => (Below.heap_setCell _ _ _ _ (fun e => h.n1 (by rw [hk, e]))).trans ((hg.block k (Nat.lt_of_lt_of_le (ho k hk) hb.size) (fun e => h.n3 k hk e.symm)).trans (hb.block k (ho k hk))))), (by
     rw [List.length_append]
     refine row_heap (xs := msgsL (r.ms ++ [f])) ?_ (fun k hk => Below.heap_setCell _ _ _ _ (fun e => hv2 (by rw [hk, e])))
     unfold msgsL at hrow ⊢
     rw [List.flatMap_append]
     simpa using hrow), h.n1, hv2, fun k hk e' => by
     have e2 : v2.ownBlock = some k := e'
     rcases hat with e | e
     · exact h.n3 k hk (by rw [← e]; exact e2)
     · rw [e] at e2; injection e2 with e2; subst e2
       have := ho _ hk; have := hb.size; omega⟩, ((Goes.of_below hb).trans ((Goes.grown hg (fun k hk => QLoc.mem.2 (.inr (.inr hk)))).trans (Goes.setCell q.rb 1 v2 (QLoc.mem.2 (.inl rfl))))).change (fun k hk => ?_)⟩
 rcases QLoc.mem.1 hk with e | e | e
 · exact .inl (QLoc.mem.2 (.inl e))
 · exact .inl (QLoc.mem.2 (.inr (.inl e)))
 · rcases hat with e2 | e2; exact .inl (QLoc.mem.2 (.inr (.inr (by rw [← e2]; exact e)))); have e3 : v2.ownBlock = some k := e; rw [e2] at e3; injection e3 with e3; exact .inr (by have := hb.size; omega)
set_option maxRecDepth 100000 in
set_option maxHeartbeats 2000000 in
theorem send_of (q : QLoc) (r : SRes) (f : SMsg) (w : World) (h : ResAt q r w) (hl : r.ms.length ≤ 1000) :
   Calls Tryz.prog 127 #[.pointer (some ⟨q.rb, 0, none⟩), msgV f] w fun e w' => e = .returned (.tuple #[]) ∧ QGoes q { r with ms := r.ms ++ [f] } w w' := by
 obtain ⟨i0, ei, ez, es, eb⟩ := info_parts infoMsg
 have hrb := h.blk.lt
 obtain ⟨n, hn⟩ : ∃ n, n = r.ms.length := ⟨_, rfl⟩
 have HE := Lib.hid (fun W w2 v2 (h2 : Below w.heap.size w W) (h3 : W.grownBy w2 q.mv.ownBlock) (h4 : w2.ownsRow 0 81 9 v2 (n + 1) (msgsL r.ms ++ msgL f)) h5 => q_ms (f := f) h h2 h3 (by rw [← hn]; exact h4) h5)
 obtain ⟨a, cap, hv⟩ := row_slice h.ms
 have HO := Lib.hid (fun W (hW : Below w.heap.size w W) => (show W.ownsRow 0 81 9 q.mv n (msgsL r.ms) by rw [hn]; exact row_heap h.ms (fun k hk => hW.block k (h.ms.lt k hk).2)))
 rw [← hn] at hv hl
 have HV := Lib.hid hv
 have HQ := Lib.hid (fun W (hW : Below w.heap.size w W) => (show W.cell? ⟨q.rb, 1, none⟩ = some (.slice a n cap) by rw [← hv]; exact (h.blk.below hW).cell 1))
 have HN := Lib.hid h.n2
 have HF := Lib.hid (fun W (hW : Below w.heap.size w W) => (h.blk.below hW).free 1)
 have c0 := HQ.out w (Below.refl _ _)
 have hfr := h.blk.free
 obtain ⟨rb, fv, mv⟩ := q
 dsimp only at *
 obtain ⟨k, fr, to, an, aq, rg, pt, pr, co⟩ := f
 dsimp only [msgV, msgA] at *
 clear h hn hfr hv
 go_enter Tryz.func127, Tryz.ntmps127
 go_wp2_with fail
 go_region_law (refine step_app rfl (.tmp 8) (.tmp 10) 85 rfl 0 81 i0 (.agg #[.int .i64 0, .int .i64 0, .int .i64 0, .int .i64 0, .int .i64 0, .int .i64 0, .int .i64 0, .int .i64 0, .int .i64 0]) 9 72 Tryz.underlying85 ei ez es eb rfl (by decide) (.slice a n cap) n (msgsL r.ms) (by rfl) (by rw [← HV.out]; exact HO.out _ (by go_grown)) ⟨w.heap.size + 1, 0, none⟩ 1 1 (msgL ⟨k, fr, to, an, aq, rg, pt, pr, co⟩) (by rfl) rfl (lit_cells (by first | exact (Blk.fresh _ _ _ _ (by simp)).drew | exact Blk.fresh _ _ _ _ (by simp))) (msgL_one _) (by unfold maxLen; omega) (by omega) (Nat.zero_le _) ?_; intro v2 w2 hown2 hgrow2 hat2; rw [← HV.out] at hgrow2 hat2; have s2 : w2.cell? ⟨rb, 1, none⟩ = some (.slice a n cap) := hgrow2.cell (HQ.out _ (by go_grown)) (fun e => HN.out e.symm); have f2 : w2.frozen? ⟨rb, 1, none⟩ = false := (World.frozen?_of_block (a := ⟨rb, 1, none⟩) (hgrow2.block _ (World.block_lt_of_cell? _ _ (HQ.out _ (by go_grown))) (fun e => HN.out e.symm))).trans (HF.out _ (by go_grown)); have HZ := Lib.hid (HE.out _ w2 v2 (by go_grown) hgrow2 hown2 hat2); obtain ⟨a2, c2, rfl⟩ := row_slice hown2; clear hown2 hgrow2 hat2)
 all_goals go_wp2_with fail
 all_goals exact bodyPost_end (results_none rfl _ _ _) rfl ⟨rfl, HZ.out⟩

set_option maxRecDepth 100000 in
set_option maxHeartbeats 1000000 in
theorem pfind_any (L : SLoc) (S : Sto) (pt : Int) (p : SPart) (b : Bool) (w : World) (h : StoreAt L S w) (hP : ∀ W, Below w.heap.size w W → Calls Tryz.prog 33 #[.pointer (some ⟨L.sb, 0, none⟩), .int .i64 pt] W (Makes (.tuple #[.agg (partA p), .bool b]) W)) : Calls Tryz.prog 121 #[.pointer (some ⟨L.sb, 0, none⟩), .int .i64 pt] w (Makes (.tuple #[oneV p S.node pt, .bool b]) w) := by
 have HN := Lib.hid (fun W (hW : Below w.heap.size w W) => node_of L S W (h.below hW))
 have HP := Lib.hid hP
 generalize S.node = node at *
 obtain ⟨an, aq, rg, ⟨sp, sd, ss, sh⟩⟩ := p
 dsimp only [partA, oneV] at *
 clear hP h
 go_enter Tryz.func121, Tryz.ntmps121
 go_wp2_with fail
 (with_reducible refine (HP.out _ (by go_grown)).mono ?_)
 rintro e w1 ⟨rfl, hb1⟩
 have B1 : Below w.heap.size w w1 := below_then (by go_grown) hb1
 go_wp2_with fail
 have HV := Lib.hid ((Blk.fresh w #[.int .i64 0, .int .i64 0, .int .i64 0, .int .i64 0, .int .i64 0, .int .i64 0, .int .i64 0, .int .i64 0, .int .i64 0] 205 _ rfl).below hb1)
 have hlt := HV.out.lt
 obtain ⟨qv, fv⟩ := HV.out.out
 have BN : Below w.heap.size w (World.drew (w1.alloc (.cells #[.int .i64 an, .int .i64 aq, .int .i64 rg, .int .i64 sp, .int .i64 sd, .int .i64 ss, .int .i64 sh] 61))) := (B1.alloc B1.size _).drew
 have HT : Hid ((World.drew (w1.alloc (.cells #[.int .i64 an, .int .i64 aq, .int .i64 rg, .int .i64 sp, .int .i64 sd, .int .i64 ss, .int .i64 sh] 61))).heap[w.heap.size]? = some (.cells #[.int .i64 0, .int .i64 0, .int .i64 0, .int .i64 0, .int .i64 0, .int .i64 0, .int .i64 0, .int .i64 0, .int .i64 0] 205 (0, 0))) := Lib.hid ((((Below.refl w1.heap.size w1).alloc (Nat.le_refl _) (.cells #[.int .i64 an, .int .i64 aq, .int .i64 rg, .int .i64 sp, .int .i64 sd, .int .i64 ss, .int .i64 sh] 61)).drew.block _ hlt).trans ((hb1.block _ (by simp)).trans (heap_alloc_new _ _)))
 have HP1 := Lib.hid ((Blk.fresh w1 #[.int .i64 an, .int .i64 aq, .int .i64 rg, .int .i64 sp, .int .i64 sd, .int .i64 ss, .int .i64 sh] 61 _ rfl).drew)
 have HB := Lib.hid BN
 clear qv fv hb1 BN
 refine wp_region_held_drew (S := fun w' => Blk w' w1.heap.size #[.int .i64 an, .int .i64 aq, .int .i64 rg, .int .i64 sp, .int .i64 sd, .int .i64 ss, .int .i64 sh]) (by kernel_rfl) HP1.out (fun hHeld => ?_)
 generalize (World.drew (w1.alloc (.cells #[.int .i64 an, .int .i64 aq, .int .i64 rg, .int .i64 sp, .int .i64 sd, .int .i64 ss, .int .i64 sh] 61))) = w5 at *
 refine takeT (v := ?_) (d := some 14) 0 hHeld ?_ ?_
 rotate_left 1
 · (intro w' hS'; (try dsimp only at hS'); have qS := hS'.cell; clear hS'; go_simp; (try with_reducible rfl))
 simp only [puts]
 refine takeT (v := ?_) (d := some 15) 1 hHeld ?_ ?_
 rotate_left 1
 · (intro w' hS'; (try dsimp only at hS'); have qS := hS'.cell; clear hS'; go_simp; (try with_reducible rfl))
 simp only [puts]
 refine takeT (v := ?_) (d := some 17) 3 hHeld ?_ ?_
 rotate_left 1
 · (intro w' hS'; (try dsimp only at hS'); have qS := hS'.cell; clear hS'; go_simp; (try with_reducible rfl))
 simp only [puts]
 refine takeT (v := ?_) (d := some 19) 5 hHeld ?_ ?_
 rotate_left 1
 · (intro w' hS'; (try dsimp only at hS'); have qS := hS'.cell; clear hS'; go_simp; (try with_reducible rfl))
 simp only [puts]
 refine wpAnyH_call (d := some 16) 2 94 _ _ [.pointer (some ⟨L.sb, 0, none⟩)] rfl rfl (by kernel_rfl) rfl (enters_of Tryz.func94 (by kernel_rfl) rfl) (by rfl) (by rfl) ?_
 refine (HN.out _ HB.out).mono ?_; rintro e w5 ⟨rfl, rfl⟩
 refine ⟨_, rfl, _, fun _ h => h, hHeld, fun hHeld => ?_⟩
 simp only [Act.put, puts]
 refine takeT (v := ?_) (d := some 18) 4 hHeld ?_ ?_
 rotate_left 1
 · (intro w' hS'; (try dsimp only at hS'); have qS := hS'.cell; clear hS'; go_simp; (try with_reducible rfl))
 simp only [puts]
 refine wpAnyH_all (rs := [6]) (by kernel_rfl) (by simp) (fun j hj => ?_)
 obtain rfl : j = 6 := by simpa using hj
 refine wpOp_step rfl (fun K' hK => ?_)
 rw [if_pos (by rfl)]
 refine wp_store_row 205 (.tmp 4) (.tmp 18) rfl w.heap.size #[.int .i64 an, .int .i64 aq, .int .i64 rg, .int .i64 sp, .int .i64 sd, .int .i64 ss, .int .i64 sh, .int .i64 node, .int .i64 pt] rfl rfl 205 #[.int .i64 0, .int .i64 0, .int .i64 0, .int .i64 0, .int .i64 0, .int .i64 0, .int .i64 0, .int .i64 0, .int .i64 0] HT.out (by kernel_rfl) rfl (by simp [Value.oneCell']) ?_
 obtain ⟨HFr, hgr⟩ := row_end (cells := #[.int .i64 an, .int .i64 aq, .int .i64 rg, .int .i64 sp, .int .i64 sd, .int .i64 ss, .int .i64 sh, .int .i64 node, .int .i64 pt]) HT.out
 have hK2 := hHeld.heap' hgr.size (hgr.block _ hHeld.lt (fun e => by injection e with e; omega))
 have hB2 := Lib.hid (HB.out.grown hgr HB.out.size (fun k hk => by injection hk with hk; omega))
 have hHeld := (hK2 : (fun w' : World => Blk w' w1.heap.size #[.int .i64 an, .int .i64 aq, .int .i64 rg, .int .i64 sp, .int .i64 sd, .int .i64 ss, .int .i64 sh]) (w5.setRow w.heap.size #[.int .i64 an, .int .i64 aq, .int .i64 rg, .int .i64 sp, .int .i64 sd, .int .i64 ss, .int .i64 sh, .int .i64 node, .int .i64 pt]))
 refine hK _ _ ⟨hHeld, ?_⟩
 simp only [Act.put, puts]
 clear hK hK2
 obtain ⟨q1, f1⟩ := HFr.out
 generalize w5.setRow w.heap.size #[.int .i64 an, .int .i64 aq, .int .i64 rg, .int .i64 sp, .int .i64 sd, .int .i64 ss, .int .i64 sh, .int .i64 node, .int .i64 pt] = w6 at *
 refine takeT (v := ?_) (d := some 5) 7 hHeld ?_ ?_
 rotate_left 1
 · (intro w' hS'; (try dsimp only at hS'); have qS := hS'.cell; clear hS'; go_simp; (try with_reducible rfl))
 simp only [puts]
 refine wpAnyH_done (by kernel_rfl) ?_ _
 clear hHeld
 go_wp2_with fail
 exact bodyPost_ret (v := .tuple #[.agg #[.int .i64 an, .int .i64 aq, .int .i64 rg, .int .i64 sp, .int .i64 sd, .int .i64 ss, .int .i64 sh, .int .i64 node, .int .i64 pt], .bool b]) (by simp [results, Tryz.results121, go_sem, q1, f1]) rfl ⟨by simp, hB2.out⟩
end Go.Proofs.YtlkajejbfojkeaaGreatDoor
