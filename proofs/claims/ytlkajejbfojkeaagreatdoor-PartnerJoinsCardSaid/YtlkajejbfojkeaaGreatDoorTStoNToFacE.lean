/- StoN, RstA, StoB, FlC, FacA, FacE -/
import Derived.Test.YtlkajejbfojkeaaGreatDoorTQq
import Derived.Test.YtlkajejbfojkeaaGreatDoorRows
import Derived.WalkKit
import Derived.WalkSpells
import Derived.WalkLawsBesides
import Derived.BigQuiet
import Derived.Deep.QuietTactic
import Derived.StillTailTactics
import Derived.Handy
import Derived.Lib.Hide
import Derived.Test.YtlkajejbfojkeaaGreatDoorTStepToStoR
import Derived.Test.YtlkajejbfojkeaaGreatDoorTMovCToTrcP
set_option linter.unusedSimpArgs false
set_option linter.unusedVariables false
set_option maxRecDepth 100000
set_option maxHeartbeats 16000000
namespace Go.Proofs.YtlkajejbfojkeaaGreatDoor
open Go.RowKit
theorem foot_nodup {L : SLoc} : L.foot.Nodup ↔ L.av.ownBlock ≠ some L.sb ∧ L.pv.ownBlock ≠ some L.sb ∧ L.sb ∉ blocks L.ab ∧ (blocks L.ab).Nodup ∧ (∀ k, L.av.ownBlock = some k → L.pv.ownBlock ≠ some k ∧ k ∉ blocks L.ab) ∧ (∀ k, L.pv.ownBlock = some k → k ∉ blocks L.ab) := by
 unfold SLoc.foot
 cases ha : L.av.ownBlock with
 | none =>
  cases hp : L.pv.ownBlock with
  | none => simp [List.nodup_cons]
  | some q => simp [List.nodup_cons]; constructor
              · rintro ⟨⟨h1, h2⟩, h3, h4⟩; exact ⟨fun e => h1 e.symm, h2, h4, h3⟩
              · rintro ⟨h1, h2, h3, h4⟩; exact ⟨⟨fun e => h1 e.symm, h2⟩, h4, h3⟩
 | some p =>
  cases hp : L.pv.ownBlock with
  | none => simp [List.nodup_cons]; constructor
            · rintro ⟨⟨h1, h2⟩, h3, h4⟩; exact ⟨fun e => h1 e.symm, h2, h4, h3⟩
            · rintro ⟨h1, h2, h3, h4⟩; exact ⟨⟨fun e => h1 e.symm, h2⟩, h4, h3⟩
  | some q => simp [List.nodup_cons]; constructor
              · rintro ⟨⟨h1, h2, h3⟩, ⟨h4, h5⟩, h6, h7⟩; exact ⟨fun e => h1 e.symm, fun e => h2 e.symm, h3, h7, ⟨fun e => h4 e.symm, h5⟩, h6⟩
              · rintro ⟨h1, h2, h3, h4, ⟨h5, h6⟩, h7⟩; exact ⟨⟨fun e => h1 e.symm, fun e => h2 e.symm, h3⟩, ⟨fun e => h5 e.symm, h6⟩, h7, h4⟩
def Moved (F : List Nat) (v v' : Value) : Prop := v'.ownBlock = v.ownBlock ∨ ∃ m, v'.ownBlock = some m ∧ m ∉ F
theorem once_pv {L : SLoc} {v' : Value} (h : L.foot.Nodup) (hm : Moved L.foot L.pv v') : (SLoc.mk L.sb L.av v' L.ab).foot.Nodup := by
 rw [foot_nodup] at h ⊢
 obtain ⟨h1, h2, h3, h4, h5, h6⟩ := h
 rcases hm with e | ⟨m, e, hF⟩
 · exact ⟨h1, by rw [e]; exact h2, h3, h4, fun k hk => ⟨by rw [e]; exact (h5 k hk).1, (h5 k hk).2⟩, fun k hk => h6 k (by rw [← e]; exact hk)⟩
 · rw [SLoc.mem] at hF
   refine ⟨h1, ?_, h3, h4, fun k hk => ⟨?_, (h5 k hk).2⟩, fun k hk => ?_⟩
   · rw [e]; intro e'; injection e' with e'; exact hF (.inl e')
   · rw [e]; intro e'; injection e' with e'; subst e'; exact hF (.inr (.inl hk))
   · rw [e] at hk; injection hk with hk; subst hk; exact fun hb => hF (.inr (.inr (.inr hb)))
theorem mem_pv {L : SLoc} {v' : Value} {n : Nat} (hm : v'.ownBlock = L.pv.ownBlock ∨ ∃ m, v'.ownBlock = some m ∧ n ≤ m) : ∀ k ∈ (SLoc.mk L.sb L.av v' L.ab).foot, k ∈ L.foot ∨ n ≤ k := by
 intro k hk
 rw [SLoc.mem] at hk ⊢
 rcases hk with h | h | h | h
 · exact .inl (.inl h)
 · exact .inl (.inr (.inl h))
 · rcases hm with e | ⟨m, e, hl⟩
   · exact .inl (.inr (.inr (.inl (e.symm.trans h))))
   · rw [e] at h; injection h with h; subst h; exact .inr hl
 · exact .inl (.inr (.inr (.inr h)))
theorem blocks_nil : blocks [] = [] := rfl
theorem blocks_cons (x : Nat × Value) (t : List (Nat × Value)) : blocks (x :: t) = (x.1 :: x.2.ownBlock.toList) ++ blocks t := rfl
theorem blocks_append (a b : List (Nat × Value)) : blocks (a ++ b) = blocks a ++ blocks b := by unfold blocks; exact List.flatMap_append
theorem blocks_sub {a b : List (Nat × Value)} (h : a.Sublist b) : (blocks a).Sublist (blocks b) := by
 induction h with
 | slnil => exact List.Sublist.refl _
 | cons x _ ih => rw [blocks_cons]; exact ih.trans (List.sublist_append_right _ _)
 | cons_cons x _ ih => rw [blocks_cons, blocks_cons]; exact ih.append_left _
theorem blocks_same {ab : List (Nat × Value)} {i : Nat} {x : Nat × Value} {v' : Value} (hx : ab[i]? = some x) (e : v'.ownBlock = x.2.ownBlock) : blocks (ab.set i (x.1, v')) = blocks ab := by
 induction ab generalizing i with
 | nil => simp at hx
 | cons y t ih =>
  match i with
  | 0 => simp at hx; subst hx; rw [List.set_cons_zero, blocks_cons, blocks_cons, e]
  | i + 1 => rw [List.set_cons_succ, blocks_cons, blocks_cons, ih (by simpa using hx)]
theorem mem_blocks_set {ab : List (Nat × Value)} {i : Nat} {x : Nat × Value} {v' : Value} {k : Nat} (hx : ab[i]? = some x) (hk : k ∈ blocks (ab.set i (x.1, v'))) : k ∈ blocks ab ∨ v'.ownBlock = some k := by
 obtain ⟨j, y, hy, hk⟩ := mem_blocks.1 hk
 rw [List.getElem?_set] at hy
 split at hy
 · rename_i hij
   split at hy
   · injection hy with hy
     subst hy
     rcases hk with rfl | hk
     · exact .inl (mem_blocks.2 ⟨i, x, hx, .inl rfl⟩)
     · exact .inr hk
   · cases hy
 · exact .inl (mem_blocks.2 ⟨j, y, hy, hk⟩)
theorem blocks_fresh {ab : List (Nat × Value)} {i : Nat} {x : Nat × Value} {v' : Value} {m : Nat} (hx : ab[i]? = some x) (e : v'.ownBlock = some m) (hm : m ∉ blocks ab) (h : (blocks ab).Nodup) : (blocks (ab.set i (x.1, v'))).Nodup := by
 induction ab generalizing i with
 | nil => simp at hx
 | cons y t ih =>
  rw [blocks_cons] at h hm
  rw [List.nodup_append] at h
  obtain ⟨h1, h2, h3⟩ := h
  match i with
  | 0 =>
   simp at hx; subst hx
   rw [List.set_cons_zero, blocks_cons, e, List.nodup_append]
   refine ⟨?_, h2, ?_⟩
   · simp; intro e'; exact hm (by simp [e'])
   · intro a ha b hb hab
     subst hab
     rcases List.mem_cons.1 ha with rfl | ha
     · exact h3 _ (by simp) _ hb rfl
     · simp at ha; subst ha; exact hm (by simp [hb])
  | i + 1 =>
   rw [List.set_cons_succ, blocks_cons, List.nodup_append]
   refine ⟨h1, ih (by simpa using hx) (fun hb => hm (by simp [hb])) h2, fun a ha b hb hab => ?_⟩
   subst hab
   rcases mem_blocks_set (by simpa using hx) hb with hb | hb
   · exact h3 _ ha _ hb rfl
   · rw [e] at hb; injection hb with hb; subst hb; exact hm (by rw [List.mem_append]; exact .inl ha)
theorem once_rv {L : SLoc} {i : Nat} {x : Nat × Value} {v' : Value} (h : L.foot.Nodup) (hx : L.ab[i]? = some x) (hm : Moved L.foot x.2 v') : (SLoc.mk L.sb L.av L.pv (L.ab.set i (x.1, v'))).foot.Nodup := by
 rcases hm with e | ⟨m, e, hF⟩
 · rw [foot_nodup] at h ⊢
   show _ ∧ _ ∧ L.sb ∉ blocks (L.ab.set i (x.1, v')) ∧ (blocks (L.ab.set i (x.1, v'))).Nodup ∧ (∀ k, _ → _ ∧ k ∉ blocks (L.ab.set i (x.1, v'))) ∧ (∀ k, _ → k ∉ blocks (L.ab.set i (x.1, v')))
   rw [blocks_same hx e]
   exact h
 · rw [SLoc.mem] at hF
   rw [foot_nodup] at h ⊢
   obtain ⟨h1, h2, h3, h4, h5, h6⟩ := h
   have hne : ∀ k, k ∉ blocks L.ab → m ≠ k → k ∉ blocks (L.ab.set i (x.1, v')) := fun k hk hmk hb => by
    rcases mem_blocks_set hx hb with hb | hb
    · exact hk hb
    · rw [e] at hb; injection hb with hb; exact hmk hb
   refine ⟨h1, h2, hne _ h3 (fun e => hF (.inl e)), blocks_fresh hx e (fun hb => hF (.inr (.inr (.inr hb)))) h4, fun k hk => ⟨(h5 k hk).1, hne _ (h5 k hk).2 (fun e => hF (.inr (.inl (by rw [hk, e]))))⟩, fun k hk => hne _ (h6 k hk) (fun e => hF (.inr (.inr (.inl (by rw [hk, e])))))⟩
theorem mem_rv {L : SLoc} {i : Nat} {x : Nat × Value} {v' : Value} {n : Nat} (hx : L.ab[i]? = some x) (hm : v'.ownBlock = x.2.ownBlock ∨ ∃ m, v'.ownBlock = some m ∧ n ≤ m) : ∀ k ∈ (SLoc.mk L.sb L.av L.pv (L.ab.set i (x.1, v'))).foot, k ∈ L.foot ∨ n ≤ k := by
 intro k hk
 rw [SLoc.mem] at hk ⊢
 rcases hk with h | h | h | h
 · exact .inl (.inl h)
 · exact .inl (.inr (.inl h))
 · exact .inl (.inr (.inr (.inl h)))
 · rcases mem_blocks_set hx h with h | h
   · exact .inl (.inr (.inr (.inr h)))
   · rcases hm with e | ⟨m, e, hl⟩
     · exact .inl (.inr (.inr (.inr (mem_blocks.2 ⟨i, x, hx, .inr (e.symm.trans h)⟩))))
     · rw [e] at h; injection h with h; subst h; exact .inr hl
theorem once_add {L : SLoc} {av' : Value} {m : Nat} (h : L.foot.Nodup) (hm : m ∉ L.foot) (ha : av'.ownBlock = L.av.ownBlock ∨ ∃ k, av'.ownBlock = some k ∧ k ∉ L.foot ∧ k ≠ m) : (SLoc.mk L.sb av' L.pv (L.ab ++ [(m, .slice none 0 0)])).foot.Nodup := by
 rw [SLoc.mem] at hm
 rw [foot_nodup] at h ⊢
 obtain ⟨h1, h2, h3, h4, h5, h6⟩ := h
 have hb : ∀ k, k ∈ blocks (L.ab ++ [(m, .slice none 0 0)]) ↔ k ∈ blocks L.ab ∨ k = m := fun k => by
  rw [blocks_append, List.mem_append]; simp [blocks_cons, blocks_nil, Value.ownBlock]
 have hav : av'.ownBlock ≠ some L.sb ∧ ∀ k, av'.ownBlock = some k → L.pv.ownBlock ≠ some k ∧ k ∉ blocks L.ab ∧ k ≠ m := by
  rcases ha with e | ⟨q, e, hF, hq⟩
  · rw [e]
    exact ⟨h1, fun k hk => ⟨(h5 k hk).1, (h5 k hk).2, fun e => hm (.inr (.inl (by rw [hk, e])))⟩⟩
  · rw [SLoc.mem] at hF
    rw [e]
    refine ⟨fun e' => hF (.inl (by injection e')), fun k hk => ?_⟩
    injection hk with hk
    subst hk
    exact ⟨fun e' => hF (.inr (.inr (.inl e'))), fun hb => hF (.inr (.inr (.inr hb))), hq⟩
 refine ⟨hav.1, h2, ?_, ?_, fun k hk => ⟨(hav.2 k hk).1, ?_⟩, fun k hk => ?_⟩
 · rw [hb]; rintro (h | h); exact h3 h; exact hm (.inl h.symm)
 · show (blocks (L.ab ++ [(m, .slice none 0 0)])).Nodup
   rw [blocks_append, List.nodup_append]
   refine ⟨h4, by simp [blocks_cons, blocks_nil, Value.ownBlock], fun a hab0 b hb' hab => ?_⟩
   simp [blocks_cons, blocks_nil, Value.ownBlock] at hb'
   subst hb' hab
   exact hm (.inr (.inr (.inr hab0)))
 · rw [hb]; rintro (h | h); exact (hav.2 k hk).2.1 h; exact (hav.2 k hk).2.2 h
 · rw [hb]; rintro (h | h); exact h6 k hk h; exact hm (.inr (.inr (.inl (by rw [← h]; exact hk))))
theorem mem_add {L : SLoc} {av' : Value} {m n : Nat} (hm : n ≤ m) (ha : av'.ownBlock = L.av.ownBlock ∨ ∃ k, av'.ownBlock = some k ∧ n ≤ k) : ∀ k ∈ (SLoc.mk L.sb av' L.pv (L.ab ++ [(m, .slice none 0 0)])).foot, k ∈ L.foot ∨ n ≤ k := by
 intro k hk
 rw [SLoc.mem] at hk ⊢
 rcases hk with h | h | h | h
 · exact .inl (.inl h)
 · rcases ha with e | ⟨q, e, hl⟩
   · exact .inl (.inr (.inl (e.symm.trans h)))
   · have h' : av'.ownBlock = some k := h
     rw [e] at h'; injection h' with h'; subst h'; exact .inr hl
 · exact .inl (.inr (.inr (.inl h)))
 · have h' : k ∈ blocks (L.ab ++ [(m, .slice none 0 0)]) := h
   rw [blocks_append, List.mem_append] at h'
   rcases h' with h' | h'
   · exact .inl (.inr (.inr (.inr h')))
   · simp [blocks_cons, blocks_nil, Value.ownBlock] at h'; subst h'; exact .inr hm
theorem once_del {L : SLoc} {av' : Value} (i : Nat) (h : L.foot.Nodup) (ha : av'.ownBlock = L.av.ownBlock) : (SLoc.mk L.sb av' L.pv (L.ab.eraseIdx i)).foot.Nodup := by
 rw [foot_nodup] at h ⊢
 obtain ⟨h1, h2, h3, h4, h5, h6⟩ := h
 have hs : (blocks (L.ab.eraseIdx i)).Sublist (blocks L.ab) := blocks_sub (List.eraseIdx_sublist _ _)
 exact ⟨by rw [ha]; exact h1, h2, fun hb => h3 (hs.subset hb), h4.sublist hs, fun k hk => ⟨(h5 k (by rw [← ha]; exact hk)).1, fun hb => (h5 k (by rw [← ha]; exact hk)).2 (hs.subset hb)⟩, fun k hk hb => h6 k hk (hs.subset hb)⟩
theorem mem_del {L : SLoc} {av' : Value} (i : Nat) (ha : av'.ownBlock = L.av.ownBlock) : ∀ k ∈ (SLoc.mk L.sb av' L.pv (L.ab.eraseIdx i)).foot, k ∈ L.foot := by
 intro k hk
 rw [SLoc.mem] at hk ⊢
 have hs : (blocks (L.ab.eraseIdx i)).Sublist (blocks L.ab) := blocks_sub (List.eraseIdx_sublist _ _)
 rcases hk with h | h | h | h
 · exact .inl h
 · exact .inr (.inl (ha.symm.trans h))
 · exact .inr (.inr (.inl h))
 · exact .inr (.inr (.inr (hs.subset h)))
def putSeat4 (w : World) (g o : Nat) (t : MSeat) : World := (((w.setCell ⟨g, o, none⟩ (.int .i64 t.p)).setCell ⟨g, o + 1, none⟩ (.int .i64 t.d)).setCell ⟨g, o + 2, none⟩ (.int .i64 t.s)).setCell ⟨g, o + 3, none⟩ (.int .i64 t.h)
theorem Goes.seat {F : List Nat} {w : World} (g o : Nat) (t : MSeat) (h : g ∈ F) : Goes F F w (putSeat4 w g o t) :=
 (((Goes.setCell g o _ h).trans (.setCell g _ _ h)).trans (.setCell g _ _ h)).trans (.setCell g _ _ h)
theorem part_seat {w : World} {B : Nat} {T : TypeId} {g cap n : Nat} {ps : List SPart} (h : w.ownsRow B T 7 (.slice (some ⟨g, 0, none⟩) n cap) n (partsL ps)) (i : Nat) (p : SPart) (hp : ps[i]? = some p) (t : MSeat) : (putSeat4 w g (i * 7 + 3) t).ownsRow B T 7 (.slice (some ⟨g, 0, none⟩) n cap) n (partsL (ps.set i { p with seat := t })) := by
 have hn : ps.length = n := by have := h.1; unfold partsL at this; rw [flat_length _ 7 partL_len] at this; omega
 obtain ⟨hi, rfl⟩ := List.getElem?_eq_some_iff.1 hp
 have hb : ∀ j, j < 7 → i * 7 + j < n * 7 := fun j hj => by omega
 have h1 := row_set h (i * 7 + 3) (.int .i64 t.p) (hb 3 (by decide))
 rw [show (partsL ps).set (i * 7 + 3) (.int .i64 t.p) = partsL (ps.set i { ps[i] with seat := ⟨t.p, ps[i].seat.d, ps[i].seat.s, ps[i].seat.h⟩ }) from flat_set partL 7 partL_len ps i 3 hi (by decide) _ _ rfl] at h1
 have h2 := row_set h1 (i * 7 + 4) (.int .i64 t.d) (hb 4 (by decide))
 rw [show (partsL (ps.set i { ps[i] with seat := ⟨t.p, ps[i].seat.d, ps[i].seat.s, ps[i].seat.h⟩ })).set (i * 7 + 4) (.int .i64 t.d) = partsL ((ps.set i { ps[i] with seat := ⟨t.p, ps[i].seat.d, ps[i].seat.s, ps[i].seat.h⟩ }).set i { ps[i] with seat := ⟨t.p, t.d, ps[i].seat.s, ps[i].seat.h⟩ }) from flat_set partL 7 partL_len _ i 4 (by simpa using hi) (by decide) _ _ (by simp [partL]), List.set_set] at h2
 have h3 := row_set h2 (i * 7 + 5) (.int .i64 t.s) (hb 5 (by decide))
 rw [show (partsL (ps.set i { ps[i] with seat := ⟨t.p, t.d, ps[i].seat.s, ps[i].seat.h⟩ })).set (i * 7 + 5) (.int .i64 t.s) = partsL ((ps.set i { ps[i] with seat := ⟨t.p, t.d, ps[i].seat.s, ps[i].seat.h⟩ }).set i { ps[i] with seat := ⟨t.p, t.d, t.s, ps[i].seat.h⟩ }) from flat_set partL 7 partL_len _ i 5 (by simpa using hi) (by decide) _ _ (by simp [partL]), List.set_set] at h3
 have h4 := row_set h3 (i * 7 + 6) (.int .i64 t.h) (hb 6 (by decide))
 rw [show (partsL (ps.set i { ps[i] with seat := ⟨t.p, t.d, t.s, ps[i].seat.h⟩ })).set (i * 7 + 6) (.int .i64 t.h) = partsL ((ps.set i { ps[i] with seat := ⟨t.p, t.d, t.s, ps[i].seat.h⟩ }).set i { ps[i] with seat := t }) from flat_set partL 7 partL_len _ i 6 (by simpa using hi) (by decide) _ _ (by simp [partL]), List.set_set] at h4
 exact h4
theorem reg_seat {w : World} {B : Nat} {T : TypeId} {g cap n : Nat} {ps : List SReg} (h : w.ownsRow B T 6 (.slice (some ⟨g, 0, none⟩) n cap) n (regsL ps)) (i : Nat) (p : SReg) (hp : ps[i]? = some p) (t : MSeat) : (putSeat4 w g (i * 6 + 2) t).ownsRow B T 6 (.slice (some ⟨g, 0, none⟩) n cap) n (regsL (ps.set i { p with seat := t })) := by
 have hn : ps.length = n := by have := h.1; unfold regsL at this; rw [flat_length _ 6 regL_len] at this; omega
 obtain ⟨hi, rfl⟩ := List.getElem?_eq_some_iff.1 hp
 have hb : ∀ j, j < 6 → i * 6 + j < n * 6 := fun j hj => by omega
 have h1 := row_set h (i * 6 + 2) (.int .i64 t.p) (hb 2 (by decide))
 rw [show (regsL ps).set (i * 6 + 2) (.int .i64 t.p) = regsL (ps.set i { ps[i] with seat := ⟨t.p, ps[i].seat.d, ps[i].seat.s, ps[i].seat.h⟩ }) from flat_set regL 6 regL_len ps i 2 hi (by decide) _ _ rfl] at h1
 have h2 := row_set h1 (i * 6 + 3) (.int .i64 t.d) (hb 3 (by decide))
 rw [show (regsL (ps.set i { ps[i] with seat := ⟨t.p, ps[i].seat.d, ps[i].seat.s, ps[i].seat.h⟩ })).set (i * 6 + 3) (.int .i64 t.d) = regsL ((ps.set i { ps[i] with seat := ⟨t.p, ps[i].seat.d, ps[i].seat.s, ps[i].seat.h⟩ }).set i { ps[i] with seat := ⟨t.p, t.d, ps[i].seat.s, ps[i].seat.h⟩ }) from flat_set regL 6 regL_len _ i 3 (by simpa using hi) (by decide) _ _ (by simp [regL]), List.set_set] at h2
 have h3 := row_set h2 (i * 6 + 4) (.int .i64 t.s) (hb 4 (by decide))
 rw [show (regsL (ps.set i { ps[i] with seat := ⟨t.p, t.d, ps[i].seat.s, ps[i].seat.h⟩ })).set (i * 6 + 4) (.int .i64 t.s) = regsL ((ps.set i { ps[i] with seat := ⟨t.p, t.d, ps[i].seat.s, ps[i].seat.h⟩ }).set i { ps[i] with seat := ⟨t.p, t.d, t.s, ps[i].seat.h⟩ }) from flat_set regL 6 regL_len _ i 4 (by simpa using hi) (by decide) _ _ (by simp [regL]), List.set_set] at h3
 have h4 := row_set h3 (i * 6 + 5) (.int .i64 t.h) (hb 5 (by decide))
 rw [show (regsL (ps.set i { ps[i] with seat := ⟨t.p, t.d, t.s, ps[i].seat.h⟩ })).set (i * 6 + 5) (.int .i64 t.h) = regsL ((ps.set i { ps[i] with seat := ⟨t.p, t.d, t.s, ps[i].seat.h⟩ }).set i { ps[i] with seat := t }) from flat_set regL 6 regL_len _ i 5 (by simpa using hi) (by decide) _ _ (by simp [regL]), List.set_set] at h4
 exact h4
structure RLoc where
 sb : Nat
 av : Value
 pv : Value
 rv : List Value
def rblocks (rv : List Value) : List Nat := rv.flatMap fun v => v.ownBlock.toList
def RLoc.foot (R : RLoc) : List Nat := R.sb :: (R.av.ownBlock.toList ++ (R.pv.ownBlock.toList ++ rblocks R.rv))
def actsL (al : List SAct) (rv : List Value) : List Value := (al.zip rv).flatMap fun x => actL x.1 x.2
structure RStoreAt (R : RLoc) (S : Sto) (w : World) : Prop where
 blk : Blk w R.sb #[.int .i64 S.node, .int .i64 S.next, R.av, R.pv]
 acts : w.ownsRow 0 116 8 R.av S.acts.length (actsL S.acts R.rv)
 parts : w.ownsRow 0 166 7 R.pv S.parts.length (partsL S.parts)
 len : R.rv.length = S.acts.length
 regs : ∀ (i : Nat) (v : Value) (a : SAct), R.rv[i]? = some v → S.acts[i]? = some a → w.ownsRow 0 199 6 v a.regs.length (regsL a.regs)
 once : R.foot.Nodup
theorem mem_rblocks {rv : List Value} {k : Nat} : k ∈ rblocks rv ↔ ∃ (i : Nat) (v : Value), rv[i]? = some v ∧ v.ownBlock = some k := by
 unfold rblocks
 rw [List.mem_flatMap]
 constructor
 · rintro ⟨v, hv, hk⟩
   obtain ⟨i, hi⟩ := List.getElem?_of_mem hv
   exact ⟨i, v, hi, by simpa using hk⟩
 · rintro ⟨i, v, hi, hk⟩
   exact ⟨v, List.mem_of_getElem? hi, by simpa using hk⟩
theorem RLoc.mem {R : RLoc} {k : Nat} : k ∈ R.foot ↔ k = R.sb ∨ R.av.ownBlock = some k ∨ R.pv.ownBlock = some k ∨ k ∈ rblocks R.rv := by
 unfold RLoc.foot
 simp [List.mem_append]
theorem rfoot_nodup {R : RLoc} : R.foot.Nodup ↔ R.av.ownBlock ≠ some R.sb ∧ R.pv.ownBlock ≠ some R.sb ∧ R.sb ∉ rblocks R.rv ∧ (rblocks R.rv).Nodup ∧ (∀ k, R.av.ownBlock = some k → R.pv.ownBlock ≠ some k ∧ k ∉ rblocks R.rv) ∧ (∀ k, R.pv.ownBlock = some k → k ∉ rblocks R.rv) := by
 unfold RLoc.foot
 cases ha : R.av.ownBlock with
 | none =>
  cases hp : R.pv.ownBlock with
  | none => simp [List.nodup_cons]
  | some q => simp [List.nodup_cons]; constructor
              · rintro ⟨⟨h1, h2⟩, h3, h4⟩; exact ⟨fun e => h1 e.symm, h2, h4, h3⟩
              · rintro ⟨h1, h2, h3, h4⟩; exact ⟨⟨fun e => h1 e.symm, h2⟩, h4, h3⟩
 | some p =>
  cases hp : R.pv.ownBlock with
  | none => simp [List.nodup_cons]; constructor
            · rintro ⟨⟨h1, h2⟩, h3, h4⟩; exact ⟨fun e => h1 e.symm, h2, h4, h3⟩
            · rintro ⟨h1, h2, h3, h4⟩; exact ⟨⟨fun e => h1 e.symm, h2⟩, h4, h3⟩
  | some q => simp [List.nodup_cons]; constructor
              · rintro ⟨⟨h1, h2, h3⟩, ⟨h4, h5⟩, h6, h7⟩; exact ⟨fun e => h1 e.symm, fun e => h2 e.symm, h3, h7, ⟨fun e => h4 e.symm, h5⟩, h6⟩
              · rintro ⟨h1, h2, h3, h4, ⟨h5, h6⟩, h7⟩; exact ⟨⟨fun e => h1 e.symm, fun e => h2 e.symm, h3⟩, ⟨fun e => h5 e.symm, h6⟩, h7, h4⟩
theorem RStoreAt.lt {R : RLoc} {S : Sto} {w : World} (h : RStoreAt R S w) : ∀ k ∈ R.foot, k < w.heap.size := by
 intro k hk
 rcases RLoc.mem.1 hk with rfl | hk | hk | hk
 · exact h.blk.lt
 · exact (h.acts.lt k hk).2
 · exact (h.parts.lt k hk).2
 · obtain ⟨i, v, hi, hk⟩ := mem_rblocks.1 hk
   have hl := (List.getElem?_eq_some_iff.1 hi).1
   rw [h.len] at hl
   exact ((h.regs i v _ hi (List.getElem?_eq_getElem hl)).lt k hk).2
theorem RStoreAt.keep {R : RLoc} {S : Sto} {w w' : World} (h : RStoreAt R S w) (hz : w.heap.size ≤ w'.heap.size) (he : ∀ k ∈ R.foot, w'.heap[k]? = w.heap[k]?) : RStoreAt R S w' :=
 ⟨h.blk.same hz (he _ (RLoc.mem.2 (.inl rfl))), row_heap h.acts (fun k hk => he k (RLoc.mem.2 (.inr (.inl hk)))), row_heap h.parts (fun k hk => he k (RLoc.mem.2 (.inr (.inr (.inl hk))))), h.len, fun i v a hv ha => row_heap (h.regs i v a hv ha) (fun k hk => he k (RLoc.mem.2 (.inr (.inr (.inr (mem_rblocks.2 ⟨i, v, hv, hk⟩)))))), h.once⟩
theorem RStoreAt.below {R : RLoc} {S : Sto} {w w' : World} (h : RStoreAt R S w) (hb : Below w.heap.size w w') : RStoreAt R S w' := h.keep hb.size (fun k hk => hb.block k (h.lt k hk))
def RGoes (R : RLoc) (S' : Sto) (w w' : World) : Prop := ∃ R', R'.sb = R.sb ∧ RStoreAt R' S' w' ∧ Goes R.foot R'.foot w w'
theorem RGoes.same {R : RLoc} {S : Sto} {w w' : World} (h : RStoreAt R S w) (hb : Below w.heap.size w w') : RGoes R S w w' := ⟨R, rfl, h.below hb, .of_below hb⟩
theorem RGoes.after {R : RLoc} {S : Sto} {w w1 w' : World} (hb : Below w.heap.size w w1) (h : RGoes R S w1 w') : RGoes R S w w' := by
 obtain ⟨R', h1, h2, h3⟩ := h
 exact ⟨R', h1, h2, .after hb h3⟩
theorem RGoes.then_below {R : RLoc} {S : Sto} {w w1 w' : World} (h : RGoes R S w w1) (hb : Below w1.heap.size w1 w') : RGoes R S w w' := by
 obtain ⟨R', h1, h2, h3⟩ := h
 exact ⟨R', h1, h2.below hb, h3.then_below hb⟩
theorem RStoreAt.ne_top {R : RLoc} {S : Sto} {w : World} (h : RStoreAt R S w) : R.av.ownBlock ≠ some R.sb ∧ R.pv.ownBlock ≠ some R.sb ∧ (∀ k, R.av.ownBlock = some k → R.pv.ownBlock ≠ some k) := by
 obtain ⟨h1, h2, _, _, h5, _⟩ := rfoot_nodup.1 h.once
 exact ⟨h1, h2, fun k hk => (h5 k hk).1⟩
theorem RStoreAt.ne_regs {R : RLoc} {S : Sto} {w : World} (h : RStoreAt R S w) {i : Nat} {v : Value} (hv : R.rv[i]? = some v) : ∀ k, v.ownBlock = some k → k ≠ R.sb ∧ R.av.ownBlock ≠ some k ∧ R.pv.ownBlock ≠ some k := by
 obtain ⟨h1, h2, h3, _, h5, h6⟩ := rfoot_nodup.1 h.once
 intro k hk
 have hm : k ∈ rblocks R.rv := mem_rblocks.2 ⟨i, v, hv, hk⟩
 exact ⟨fun e => h3 (e ▸ hm), fun e => (h5 k e).2 hm, fun e => h6 k e hm⟩
theorem rblocks_cons (v : Value) (t : List Value) : rblocks (v :: t) = v.ownBlock.toList ++ rblocks t := rfl
theorem rblocks_ne {rv : List Value} (hn : (rblocks rv).Nodup) : ∀ {i j : Nat} {u v : Value}, rv[i]? = some u → rv[j]? = some v → i ≠ j → ∀ k, u.ownBlock = some k → v.ownBlock ≠ some k := by
 induction rv with
 | nil => intro i j u v h; simp at h
 | cons x t ih =>
  intro i j u v hu hv hij k hk hk2
  rw [rblocks_cons, List.nodup_append] at hn
  obtain ⟨_, h2, h3⟩ := hn
  match i, j with
  | 0, 0 => exact hij rfl
  | 0, j + 1 =>
   simp at hu hv; subst hu
   exact h3 k (by simp [hk]) k (mem_rblocks.2 ⟨j, v, hv, hk2⟩) rfl
  | i + 1, 0 =>
   simp at hu hv; subst hv
   exact h3 k (by simp [hk2]) k (mem_rblocks.2 ⟨i, u, hu, hk⟩) rfl
  | i + 1, j + 1 => exact ih h2 (by simpa using hu) (by simpa using hv) (by omega) k hk hk2
theorem RStoreAt.ne_two {R : RLoc} {S : Sto} {w : World} (h : RStoreAt R S w) {i j : Nat} {u v : Value} (hu : R.rv[i]? = some u) (hv : R.rv[j]? = some v) (hij : i ≠ j) : ∀ k, u.ownBlock = some k → v.ownBlock ≠ some k := rblocks_ne (rfoot_nodup.1 h.once).2.2.2.1 hu hv hij
def ActC (w : World) (b o : Nat) (a : SAct) (v : Value) : Prop := w.cell? ⟨b, o, none⟩ = some (.int .i64 a.an) ∧ w.cell? ⟨b, o + 1, none⟩ = some (.int .i64 a.aq) ∧ w.cell? ⟨b, o + 2, none⟩ = some (.int .i64 a.oc) ∧ w.cell? ⟨b, o + 3, none⟩ = some (.int .i64 a.dp) ∧ w.cell? ⟨b, o + 4, none⟩ = some (.float .f64 a.ex) ∧ w.cell? ⟨b, o + 5, none⟩ = some (.int .i64 a.pa) ∧ w.cell? ⟨b, o + 6, none⟩ = some (.int .i64 a.de) ∧ w.cell? ⟨b, o + 7, none⟩ = some v
theorem ActC.below {w w' : World} {b o : Nat} {a : SAct} {v : Value} (h : ActC w b o a v) (hb : Below w.heap.size w w') (hl : b < w.heap.size) : ActC w' b o a v :=
 ⟨(hb.cell (p := ⟨b, o, none⟩) hl).trans h.1, (hb.cell (p := ⟨b, o + 1, none⟩) hl).trans h.2.1, (hb.cell (p := ⟨b, o + 2, none⟩) hl).trans h.2.2.1, (hb.cell (p := ⟨b, o + 3, none⟩) hl).trans h.2.2.2.1, (hb.cell (p := ⟨b, o + 4, none⟩) hl).trans h.2.2.2.2.1, (hb.cell (p := ⟨b, o + 5, none⟩) hl).trans h.2.2.2.2.2.1, (hb.cell (p := ⟨b, o + 6, none⟩) hl).trans h.2.2.2.2.2.2.1, (hb.cell (p := ⟨b, o + 7, none⟩) hl).trans h.2.2.2.2.2.2.2⟩
theorem actL_len (x : SAct × Value) : (actL x.1 x.2).length = 8 := rfl
theorem act_row {w : World} {B : Nat} {T : TypeId} {v : Value} {n : Nat} {al : List SAct} {rv : List Value} (hl : rv.length = al.length) (h : w.ownsRow B T 8 v n (actsL al rv)) :
    ∃ a cap, v = .slice a n cap ∧ al.length = n ∧ (0 < n → ∃ g, a = some ⟨g, 0, none⟩ ∧ g < w.heap.size ∧ (∀ i, w.frozen? ⟨g, i, none⟩ = false) ∧ ∀ (j : Nat) (x : SAct) (u : Value), al[j]? = some x → rv[j]? = some u → ActC w g (j * 8) x u) := by
 have hzl : (al.zip rv).length = al.length := by rw [List.length_zip, hl, Nat.min_self]
 have hn : al.length = n := by have := h.1; unfold actsL at this; rw [flat_length _ 8 actL_len, hzl] at this; omega
 obtain ⟨a, cap, rfl⟩ := row_slice h
 refine ⟨a, cap, rfl, hn, fun h0 => ?_⟩
 obtain ⟨g, cap', he, _, _, hg, hc, hf⟩ := row_form h h0
 obtain ⟨rfl, _⟩ : a = some ⟨g, 0, none⟩ ∧ cap = cap' := by simpa using he
 refine ⟨g, rfl, hg, hf, fun j x u hx hu => ?_⟩
 obtain ⟨hj, rfl⟩ := List.getElem?_eq_some_iff.1 hx
 obtain ⟨hj2, rfl⟩ := List.getElem?_eq_some_iff.1 hu
 have hat := fun k hk => flat_at (fun x : SAct × Value => actL x.1 x.2) 8 actL_len (al.zip rv) j k (by omega) hk
 simp only [List.getElem_zip] at hat
 refine ⟨hc _ _ ?_, hc _ _ ?_, hc _ _ ?_, hc _ _ ?_, hc _ _ ?_, hc _ _ ?_, hc _ _ ?_, hc _ _ ?_⟩
 · exact hat 0 (by decide)
 · exact hat 1 (by decide)
 · exact hat 2 (by decide)
 · exact hat 3 (by decide)
 · exact hat 4 (by decide)
 · exact hat 5 (by decide)
 · exact hat 6 (by decide)
 · exact hat 7 (by decide)
theorem actEq (n q n' q' : Int) (w : World) : (binOp .eql 36 (.agg #[.int .i64 n, .int .i64 q]) (.agg #[.int .i64 n', .int .i64 q'])).run Tryz.prog w = .ok (.bool (decide (n = n' ∧ q = q'))) w := by
 by_cases h1 : n = n' <;> by_cases h2 : q = q' <;> (go_simp; try simp [h1, h2])
theorem has_of (L : SLoc) (S : Sto) (pt : Int) (w : World) (h : StoreAt L S w) : Calls Tryz.prog 86 #[.pointer (some ⟨L.sb, 0, none⟩), .int .i64 pt] w (Gives (.bool (decide (0 ≤ pt ∧ pt < (S.parts.length : Int)))) w) := by
 have q := h.blk.cell
 obtain ⟨a, cap, hv⟩ := row_slice h.parts
 rw [hv] at q
 obtain ⟨n, hn⟩ : ∃ n, n = S.parts.length := ⟨_, rfl⟩
 rw [← hn] at q ⊢
 have c3 : w.cell? ⟨L.sb, 3, none⟩ = some (.slice a n cap) := q 3
 clear q hn hv h
 by_cases h0 : 0 ≤ pt
 · by_cases h1 : pt < (n : Int)
   · rw [decide_eq_true ⟨h0, h1⟩]
     go_enter Tryz.func86, Tryz.ntmps86
     go_wp2_with fail
     go_ret
     exact ⟨rfl, rfl⟩
   · rw [decide_eq_false (fun x => h1 x.2)]
     go_enter Tryz.func86, Tryz.ntmps86
     go_wp2_with fail
     go_ret
     exact ⟨rfl, rfl⟩
 · rw [decide_eq_false (fun x => h0 x.1)]
   go_enter Tryz.func86, Tryz.ntmps86
   go_wp2_with fail
   go_ret
   exact ⟨rfl, rfl⟩
theorem find1_of (b p : Nat) (a : SAct) (v : Value) (n q : Int) (w : World) (hb : Blk w b (actC a v)) (hp : Blk w p #[.int .i64 n, .int .i64 q]) : Calls Tryz.prog 192 #[.pointer (some ⟨b, 0, none⟩), .pointer (some ⟨p, 0, none⟩)] w (Makes (.bool (decide (a.an = n ∧ a.aq = q))) w) := by
 have hse := fun W => actEq a.an a.aq n q W
 generalize decide (a.an = n ∧ a.aq = q) = t at *
 have a0 : w.cell? ⟨b, 0, none⟩ = some (.int .i64 a.an) := hb.cell 0
 have a1 : w.cell? ⟨b, 1, none⟩ = some (.int .i64 a.aq) := hb.cell 1
 have p0 : w.cell? ⟨p, 0, none⟩ = some (.int .i64 n) := hp.cell 0
 have p1 : w.cell? ⟨p, 1, none⟩ = some (.int .i64 q) := hp.cell 1
 clear hb hp
 go_enter Tryz.func192, Tryz.ntmps192
 go_wp2_with fail
 go_quiet (fail)
 go_wp2_with fail
 go_ret
 exact ⟨rfl, ⟨rfl, rfl, rfl, Nat.le_refl _, fun _ _ => rfl⟩⟩
theorem child1_of (b p : Nat) (a : SAct) (v : Value) (n : Int) (w : World) (hb : Blk w b (actC a v)) (hp : Blk w p #[.int .i64 n]) : Calls Tryz.prog 203 #[.pointer (some ⟨b, 0, none⟩), .pointer (some ⟨p, 0, none⟩)] w (Makes (.bool (decide (a.pa = n))) w) := by
 have a0 : w.cell? ⟨b, 5, none⟩ = some (.int .i64 a.pa) := hb.cell 5
 have p0 : w.cell? ⟨p, 0, none⟩ = some (.int .i64 n) := hp.cell 0
 clear hb hp
 have e : (a.pa == n) = decide (a.pa = n) := by by_cases h : a.pa = n <;> simp [h]
 generalize decide (a.pa = n) = t at *
 generalize a.pa = x at *
 go_enter Tryz.func203, Tryz.ntmps203
 go_wp2_with fail
 go_quiet (fail)
 go_wp2_with fail
 go_ret
 exact ⟨ret_bool (by first | rfl | exact e), ⟨rfl, rfl, rfl, Nat.le_refl _, fun _ _ => rfl⟩⟩
theorem indexP_find (p : Nat) {α : Type} (l : List α) (q : α → Bool) (av : Value) (ab : List (Nat × Value)) (w : World) (hrow : w.ownsRow 0 159 1 av l.length (ptrs ab)) (hl : l.length ≤ 1000)
    (hp : ∀ (W : World) (j : Nat) (x : Nat × Value) (a : α), Below w.heap.size w W → ab[j]? = some x → l[j]? = some a → Calls Tryz.prog 192 #[.pointer (some ⟨x.1, 0, none⟩), .pointer (some ⟨p, 0, none⟩)] W (Makes (.bool (q a)) W)) :
    Calls Tryz.prog 191 #[av, .func (.func 192) #[] #[.pointer (some ⟨p, 0, none⟩)]] w (Makes (.int .i64 (oix (l.findIdx? q))) w) := by
 obtain ⟨a, cap, rfl, hab, hr⟩ := ptr_row hrow
 have HR := qq hr; have HP := qq hp; have HA := qq hab
 clear hr hp hab hrow
 obtain ⟨n, hn⟩ : ∃ n, n = l.length := ⟨_, rfl⟩
 rw [← hn] at hl HR HA ⊢
 have HN := qq hn; clear hn
 go_enter Tryz.func191, Tryz.ntmps191
 go_wp2_with fail
 go_loopw [8] (fun i wr => ∃ k : Nat, k ≤ n ∧ i = .int .i64 (k : Nat) ∧ Hid (∀ (j : Nat) (h : j < l.length), j < k → q l[j] = false) ∧ Below w.heap.size w wr) (fun i _ => n - (intOf i).toNat)
 case atStart => exact ⟨0, by omega, by go_num, qq (fun j _ h => absurd h (by omega)), Below.refl _ _⟩
 case round =>
  obtain ⟨k, hk, rfl, HBE, hB⟩ := hrel
  by_cases hlt : k < n
  · have hks : k < l.length := by rw [← HN.out]; exact hlt
    obtain ⟨g, rfl, hg, hfz, hcell⟩ := HR.out (by omega)
    obtain ⟨x, hx⟩ : ∃ x, ab[k]? = some x := ⟨_, List.getElem?_eq_getElem (by rw [HA.out]; exact hlt)⟩
    have c0 : wr.cell? ⟨g, k, none⟩ = some (.pointer (some ⟨x.1, 0, none⟩)) := (hB.cell (p := ⟨g, k, none⟩) hg).trans (hcell k x hx)
    have hki : (k : Int) < (n : Int) := by omega
    have hk0 : (0 : Int) ≤ (k : Int) := by omega
    have hc := fun W hW => HP.out W k x l[k] hW hx (List.getElem?_eq_getElem hks)
    obtain ⟨t, ht⟩ : ∃ t, t = q l[k] := ⟨_, rfl⟩
    rw [← ht] at hc
    have HT := qq ht; have HC := qq hc
    clear ht hc hcell hx hfz
    obtain ⟨xb, xv⟩ := x
    dsimp only at c0 HC
    go_wp2_with fail
    refine (HC.out _ (below_then hB (by go_grown))).mono ?_
    rintro e w1 ⟨rfl, hb1⟩
    have hB1 : Below w.heap.size w w1 := below_then hB (below_then (by go_grown) hb1)
    cases t with
    | true =>
     go_wp2_with fail
     go_ret
     exact ⟨by rw [find_hit hks HBE.out HT.out.symm]; rfl, hB1⟩
    | false =>
     go_wp2_with fail
     all_goals (go_roundw <;> first | exact ⟨k + 1, by omega, by go_num, qq (fun j h hj => by
         rcases Nat.lt_or_eq_of_le (Nat.le_of_lt_succ hj) with h1 | h1
         · exact HBE.out j h h1
         · subst h1; exact HT.out.symm), hB1⟩ | (simp [intOf]; omega))
  · obtain rfl : k = n := by omega
    go_wp2_with fail
    go_ret
    exact ⟨by rw [find_miss (fun j h => HBE.out j h (by rw [HN.out]; exact h))]; rfl, hB⟩
theorem indexP_child (p : Nat) {α : Type} (l : List α) (q : α → Bool) (av : Value) (ab : List (Nat × Value)) (w : World) (hrow : w.ownsRow 0 159 1 av l.length (ptrs ab)) (hl : l.length ≤ 1000)
    (hp : ∀ (W : World) (j : Nat) (x : Nat × Value) (a : α), Below w.heap.size w W → ab[j]? = some x → l[j]? = some a → Calls Tryz.prog 203 #[.pointer (some ⟨x.1, 0, none⟩), .pointer (some ⟨p, 0, none⟩)] W (Makes (.bool (q a)) W)) :
    Calls Tryz.prog 191 #[av, .func (.func 203) #[] #[.pointer (some ⟨p, 0, none⟩)]] w (Makes (.int .i64 (oix (l.findIdx? q))) w) := by
 obtain ⟨a, cap, rfl, hab, hr⟩ := ptr_row hrow
 have HR := qq hr; have HP := qq hp; have HA := qq hab
 clear hr hp hab hrow
 obtain ⟨n, hn⟩ : ∃ n, n = l.length := ⟨_, rfl⟩
 rw [← hn] at hl HR HA ⊢
 have HN := qq hn; clear hn
 go_enter Tryz.func191, Tryz.ntmps191
 go_wp2_with fail
 go_loopw [8] (fun i wr => ∃ k : Nat, k ≤ n ∧ i = .int .i64 (k : Nat) ∧ Hid (∀ (j : Nat) (h : j < l.length), j < k → q l[j] = false) ∧ Below w.heap.size w wr) (fun i _ => n - (intOf i).toNat)
 case atStart => exact ⟨0, by omega, by go_num, qq (fun j _ h => absurd h (by omega)), Below.refl _ _⟩
 case round =>
  obtain ⟨k, hk, rfl, HBE, hB⟩ := hrel
  by_cases hlt : k < n
  · have hks : k < l.length := by rw [← HN.out]; exact hlt
    obtain ⟨g, rfl, hg, hfz, hcell⟩ := HR.out (by omega)
    obtain ⟨x, hx⟩ : ∃ x, ab[k]? = some x := ⟨_, List.getElem?_eq_getElem (by rw [HA.out]; exact hlt)⟩
    have c0 : wr.cell? ⟨g, k, none⟩ = some (.pointer (some ⟨x.1, 0, none⟩)) := (hB.cell (p := ⟨g, k, none⟩) hg).trans (hcell k x hx)
    have hki : (k : Int) < (n : Int) := by omega
    have hk0 : (0 : Int) ≤ (k : Int) := by omega
    have hc := fun W hW => HP.out W k x l[k] hW hx (List.getElem?_eq_getElem hks)
    obtain ⟨t, ht⟩ : ∃ t, t = q l[k] := ⟨_, rfl⟩
    rw [← ht] at hc
    have HT := qq ht; have HC := qq hc
    clear ht hc hcell hx hfz
    obtain ⟨xb, xv⟩ := x
    dsimp only at c0 HC
    go_wp2_with fail
    refine (HC.out _ (below_then hB (by go_grown))).mono ?_
    rintro e w1 ⟨rfl, hb1⟩
    have hB1 : Below w.heap.size w w1 := below_then hB (below_then (by go_grown) hb1)
    cases t with
    | true =>
     go_wp2_with fail
     go_ret
     exact ⟨by rw [find_hit hks HBE.out HT.out.symm]; rfl, hB1⟩
    | false =>
     go_wp2_with fail
     all_goals (go_roundw <;> first | exact ⟨k + 1, by omega, by go_num, qq (fun j h hj => by
         rcases Nat.lt_or_eq_of_le (Nat.le_of_lt_succ hj) with h1 | h1
         · exact HBE.out j h h1
         · subst h1; exact HT.out.symm), hB1⟩ | (simp [intOf]; omega))
  · obtain rfl : k = n := by omega
    go_wp2_with fail
    go_ret
    exact ⟨by rw [find_miss (fun j h => HBE.out j h (by rw [HN.out]; exact h))]; rfl, hB⟩
def aptr (L : SLoc) (o : Option Nat) : Value := .pointer (o.bind fun i => (L.ab[i]?).map fun x => (⟨x.1, 0, none⟩ : Addr))
theorem find_of (L : SLoc) (S : Sto) (n q : Int) (w : World) (h : StoreAt L S w) (hG : StoGood S) : Calls Tryz.prog 88 #[.pointer (some ⟨L.sb, 0, none⟩), .agg #[.int .i64 n, .int .i64 q]] w (Makes (aptr L (sfind S n q)) w) := by
 have hB := (Below.refl w.heap.size w).alloc (Nat.le_refl _) (.cells #[.int .i64 n, .int .i64 q] 36)
 have h1 := h.below hB
 have hbx := Blk.fresh w #[.int .i64 n, .int .i64 q] 36 _ rfl
 have hI := fun W (hW : Below w.heap.size w W) (hA : StoreAt L S W) (hx : Blk W w.heap.size #[.int .i64 n, .int .i64 q]) => indexP_find w.heap.size S.acts (fun a => decide (a.an = n ∧ a.aq = q)) L.av L.ab W hA.acts (by have := hG.acts; omega)
  (fun W' j x a hb hx' ha' => find1_of x.1 w.heap.size a x.2 n q W' ((hA.below hb).act j x a hx' ha').1 (hx.below hb))
 have q2 : ∀ W, StoreAt L S W → W.cell? ⟨L.sb, 2, none⟩ = some L.av := fun W hW => hW.blk.cell 2
 have hlt := h.blk.lt
 obtain ⟨a, cap, hv, hab, hr⟩ := ptr_row h1.acts
 have hfi : S.acts.findIdx? (fun a => decide (a.an = n ∧ a.aq = q)) = sfind S n q := rfl
 rw [hfi] at hI
 rw [hv] at hI q2
 have hle : ∀ i, sfind S n q = some i → i < S.acts.length := fun i hi => by
  unfold sfind at hi
  exact (List.findIdx?_eq_some_iff_getElem.1 hi).1
 obtain ⟨m, hm⟩ : ∃ m, m = S.acts.length := ⟨_, rfl⟩
 rw [← hm] at hI q2 hab hr hle
 have HI := qq (hI _ hB h1 hbx); have HQ := qq q2; have HH := qq h1; have HR := qq hr; have HB := qq hB
 have HAB := qq hab
 have c0 := q2 _ h
 cases hs : sfind S n q with
 | none =>
  rw [hs] at HI
  clear hs hI q2 h1 hr hB hbx hfi hv hm hle h hab
  dsimp only [oix] at HI
  dsimp only [aptr, Option.bind]
  go_enter Tryz.func88, Tryz.ntmps88
  go_wp2_with fail
  refine HI.out.mono ?_
  rintro e w1 ⟨rfl, hb1⟩
  go_wp2_with fail
  go_ret
  exact ⟨rfl, below_then HB.out hb1⟩
 | some i =>
  rw [hs] at HI
  have hil := hle i hs
  obtain ⟨g, rfl, hg, hfz, hcell⟩ := hr (by omega)
  obtain ⟨x, hx⟩ : ∃ x, L.ab[i]? = some x := ⟨_, List.getElem?_eq_getElem (by omega)⟩
  have hc := hcell i x hx
  have hap : aptr L (some i) = .pointer (some ⟨x.1, 0, none⟩) := by simp [aptr, hx]
  rw [hap]
  have HC := qq hc; have HG := qq hg
  clear hs hI q2 h1 hr hB hbx hfi hv hm hle h hab hx hap hcell hc hg hfz HR
  obtain ⟨xb, xv⟩ := x
  dsimp only [oix] at *
  have hi0 : (0 : Int) ≤ (i : Int) := by omega
  have hi1 : (i : Int) < (m : Int) := by omega
  go_enter Tryz.func88, Tryz.ntmps88
  go_wp2_with fail
  refine HI.out.mono ?_
  rintro e w1 ⟨rfl, hb1⟩
  have c1 := HQ.out _ (HH.out.below hb1)
  have c2 : w1.cell? ⟨g, i, none⟩ = some (.pointer (some ⟨xb, 0, none⟩)) := (hb1.cell (p := ⟨g, i, none⟩) HG.out).trans HC.out
  go_wp2_with fail
  go_ret
  exact ⟨rfl, below_then HB.out hb1⟩
theorem child_of (L : SLoc) (S : Sto) (pa : Int) (w : World) (h : StoreAt L S w) (hG : StoGood S) : Calls Tryz.prog 102 #[.pointer (some ⟨L.sb, 0, none⟩), .int .i64 pa] w (Makes (aptr L (if pa ≤ 0 then none else schild S pa)) w) := by
 have hB := (Below.refl w.heap.size w).alloc (Nat.le_refl _) (.cells #[.int .i64 pa] 3)
 have h1 := h.below hB
 have hbx := Blk.fresh w #[.int .i64 pa] 3 _ rfl
 have hI := fun W (hW : Below w.heap.size w W) (hA : StoreAt L S W) (hx : Blk W w.heap.size #[.int .i64 pa]) => indexP_child w.heap.size S.acts (fun a => decide (a.pa = pa)) L.av L.ab W hA.acts (by have := hG.acts; omega)
  (fun W' j x a hb hx' ha' => child1_of x.1 w.heap.size a x.2 pa W' ((hA.below hb).act j x a hx' ha').1 (hx.below hb))
 have q2 : ∀ W, StoreAt L S W → W.cell? ⟨L.sb, 2, none⟩ = some L.av := fun W hW => hW.blk.cell 2
 have hlt := h.blk.lt
 obtain ⟨a, cap, hv, hab, hr⟩ := ptr_row h1.acts
 have hfi : S.acts.findIdx? (fun a => decide (a.pa = pa)) = schild S pa := rfl
 rw [hfi] at hI
 rw [hv] at hI q2
 have hle : ∀ i, schild S pa = some i → i < S.acts.length := fun i hi => by
  unfold schild at hi
  exact (List.findIdx?_eq_some_iff_getElem.1 hi).1
 obtain ⟨m, hm⟩ : ∃ m, m = S.acts.length := ⟨_, rfl⟩
 rw [← hm] at hI q2 hab hr hle
 have HI := qq (hI _ hB h1 hbx); have HQ := qq q2; have HH := qq h1; have HR := qq hr; have HB := qq hB
 have HAB := qq hab
 have HX := qq hbx
 have c0 := q2 _ h
 by_cases hp : pa ≤ 0
 · rw [if_pos hp]
   obtain ⟨o, ho⟩ : ∃ o, o = schild S pa := ⟨_, rfl⟩
   rw [← ho] at HI
   clear ho hI q2 h1 hr hB hbx hfi hv hm hle h hab
   dsimp only [aptr, Option.bind]
   go_enter Tryz.func102, Tryz.ntmps102
   go_wp2_with fail
   refine HI.out.mono ?_
   rintro e w1 ⟨rfl, hb1⟩
   have c1 : w1.cell? ⟨w.heap.size, 0, none⟩ = some (.int .i64 pa) := (HX.out.below hb1).cell 0
   go_wp2_with fail
   go_ret
   exact ⟨rfl, below_then HB.out hb1⟩
 · rw [if_neg hp]
   cases hs : schild S pa with
   | none =>
    rw [hs] at HI
    clear hs hI q2 h1 hr hB hbx hfi hv hm hle h hab
    dsimp only [oix] at HI
    dsimp only [aptr, Option.bind]
    go_enter Tryz.func102, Tryz.ntmps102
    go_wp2_with fail
    refine HI.out.mono ?_
    rintro e w1 ⟨rfl, hb1⟩
    have c1 : w1.cell? ⟨w.heap.size, 0, none⟩ = some (.int .i64 pa) := (HX.out.below hb1).cell 0
    go_wp2_with fail
    go_ret
    exact ⟨rfl, below_then HB.out hb1⟩
   | some i =>
    rw [hs] at HI
    have hil := hle i hs
    obtain ⟨g, rfl, hg, hfz, hcell⟩ := hr (by omega)
    obtain ⟨x, hx⟩ : ∃ x, L.ab[i]? = some x := ⟨_, List.getElem?_eq_getElem (by omega)⟩
    have hc := hcell i x hx
    have hap : aptr L (some i) = .pointer (some ⟨x.1, 0, none⟩) := by simp [aptr, hx]
    rw [hap]
    have HC := qq hc; have HG := qq hg
    clear hs hI q2 h1 hr hB hbx hfi hv hm hle h hab hx hap hcell hc hg hfz HR
    obtain ⟨xb, xv⟩ := x
    dsimp only [oix] at *
    have hi0 : (0 : Int) ≤ (i : Int) := by omega
    have hi1 : (i : Int) < (m : Int) := by omega
    go_enter Tryz.func102, Tryz.ntmps102
    go_wp2_with fail
    refine HI.out.mono ?_
    rintro e w1 ⟨rfl, hb1⟩
    have c3 : w1.cell? ⟨w.heap.size, 0, none⟩ = some (.int .i64 pa) := (HX.out.below hb1).cell 0
    have c1 := HQ.out _ (HH.out.below hb1)
    have c2 : w1.cell? ⟨g, i, none⟩ = some (.pointer (some ⟨xb, 0, none⟩)) := (hb1.cell (p := ⟨g, i, none⟩) HG.out).trans HC.out
    go_wp2_with fail
    go_ret
    exact ⟨rfl, below_then HB.out hb1⟩
def fcp (a b : Int) : Int := if a < b then -1 else if b < a then 1 else 0
theorem notnan_of (a : Int) (w : World) : Calls Tryz.prog 289 #[.int .i64 a] w (Gives (.bool false) w) := by
 go_enter Tryz.func289, Tryz.ntmps289
 go_wp2
 go_ret
 exact ⟨ret_bool (by simp), rfl⟩
theorem cmpInt_of (a b : Int) (w : World) : Calls Tryz.prog 253 #[.int .i64 a, .int .i64 b] w (Gives (.int .i64 (fcp a b)) w) := by
 have HN := qq notnan_of
 unfold fcp
 by_cases h1 : a < b
 · rw [if_pos h1]
   go_enter Tryz.func253, Tryz.ntmps253
   go_wp2_with (go_at_call 289; refine (HN.out _ _).mono ?_; rintro e w1 ⟨rfl, rfl⟩)
   go_ret
   exact ⟨rfl, rfl⟩
 rw [if_neg h1]
 by_cases h2 : b < a
 · rw [if_pos h2]
   go_enter Tryz.func253, Tryz.ntmps253
   go_wp2_with (go_at_call 289; refine (HN.out _ _).mono ?_; rintro e w1 ⟨rfl, rfl⟩)
   go_ret
   exact ⟨rfl, rfl⟩
 rw [if_neg h2]
 go_enter Tryz.func253, Tryz.ntmps253
 go_wp2_with (go_at_call 289; refine (HN.out _ _).mono ?_; rintro e w1 ⟨rfl, rfl⟩)
 go_ret
 exact ⟨rfl, rfl⟩
theorem forder_eq (x y : Nat) (hx : F64 x) (hy : F64 y) : forder x y = if flt x y = true then -1 else if flt y x = true then 1 else fcp (fclass x) (fclass y) := by
 unfold F64 at hx hy
 unfold forder fplace flt fclass fcp
 cases hnx : fnan x <;> cases hny : fnan y
 · simp only [Bool.not_false, Bool.true_and, decide_eq_true_eq, Bool.false_eq_true, if_false]
   unfold fkey
   have nx : ¬ 9218868437227405312 < x % 9223372036854775808 := by unfold fnan at hnx; simpa using hnx
   have ny : ¬ 9218868437227405312 < y % 9223372036854775808 := by unfold fnan at hny; simpa using hny
   repeat' split
   all_goals omega
 · simp only [Bool.not_false, Bool.not_true, Bool.true_and, Bool.and_false, Bool.false_and, Bool.false_eq_true, if_false, if_true]
   repeat' split
   all_goals omega
 · simp only [Bool.not_false, Bool.not_true, Bool.true_and, Bool.and_false, Bool.false_and, Bool.false_eq_true, if_false, if_true]
   repeat' split
   all_goals omega
 · simp
theorem forder_of (x y : Nat) (hx : F64 x) (hy : F64 y) (w : World) : Calls Tryz.prog 189 #[flV x, flV y] w (Gives (.int .i64 (forder x y)) w) := by
 rw [forder_eq x y hx hy]
 have e1 := run_flt x y hx hy
 have e2 := run_fgt x y hx hy
 have HX := qq (fun W => class_of x hx W)
 have HY := qq (fun W => class_of y hy W)
 have HC := qq cmpInt_of
 generalize fclass x = a at *
 generalize fclass y = b at *
 generalize flt x y = t at *
 generalize flt y x = u at *
 clear hx hy
 cases t with
 | true =>
  go_enter Tryz.func189, Tryz.ntmps189
  go_wp2
  go_ret
  exact ⟨rfl, rfl⟩
 | false =>
  cases u with
  | true =>
   simp only [Bool.false_eq_true, if_false, if_true]
   go_enter Tryz.func189, Tryz.ntmps189
   go_wp2
   go_ret
   exact ⟨rfl, rfl⟩
  | false =>
   simp only [Bool.false_eq_true, if_false]
   go_enter Tryz.func189, Tryz.ntmps189
   go_wp2_with fail
   refine (HX.out _).mono ?_; rintro e w1 ⟨rfl, rfl⟩
   go_wp2_with fail
   refine (HY.out _).mono ?_; rintro e w1 ⟨rfl, rfl⟩
   go_wp2_with fail
   refine (HC.out _ _ _).mono ?_; rintro e w1 ⟨rfl, rfl⟩
   go_wp2
   go_ret
   exact ⟨rfl, rfl⟩
theorem within_of (n l m : Int) (w : World) : Calls Tryz.prog 249 #[.int .i64 n, .int .i64 l, .int .i64 m] w (Gives (.bool (decide (l ≤ n ∧ n ≤ m))) w) := by
 by_cases h1 : l ≤ n
 · by_cases h2 : n ≤ m
   · rw [decide_eq_true ⟨h1, h2⟩]
     go_enter Tryz.func249, Tryz.ntmps249
     go_wp2_with fail
     go_ret
     exact ⟨rfl, rfl⟩
   · rw [decide_eq_false (fun h => h2 h.2)]
     go_enter Tryz.func249, Tryz.ntmps249
     go_wp2_with fail
     go_ret
     exact ⟨rfl, rfl⟩
 · rw [decide_eq_false (fun h => h1 h.1)]
   go_enter Tryz.func249, Tryz.ntmps249
   go_wp2_with fail
   go_ret
   exact ⟨rfl, rfl⟩
theorem isReg_of (n : Int) (w : World) : Calls Tryz.prog 250 #[.int .i64 n] w (Gives (.bool (decide (0 ≤ n ∧ n ≤ 5))) w) := by
 have HW := qq (within_of n 0 5 w)
 go_enter Tryz.func250, Tryz.ntmps250
 go_wp2_with fail
 refine HW.out.mono ?_
 rintro e w1 ⟨rfl, rfl⟩
 go_wp2_with fail
 go_ret
 exact ⟨ret_bool (by simp), rfl⟩
theorem isPart_of (n : Int) (w : World) : Calls Tryz.prog 251 #[.int .i64 n] w (Gives (.bool (decide (0 ≤ n ∧ n ≤ 7))) w) := by
 have HW := qq (within_of n 0 7 w)
 go_enter Tryz.func251, Tryz.ntmps251
 go_wp2_with fail
 refine HW.out.mono ?_
 rintro e w1 ⟨rfl, rfl⟩
 go_wp2_with fail
 go_ret
 exact ⟨ret_bool (by simp), rfl⟩
theorem isState_of (s h : Int) (w : World) : Calls Tryz.prog 252 #[.int .i64 s, .int .i64 h] w (Gives (.bool (stOk s h)) w) := by
 have HW := qq (within_of h 4 8 w)
 have HX := qq (within_of s 1 13 w)
 unfold stOk
 by_cases h1 : s = 14
 · rw [if_pos h1]
   have e1 : (s == 14) = true := by simpa using h1
   by_cases h2 : h = 1
   · have e2 : (h == 1) = true := by simpa using h2
     rw [decide_eq_true (Or.inl h2)]
     clear h1 h2
     go_enter Tryz.func252, Tryz.ntmps252
     go_wp2_with fail
     go_ret
     exact ⟨rfl, rfl⟩
   · have e2 : (h == 1) = false := by simpa using h2
     have hd : decide (h = 1 ∨ 4 ≤ h ∧ h ≤ 8) = decide (4 ≤ h ∧ h ≤ 8) := decide_eq_decide.2 ⟨fun x => x.resolve_left h2, Or.inr⟩
     rw [hd]
     clear h1 h2 hd
     generalize decide (4 ≤ h ∧ h ≤ 8) = d at *
     go_enter Tryz.func252, Tryz.ntmps252
     go_wp2_with fail
     refine HW.out.mono ?_
     rintro e w1 ⟨rfl, rfl⟩
     go_wp2_with fail
     go_ret
     exact ⟨rfl, rfl⟩
 · rw [if_neg h1]
   have e1 : (s == 14) = false := by simpa using h1
   by_cases h2 : 1 ≤ s ∧ s ≤ 13
   · rw [decide_eq_true h2] at HX
     have hd : decide (1 ≤ s ∧ s ≤ 13 ∧ h = 0) = decide (h = 0) := decide_eq_decide.2 ⟨fun x => x.2.2, fun x => ⟨h2.1, h2.2, x⟩⟩
     rw [hd]
     clear h1 h2 hd
     have e2 : (h == 0) = decide (h = 0) := by by_cases h0 : h = 0 <;> simp [h0]
     generalize decide (h = 0) = d at *
     go_enter Tryz.func252, Tryz.ntmps252
     go_wp2_with fail
     refine HX.out.mono ?_
     rintro e w1 ⟨rfl, rfl⟩
     go_wp2_with fail
     go_ret
     exact ⟨rfl, rfl⟩
   · rw [decide_eq_false h2] at HX
     have hd : decide (1 ≤ s ∧ s ≤ 13 ∧ h = 0) = false := decide_eq_false (fun x => h2 ⟨x.1, x.2.1⟩)
     rw [hd]
     clear h1 h2 hd
     go_enter Tryz.func252, Tryz.ntmps252
     go_wp2_with fail
     refine HX.out.mono ?_
     rintro e w1 ⟨rfl, rfl⟩
     go_wp2_with fail
     go_ret
     exact ⟨rfl, rfl⟩
theorem isOutcome_of (n : Int) (w : World) : Calls Tryz.prog 222 #[.int .i64 n] w (Gives (.bool (decide (n = 1 ∨ n = 2))) w) := by
 by_cases h1 : n = 1
 · have e1 : (n == 1) = true := by simpa using h1
   rw [decide_eq_true (Or.inl h1)]
   clear h1
   go_enter Tryz.func222, Tryz.ntmps222
   go_wp2_with fail
   go_ret
   exact ⟨rfl, rfl⟩
 · have e1 : (n == 1) = false := by simpa using h1
   have hd : (n == 2) = decide (n = 1 ∨ n = 2) := by
    rw [show decide (n = 1 ∨ n = 2) = decide (n = 2) from decide_eq_decide.2 ⟨fun x => x.resolve_left h1, Or.inr⟩]
    by_cases h0 : n = 2 <;> simp [h0]
   clear h1
   generalize decide (n = 1 ∨ n = 2) = d at *
   go_enter Tryz.func222, Tryz.ntmps222
   go_wp2_with fail
   go_ret
   exact ⟨rfl, rfl⟩
theorem forder_self (x : Nat) (hx : F64 x) (hd : fdelay x = true) : (forder (fplain x) x == 0) = decide (fplain x = x) := by
 have hn : fnan x = false := by
  unfold fdelay at hd
  simp only [Bool.and_eq_true, Bool.not_eq_true'] at hd
  exact hd.1
 unfold fplain
 rw [hn]
 simp only [Bool.false_eq_true, if_false]
 by_cases h0 : x = 9223372036854775808
 · subst h0
   decide +kernel
 · rw [if_neg h0, decide_eq_true rfl]
   simp [forder]
theorem scopeRight_of (n q oc dp : Int) (ex : Nat) (hx : F64 ex) (ea : Int → Addr) (w : World) (h : EnvS ea w) :
    Calls Tryz.prog 133 #[.agg #[.int .i64 n, .int .i64 q, .int .i64 oc, .int .i64 dp, flV ex]] w (Makes (.bool (ctxOk n q oc dp ex)) w) := by
 have HK := qq (Blk.fresh w #[.int .i64 n, .int .i64 q, .int .i64 oc, .int .i64 dp, flV ex] 48 _ rfl)
 have HB := qq ((Below.refl w.heap.size w).alloc (Nat.le_refl _) (.cells #[.int .i64 n, .int .i64 q, .int .i64 oc, .int .i64 dp, flV ex] 48))
 have HE := qq (h.below HB.out)
 have HO := qq (fun W => forder_of (fplain ex) ex (by unfold fplain; split <;> (try split) <;> first | exact hx | (unfold F64; omega)) hx W)
 have HI := qq (fun W hW => idRight_of n q ea W hW)
 have HU := qq (fun W => isOutcome_of oc W)
 unfold ctxOk
 cases hd : fdelay ex with
 | false =>
  have HD := qq (fun W (hW : EnvS ea W) => delay_no ex hx hd (ea 4) W hW.e.e4)
  clear h hd
  go_enter Tryz.func133, Tryz.ntmps133
  go_wp2_with fail
  refine (HD.out _ HE.out).mono ?_
  rintro e w1 ⟨rfl, hb1⟩
  go_wp2_with fail
  go_ret
  exact ⟨rfl, below_then HB.out hb1⟩
 | true =>
  have HD := qq (fun W => delay_yes ex hx hd W)
  have hf := forder_self ex hx hd
  clear h hd
  obtain ⟨o, ho⟩ : ∃ o, o = forder (fplain ex) ex := ⟨_, rfl⟩
  rw [← ho] at HO hf
  clear ho
  obtain ⟨qc, fc⟩ := HK.out.out
  by_cases h1 : fplain ex = ex
  · rw [decide_eq_true h1] at hf ⊢
    clear h1
    cases hi : idOk n q
    all_goals rw [hi] at HI
    · clear hi
      go_enter Tryz.func133, Tryz.ntmps133
      go_wp2_with fail
      refine (HD.out _).mono ?_
      rintro e w1 ⟨rfl, rfl⟩
      go_wp2_with fail
      refine (HO.out _).mono ?_
      rintro e w1 ⟨rfl, rfl⟩
      go_wp2_with fail
      refine (HI.out _ HE.out).mono ?_
      rintro e w1 ⟨rfl, hb1⟩
      clear qc fc
      obtain ⟨qc, fc⟩ := (HK.out.below hb1).out
      go_wp2_with fail
      go_ret
      first | exact ⟨rfl, below_then HB.out hb1⟩ | exact ⟨ret_bool (by simp; omega), below_then HB.out hb1⟩
    · clear hi
      by_cases h2 : oc = 1 ∨ oc = 2
      · rw [decide_eq_true h2] at HU
        by_cases h3 : 0 ≤ dp
        · by_cases h4 : dp ≤ 3
          · rw [decide_eq_true ⟨h2, h3, h4⟩]
            clear h2
            go_enter Tryz.func133, Tryz.ntmps133
            go_wp2_with fail
            refine (HD.out _).mono ?_
            rintro e w1 ⟨rfl, rfl⟩
            go_wp2_with fail
            refine (HO.out _).mono ?_
            rintro e w1 ⟨rfl, rfl⟩
            go_wp2_with fail
            refine (HI.out _ HE.out).mono ?_
            rintro e w1 ⟨rfl, hb1⟩
            clear qc fc
            obtain ⟨qc, fc⟩ := (HK.out.below hb1).out
            go_wp2_with fail
            refine (HU.out _).mono ?_
            rintro e w2 ⟨rfl, rfl⟩
            go_wp2_with fail
            go_ret
            first | exact ⟨rfl, below_then HB.out hb1⟩ | exact ⟨ret_bool (by simp; omega), below_then HB.out hb1⟩
          · rw [decide_eq_false (fun h => h4 h.2.2)]
            clear h2
            go_enter Tryz.func133, Tryz.ntmps133
            go_wp2_with fail
            refine (HD.out _).mono ?_
            rintro e w1 ⟨rfl, rfl⟩
            go_wp2_with fail
            refine (HO.out _).mono ?_
            rintro e w1 ⟨rfl, rfl⟩
            go_wp2_with fail
            refine (HI.out _ HE.out).mono ?_
            rintro e w1 ⟨rfl, hb1⟩
            clear qc fc
            obtain ⟨qc, fc⟩ := (HK.out.below hb1).out
            go_wp2_with fail
            refine (HU.out _).mono ?_
            rintro e w2 ⟨rfl, rfl⟩
            go_wp2_with fail
            go_ret
            first | exact ⟨rfl, below_then HB.out hb1⟩ | exact ⟨ret_bool (by simp; omega), below_then HB.out hb1⟩
        · rw [decide_eq_false (fun h => h3 h.2.1)]
          clear h2
          go_enter Tryz.func133, Tryz.ntmps133
          go_wp2_with fail
          refine (HD.out _).mono ?_
          rintro e w1 ⟨rfl, rfl⟩
          go_wp2_with fail
          refine (HO.out _).mono ?_
          rintro e w1 ⟨rfl, rfl⟩
          go_wp2_with fail
          refine (HI.out _ HE.out).mono ?_
          rintro e w1 ⟨rfl, hb1⟩
          clear qc fc
          obtain ⟨qc, fc⟩ := (HK.out.below hb1).out
          go_wp2_with fail
          refine (HU.out _).mono ?_
          rintro e w2 ⟨rfl, rfl⟩
          go_wp2_with fail
          go_ret
          first | exact ⟨rfl, below_then HB.out hb1⟩ | exact ⟨ret_bool (by simp; omega), below_then HB.out hb1⟩
      · rw [decide_eq_false h2] at HU
        rw [decide_eq_false (fun h => h2 h.1)]
        clear h2
        go_enter Tryz.func133, Tryz.ntmps133
        go_wp2_with fail
        refine (HD.out _).mono ?_
        rintro e w1 ⟨rfl, rfl⟩
        go_wp2_with fail
        refine (HO.out _).mono ?_
        rintro e w1 ⟨rfl, rfl⟩
        go_wp2_with fail
        refine (HI.out _ HE.out).mono ?_
        rintro e w1 ⟨rfl, hb1⟩
        clear qc fc
        obtain ⟨qc, fc⟩ := (HK.out.below hb1).out
        go_wp2_with fail
        refine (HU.out _).mono ?_
        rintro e w2 ⟨rfl, rfl⟩
        go_wp2_with fail
        go_ret
        first | exact ⟨rfl, below_then HB.out hb1⟩ | exact ⟨ret_bool (by simp; omega), below_then HB.out hb1⟩
  · rw [decide_eq_false h1] at hf ⊢
    clear h1
    go_enter Tryz.func133, Tryz.ntmps133
    go_wp2_with fail
    refine (HD.out _).mono ?_
    rintro e w1 ⟨rfl, rfl⟩
    go_wp2_with fail
    refine (HO.out _).mono ?_
    rintro e w1 ⟨rfl, rfl⟩
    go_wp2_with fail
    go_ret
    exact ⟨rfl, HB.out⟩
open Go.RowKit Go.Shelf
theorem bits_of (x : Nat) (hx : F64 x) (w : World) : Calls Tryz.prog 217 #[flV x] w (Gives (.int .u64 (fplain x : Nat)) w) := by
 have HP := qq (fun W => plain_of x hx W)
 have hb := bits_run (fplain x)
 go_enter Tryz.func217, Tryz.ntmps217
 go_wp2_with fail
 refine (HP.out _).mono ?_
 rintro e w1 ⟨rfl, rfl⟩
 go_wp2_with fail
 go_ret
 exact ⟨rfl, rfl⟩
theorem fl0 (d : Nat) (w : World) : (Op.equalIn (d + 1) 37 (.float .f64 0) (.float .f64 0)).run Tryz.prog w = .ok true w := by
 have hz : Op.floatEq FloatKind.f64 0 0 = true := by kernel_rfl
 simp [Op.equalIn, run_underlying Tryz.underlying37, hz]
theorem fl00 (w : World) : (Op.equalIn 9999 37 (.float .f64 0) (.float .f64 0)).run Tryz.prog w = .ok true w := fl0 9998 w
theorem factEq (T : TypeId) (hT : T = 39) (a0 a1 a2 a3 a4 a5 a6 a7 a8 a9 a10 a11 a12 b0 b1 b2 b3 b4 b5 b6 b7 b8 b9 b10 b11 b12 : Int) (w : World) :
    (binOp .eql T (.agg #[.int .i64 a0, .int .i64 a1, .int .i64 a2, .int .i64 a3, .int .i64 a4, .int .i64 a5, .int .i64 a6, .int .i64 a7, .int .i64 a8, .int .i64 a9, .int .i64 a10, .int .i64 a11, .int .i64 a12, .float .f64 0]) (.agg #[.int .i64 b0, .int .i64 b1, .int .i64 b2, .int .i64 b3, .int .i64 b4, .int .i64 b5, .int .i64 b6, .int .i64 b7, .int .i64 b8, .int .i64 b9, .int .i64 b10, .int .i64 b11, .int .i64 b12, .float .f64 0])).run Tryz.prog w = .ok (.bool (a0 == b0 && (a1 == b1 && (a2 == b2 && (a3 == b3 && (a4 == b4 && (a5 == b5 && (a6 == b6 && (a7 == b7 && (a8 == b8 && (a9 == b9 && (a10 == b10 && (a11 == b11 && (a12 == b12)))))))))))))) w := by
 subst hT
 have hz := fl00
 go_simp
 by_cases h0 : a0 = b0
 · rw [if_pos h0, beq_iff_eq.2 h0]
   by_cases h1 : a1 = b1
   · rw [if_pos h1, beq_iff_eq.2 h1]
     by_cases h2 : a2 = b2
     · rw [if_pos h2, beq_iff_eq.2 h2]
       by_cases h3 : a3 = b3
       · rw [if_pos h3, beq_iff_eq.2 h3]
         by_cases h4 : a4 = b4
         · rw [if_pos h4, beq_iff_eq.2 h4]
           by_cases h5 : a5 = b5
           · rw [if_pos h5, beq_iff_eq.2 h5]
             by_cases h6 : a6 = b6
             · rw [if_pos h6, beq_iff_eq.2 h6]
               by_cases h7 : a7 = b7
               · rw [if_pos h7, beq_iff_eq.2 h7]
                 by_cases h8 : a8 = b8
                 · rw [if_pos h8, beq_iff_eq.2 h8]
                   by_cases h9 : a9 = b9
                   · rw [if_pos h9, beq_iff_eq.2 h9]
                     by_cases h10 : a10 = b10
                     · rw [if_pos h10, beq_iff_eq.2 h10]
                       by_cases h11 : a11 = b11
                       · rw [if_pos h11, beq_iff_eq.2 h11]
                         by_cases h12 : a12 = b12 <;> simp [h12]
                       · simp [h11]
                     · simp [h10]
                   · simp [h9]
                 · simp [h8]
               · simp [h7]
             · simp [h6]
           · simp [h5]
         · simp [h4]
       · simp [h3]
     · simp [h2]
   · simp [h1]
 · simp [h0]
end Go.Proofs.YtlkajejbfojkeaaGreatDoor
