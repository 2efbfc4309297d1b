/- LeaQ, Acts, LwLOnce, ParB, LwLAns, FlOpen, OpF, Sent, Errs, WrapS, LaidS, OpG, LeadAnswersL, JoinS, LeadAnswersJ -/
import Derived.Test.YtlkajejbfojkeaaGreatDoorVRstEToLdH
import Derived.ChangeArms
import Derived.Deep.Slices
import Derived.ProofKit
import Derived.LaidMore
import Derived.OpenShut
import Derived.Stop.Joined
import Derived.Carry
import Derived.SevenTiedAt
import Derived.HandedShaped
import Derived.Shelf.Vars
import Derived.Lib.LaidTab
import Derived.Lay
import Derived.JoinedOf
set_option linter.unusedSimpArgs false
set_option linter.unusedVariables false
set_option maxRecDepth 100000
set_option maxHeartbeats 16000000
namespace Go.Proofs.YtlkajejbfojkeaaGreatDoor
theorem ans_right0 {m : SMsg} {k nd : Int} (hm : msgOk m = true) (hto : m.to = nd) (hk : 1 ≤ k ∧ k ≤ 14) : rightTo (ans m k 0) nd m.fr m.an m.aq m.pt := by
 obtain ⟨m1, m2, m3, m4, m5, m6, m7, m8⟩ := msgOk_iff.1 hm
 have hr := rg5 (k := m.k)
 refine ⟨msgOk_iff.2 ⟨?_, m3, m2, m4, ?_, m6, ?_, ?_⟩, hto, rfl, rfl, rfl, rfl⟩
 · show 1 ≤ k ∧ k ≤ 19; omega
 · show 0 ≤ m.rg ∧ m.rg ≤ rgHi k
   unfold rgHi; rw [if_neg (by omega)]; omega
 · show prLo k ≤ 0 ∧ 0 ≤ prHi k
   unfold prLo prHi; rw [if_neg (by omega), if_neg (by omega)]; omega
 · show coLo k ≤ 0 ∧ 0 ≤ coHi k
   unfold coLo coHi; rw [if_neg (by omega), if_neg (by omega), if_neg (by omega), if_neg (by omega)]; omega
theorem lMsg_right {S : Sto} {a : SAct} {r : SReg} {rg k : Int} (hS : StoGood S) (ha : a ∈ S.acts) (hr : r ∈ a.regs) (hrg : 0 ≤ rg ∧ rg ≤ 5) (hk : 1 ≤ k ∧ k ≤ 14) : rightTo (lMsg S a r rg k) S.node r.n a.an a.aq r.p := by
 have hA := hS.act a ha
 obtain ⟨r1, r2, r3, r4, _, _⟩ := hA.reg r hr
 have hid : idOk a.an a.aq = true := (idOk_iff _ _).2 (ctxOk_id hA.ctx)
 refine ⟨msgOk_iff.2 ⟨?_, hS.node, ⟨r1, r2⟩, hid, ?_, ⟨r3, r4⟩, ?_, ?_⟩, rfl, rfl, rfl, rfl, rfl⟩
 · show 1 ≤ k ∧ k ≤ 19; omega
 · show 0 ≤ rg ∧ rg ≤ rgHi k
   unfold rgHi; rw [if_neg (by omega)]; omega
 · show prLo k ≤ 0 ∧ 0 ≤ prHi k
   unfold prLo prHi; rw [if_neg (by omega), if_neg (by omega)]; omega
 · show coLo k ≤ 0 ∧ 0 ≤ coHi k
   unfold coLo coHi; rw [if_neg (by omega), if_neg (by omega), if_neg (by omega), if_neg (by omega)]; omega
theorem lBack_right {m : SMsg} {rg nd : Int} (hm : msgOk m = true) (hk : m.k = 17) (hto : m.to = nd) (hrg : 0 ≤ rg ∧ rg ≤ 5) : rightTo (lBack m rg m.pr) nd m.fr m.an m.aq m.pt := by
 obtain ⟨m1, m2, m3, m4, m5, m6, m7, m8⟩ := msgOk_iff.1 hm
 refine ⟨msgOk_iff.2 ⟨?_, m3, m2, m4, ?_, m6, ?_, ?_⟩, hto, rfl, rfl, rfl, rfl⟩
 · show (1 : Int) ≤ 18 ∧ (18 : Int) ≤ 19; omega
 · show 0 ≤ rg ∧ rg ≤ rgHi 18
   unfold rgHi; rw [if_neg (by omega)]; omega
 · show prLo 18 ≤ m.pr ∧ m.pr ≤ prHi 18
   rw [hk] at m7
   exact m7
 · show coLo 18 ≤ 0 ∧ 0 ≤ coHi 18
   decide
def upRight (x : MSeat) (de k : Int) : Bool := decide ((lEff x de k).send = 0 ∨ 1 ≤ (lEff x de k).send ∧ (lEff x de k).send ≤ 14) && decide (0 ≤ (lEff x de k).fault ∧ (lEff x de k).fault ≤ 5)
theorem upRight_all : (seatList.all fun x => x.d == 2 || !mRight x || ([0, 2] : List Int).all fun de => ([1, 3, 4, 5, 6, 7, 8] : List Int).all fun k => upRight x de k) = true := by decide +kernel
theorem upRight_in {x : MSeat} {de k : Int} (h : mRight x = true) (hd : x.d = 1) (hk : isUp k = true) : ((lEff x de k).send = 0 ∨ 1 ≤ (lEff x de k).send ∧ (lEff x de k).send ≤ 14) ∧ 0 ≤ (lEff x de k).fault ∧ (lEff x de k).fault ≤ 5 := by
 have h1 := List.all_eq_true.1 upRight_all x (seat_mem h)
 rw [h, hd] at h1
 have hkm : k ∈ ([1, 3, 4, 5, 6, 7, 8] : List Int) := by
  have : k = 1 ∨ 3 ≤ k ∧ k ≤ 8 := by simpa [isUp] using hk
  simp; omega
 have h0 : ∀ de ∈ ([0, 2] : List Int), upRight x de k = true := fun de hde => List.all_eq_true.1 (List.all_eq_true.1 (show (([0, 2] : List Int).all fun de => ([1, 3, 4, 5, 6, 7, 8] : List Int).all fun k => upRight x de k) = true by simpa using h1) de hde) k hkm
 by_cases h2 : de = 2
 · subst h2
   have := h0 2 (by simp)
   unfold upRight at this
   simpa using this
 · have he : lEff x de k = lEff x 0 k := by
    unfold lEff
    rw [if_neg (by rintro ⟨_, _, e⟩; exact h2 e), if_neg (by rintro ⟨_, _, e⟩; revert e; decide)]
   have := h0 0 (by simp)
   unfold upRight at this
   rw [he]
   simpa using this
theorem lTell_right {S : Sto} {m : SMsg} {now : Nat} (hS : StoGood S) (hm : msgOk m = true) (hto : m.to = S.node) : ∀ x ∈ (lTell S m now).ms, rightTo x S.node m.fr m.an m.aq m.pt := by
 obtain ⟨m1, m2, m3, m4, m5, m6, m7, m8⟩ := msgOk_iff.1 hm
 have hr5 := rg5 (k := m.k)
 intro x hx
 unfold lTell at hx
 rw [if_neg (by simpa using hto)] at hx
 by_cases h17 : m.k = 17
 · rw [if_pos h17] at hx
   unfold lRegister at hx
   cases hg : lGet S m.an m.aq with
   | none =>
    rw [hg] at hx
    obtain rfl := List.mem_singleton.1 hx
    exact ans_right hm hto (.inr ⟨rfl, by omega, by omega⟩)
   | some ia =>
    obtain ⟨i, a⟩ := ia
    obtain ⟨_, _, g3, _, _⟩ := lGet_some hg
    have h6 := (hS.act a g3).len
    rw [hg] at hx
    dsimp only at hx
    cases hi : a.regs.findIdx? fun r => decide (r.n = m.fr ∧ r.p = m.pt) with
    | some j =>
     rw [hi] at hx
     dsimp only at hx
     obtain ⟨hj, _⟩ := List.findIdx?_eq_some_iff_getElem.1 hi
     rw [List.getElem?_eq_getElem hj] at hx
     dsimp only at hx
     split at hx
     · obtain rfl := List.mem_singleton.1 hx
       exact ans_right hm hto (.inr ⟨rfl, by omega, by omega⟩)
     · obtain rfl := List.mem_singleton.1 hx
       exact lBack_right hm h17 hto ⟨by omega, by omega⟩
    | none =>
     rw [hi] at hx
     dsimp only at hx
     split at hx
     · rename_i ht
       obtain rfl := List.mem_singleton.1 hx
       have hl : a.regs.length < 6 := by
        unfold lTakes at ht
        simp only [Bool.and_eq_true, decide_eq_true_eq] at ht
        exact ht.2.2.2
       exact lBack_right hm h17 hto ⟨by omega, by omega⟩
     · obtain rfl := List.mem_singleton.1 hx
       exact ans_right hm hto (.inr ⟨rfl, by omega, by omega⟩)
 rw [if_neg h17] at hx
 split at hx
 · cases hx
 rename_i hup
 cases hg : lGet S m.an m.aq with
 | none =>
  rw [hg] at hx
  dsimp only at hx
  unfold lGone at hx
  split at hx
  · obtain rfl := List.mem_singleton.1 hx; exact ans_right hm hto (.inr ⟨rfl, by omega, by omega⟩)
  split at hx
  · obtain rfl := List.mem_singleton.1 hx; exact ans_right hm hto (.inl ⟨rfl, by omega, by omega⟩)
  split at hx
  · obtain rfl := List.mem_singleton.1 hx; exact ans_right0 hm hto (by omega)
  split at hx
  · obtain rfl := List.mem_singleton.1 hx; exact ans_right0 hm hto (by omega)
  split at hx
  · obtain rfl := List.mem_singleton.1 hx; exact ans_right0 hm hto (by omega)
  · cases hx
 | some ia =>
  obtain ⟨i, a⟩ := ia
  obtain ⟨_, _, g3, g4, g5⟩ := lGet_some hg
  rw [hg] at hx
  dsimp only at hx
  cases hrg : lReg a m.rg with
  | none =>
   rw [hrg] at hx
   obtain rfl := List.mem_singleton.1 hx
   exact ans_right hm hto (.inr ⟨rfl, by omega, by omega⟩)
  | some r =>
   rw [hrg] at hx
   dsimp only at hx
   have hrm : r ∈ a.regs := by
    unfold lReg at hrg
    split at hrg
    · exact List.mem_of_getElem? hrg
    · cases hrg
   obtain ⟨_, _, _, _, q5, q6⟩ := (hS.act a g3).reg r hrm
   split at hx
   · obtain rfl := List.mem_singleton.1 hx
     exact ans_right hm hto (.inr ⟨rfl, by omega, by omega⟩)
   rename_i hne
   split at hx
   · obtain rfl := List.mem_singleton.1 hx
     have hs := (sendOk_in q6).2.1
     exact ans_right hm hto (.inl ⟨rfl, hs.1, hs.2.1⟩)
   rename_i h15
   have hu : isUp m.k = true := by
    cases hb : isUp m.k with
    | true => rfl
    | false => exact absurd ⟨h15, hb⟩ hup
   have hn : r.n = m.fr ∧ r.p = m.pt := by
    constructor
    · exact Decidable.byContradiction fun e => hne (.inl e)
    · exact Decidable.byContradiction fun e => hne (.inr e)
   obtain ⟨u1, u2, u3⟩ := upRight_in (de := a.de) q6 q5 hu
   unfold lUp at hx
   split at hx
   · cases hx
   dsimp only at hx
   rcases List.mem_append.1 hx with hx | hx
   · split at hx
     · rename_i hse
       obtain rfl := List.mem_singleton.1 hx
       have := lMsg_right (rg := m.rg) (k := (lEff r.seat a.de m.k).send) hS g3 hrm ⟨m5.1, by omega⟩ (by omega)
       rw [hn.1, hn.2, g4, g5] at this
       exact this
     · cases hx
   · split at hx
     · obtain rfl := List.mem_singleton.1 hx
       exact ans_right hm hto (.inr ⟨rfl, by omega, by omega⟩)
     · cases hx
theorem lTell_enrol {S : Sto} {m : SMsg} {now : Nat} : ∀ f ∈ (lTell S m now).fs, f.k = 2 → lTakesA S m.an m.aq now = true := by
 intro f hf hk
 have no : ∀ x : SFact, x.k ≠ 2 → f ∈ [x] → False := fun x hx h => by obtain rfl := List.mem_singleton.1 h; exact hx hk
 unfold lTell at hf
 split at hf
 · cases hf
 split at hf
 · unfold lRegister at hf
   unfold lTakesA
   cases hg : lGet S m.an m.aq with
   | none => rw [hg] at hf; cases hf
   | some ia =>
    obtain ⟨i, a⟩ := ia
    rw [hg] at hf
    dsimp only at hf ⊢
    cases hi : a.regs.findIdx? fun r => decide (r.n = m.fr ∧ r.p = m.pt) with
    | some j =>
     rw [hi] at hf
     dsimp only at hf
     split at hf
     · cases hf
     · split at hf <;> cases hf
    | none =>
     rw [hi] at hf
     dsimp only at hf
     split at hf
     · assumption
     · cases hf
 split at hf
 · cases hf
 split at hf
 · unfold lGone at hf
   repeat' split at hf
   all_goals cases hf
 split at hf
 · cases hf
 split at hf
 · cases hf
 split at hf
 · cases hf
 unfold lUp at hf
 split at hf
 · cases hf
 dsimp only at hf
 split at hf
 · exact (no _ (by simp [fSeat]) hf).elim
 · cases hf
theorem lTell_mlen {S : Sto} {m : SMsg} {now : Nat} : (lTell S m now).ms.length ≤ 2 := by
 unfold lTell
 split
 · simp [res0]
 split
 · unfold lRegister
   repeat' split
   all_goals simp [res0]
 split
 · simp [res0]
 split
 · unfold lGone
   repeat' split
   all_goals simp [res0]
 split
 · simp
 split
 · simp
 split
 · simp
 unfold lUp
 split
 · simp [res0]
 dsimp only
 rw [List.length_append]
 have h1 : ∀ (c : Prop) [Decidable c] (x : SMsg), (if c then [x] else []).length ≤ 1 := fun c _ x => by split <;> simp
 exact Nat.add_le_add (h1 _ _) (h1 _ _)
theorem lGet_of {S : Sto} (hS : StoGood S) {i : Nat} {a : SAct} (h : S.acts[i]? = some a) : lGet S a.an a.aq = some (i, a) := by
 obtain ⟨hi, he⟩ := List.getElem?_eq_some_iff.1 h
 have hf : sfind S a.an a.aq = some i := by
  unfold sfind
  rw [List.findIdx?_eq_some_iff_getElem]
  refine ⟨hi, by simp [he], fun j hj => ?_⟩
  have hp := (List.pairwise_iff_getElem.1 hS.sorted) j i (by omega) hi hj
  rw [he] at hp
  simp only [decide_eq_true_eq, not_and]
  omega
 unfold lGet
 rw [hf]
 simp only [h]
theorem lAgain_right {S : Sto} (hS : StoGood S) {i j : Nat} {a : SAct} {r : SReg} (ha : S.acts[i]? = some a) (hr : a.regs[j]? = some r) :
    lAgain S a.an a.aq j = (if mWaits r.seat = 0 then (msg0, false) else (lMsg S a r j (mWaits r.seat), true)) ∧ (mWaits r.seat ≠ 0 → rightTo (lMsg S a r j (mWaits r.seat)) S.node r.n a.an a.aq r.p) := by
 have hg := lGet_of hS ha
 have hlr : lReg a (j : Int) = some r := by unfold lReg; rw [if_pos (by omega)]; simpa using hr
 have ham := List.mem_of_getElem? ha
 have hrm := List.mem_of_getElem? hr
 have hj := (List.getElem?_eq_some_iff.1 hr).1
 have h6 := (hS.act a ham).len
 obtain ⟨_, _, _, _, _, q6⟩ := (hS.act a ham).reg r hrm
 have hw := (sendOk_in q6).1
 refine ⟨?_, fun hne => lMsg_right hS ham hrm ⟨by omega, by omega⟩ (by omega)⟩
 unfold lAgain
 rw [hg]
 simp only [hlr]
open Go.RowKit
attribute [local go_sem] store_float
theorem infoActI : (Tryz.prog.info? 51).map (fun i => (i.zero, i.size, i.bytes)) = some (some (.agg #[.int .i64 0, .int .i64 0, .int .i64 0, .int .i64 0, .float .f64 0, .int .i64 0, .int .i64 0, .slice none 0 0]), 8, 80) := by kernel_rfl
structure ActsIn (B : Nat) (v : Value) (al : List SAct) (vs : List Value) (w : World) : Prop where
 len : vs.length = al.length
 row : w.ownsRow B 51 8 v al.length (actsL al vs)
 regs : ∀ (i : Nat) (a : SAct) (x : Value), al[i]? = some a → vs[i]? = some x → w.ownsRow B 55 6 x a.regs.length (regsL a.regs)
 apart : ∀ x ∈ vs, ∀ k, x.ownBlock = some k → v.ownBlock ≠ some k
theorem ActsIn.below {B : Nat} {v : Value} {al : List SAct} {vs : List Value} {w w' : World} (h : ActsIn B v al vs w) (hb : Below w.heap.size w w') : ActsIn B v al vs w' :=
 ⟨h.len, row_heap h.row (fun k hk => hb.block k (h.row.lt k hk).2), fun i a x h1 h2 => row_heap (h.regs i a x h1 h2) (fun k hk => hb.block k ((h.regs i a x h1 h2).lt k hk).2), h.apart⟩
theorem ActsIn.nil (B : Nat) (w : World) : ActsIn B (.slice none 0 0) [] [] w := ⟨rfl, World.ownsRow_nil _ _ _ _, fun i a x h => by simp at h, fun x h => by cases h⟩
theorem ActsIn.snoc {B : Nat} {v v2 : Value} {al : List SAct} {vs : List Value} {w w2 : World} {a : SAct} {x : Value} (h : ActsIn B v al vs w) (hx : w.ownsRow B 55 6 x a.regs.length (regsL a.regs)) (hax : ∀ k, x.ownBlock = some k → v.ownBlock ≠ some k)
    (hr : w2.ownsRow B 51 8 v2 (al.length + 1) (actsL al vs ++ actL a x)) (hg : w.grownBy w2 v.ownBlock) (hat : v2.ownBlock = v.ownBlock ∨ v2.ownBlock = some w.heap.size) : ActsIn B v2 (al ++ [a]) (vs ++ [x]) w2 := by
 have keep : ∀ (u : Value) (r : List SReg), w.ownsRow B 55 6 u r.length (regsL r) → (∀ k, u.ownBlock = some k → v.ownBlock ≠ some k) → w2.ownsRow B 55 6 u r.length (regsL r) := fun u r h1 h2 =>
  row_heap h1 (fun k hk => hg.block k (h1.lt k hk).2 (fun e => h2 k hk e.symm))
 have apart2 : ∀ (u : Value) (r : List SReg), w.ownsRow B 55 6 u r.length (regsL r) → (∀ k, u.ownBlock = some k → v.ownBlock ≠ some k) → ∀ k, u.ownBlock = some k → v2.ownBlock ≠ some k := fun u r h1 h2 k hk e => by
  rcases hat with h3 | h3
  · exact h2 k hk (by rw [← h3]; exact e)
  · have := (h1.lt k hk).2
    rw [h3] at e
    injection e with e
    omega
 have hl := h.len
 refine ⟨by simp [h.len], ?_, fun i a' x' h1 h2 => ?_, fun u hu k hk => ?_⟩
 · rw [List.length_append]
   unfold actsL at hr ⊢
   rw [List.zip_append h.len.symm, List.flatMap_append]
   simpa using hr
 · by_cases hi : i < al.length
   · rw [List.getElem?_append_left hi] at h1
     rw [List.getElem?_append_left (by omega)] at h2
     exact keep _ _ (h.regs i a' x' h1 h2) (h.apart x' (List.mem_of_getElem? h2))
   · rw [List.getElem?_append_right (by omega)] at h1
     rw [List.getElem?_append_right (by omega), hl] at h2
     have e0 : i - al.length = 0 := by
      rcases Nat.eq_zero_or_pos (i - al.length) with e | e
      · exact e
      · rw [List.getElem?_eq_none (by simp; omega)] at h1; cases h1
     rw [e0] at h1 h2
     simp at h1 h2
     subst h1 h2
     exact keep _ _ hx hax
 · rcases List.mem_append.1 hu with hu | hu
   · obtain ⟨i, hi, rfl⟩ := List.getElem_of_mem hu
     exact apart2 _ _ (h.regs i al[i] vs[i] (List.getElem?_eq_getElem (by omega)) (List.getElem?_eq_getElem hi)) (h.apart _ hu) k hk
   · obtain rfl := List.mem_singleton.1 hu
     exact apart2 _ _ hx hax k hk
theorem actL_ones (a : SAct) (v : Value) (hv : v.oneCell' = true) : ∀ u ∈ actL a v, u.oneCell' = true := by
 intro u hu
 simp only [actL, List.mem_cons, List.not_mem_nil, or_false] at hu
 rcases hu with rfl | rfl | rfl | rfl | rfl | rfl | rfl | rfl <;> first | rfl | exact hv
theorem acts_of (L : SLoc) (S : Sto) (w : World) (h : StoreAt L S w) (hG : StoGood S) : Calls Tryz.prog 24 #[.pointer (some ⟨L.sb, 0, none⟩)] w fun e w' => ∃ v vs, e = .returned v ∧ ActsIn w.heap.size v S.acts vs w' ∧ Below w.heap.size w w' := by
 obtain ⟨i0, ei, ez, es, eb⟩ := info_parts infoActI
 obtain ⟨aa, ac, hav, hal, har⟩ := ptr_row h.acts
 have h8 := hG.acts
 have HACT := qq (fun W (hW : StoreAt L S W) => hW.act)
 have HLEN := qq (fun a (ha : a ∈ S.acts) => (hG.act a ha).len)
 have H := qq h
 have hlen := h.len
 obtain ⟨n, hn⟩ : ∃ n, n = S.acts.length := ⟨_, rfl⟩
 rw [← hn] at har h8
 have c2 : ∀ W, StoreAt L S W → W.cell? ⟨L.sb, 2, none⟩ = some (.slice aa n ac) := fun W hW => by have := hW.blk.cell 2; rw [hav] at this; rw [hn]; exact this
 have HC2 := qq c2; have HAR := qq har; have HN := qq hn; have HHL := qq hlen
 have hsb := h.blk.lt
 have q2 := c2 w h
 clear h hG har hal hav c2 hn hlen
 go_enter Tryz.func24, Tryz.ntmps24
 go_wp2_with fail
 go_loopw [3, 11] (fun v i wr => ∃ k : Nat, k ≤ n ∧ i = .int .i64 (k : Nat) ∧ Hid (∃ vs, ActsIn w.heap.size v (S.acts.take k) vs wr) ∧ Below w.heap.size w wr) (fun _ i _ => n - (intOf i).toNat)
 case atStart => exact ⟨0, by omega, by first | rfl | go_num, qq ⟨[], by rw [List.take_zero]; exact ActsIn.nil _ _⟩, by go_grown⟩
 case round =>
  obtain ⟨k, hk, rfl, ⟨vs, HV⟩, hB⟩ := hrel
  have HVS := qq HV
  by_cases hlt : k < n
  · have hks : k < S.acts.length := by rw [← HN.out]; exact hlt
    obtain ⟨g, rfl, hg, _, hpt⟩ := HAR.out (by omega)
    obtain ⟨x, hx⟩ : ∃ x, L.ab[k]? = some x := ⟨_, List.getElem?_eq_getElem (by rw [HHL.out]; exact hks)⟩
    obtain ⟨a, ha⟩ : ∃ a, S.acts[k]? = some a := ⟨_, List.getElem?_eq_getElem hks⟩
    have HS := qq (H.out.below hB)
    obtain ⟨hbk, hrg⟩ := HACT.out _ HS.out k x a hx ha
    have hp := (hB.cell (p := ⟨g, k, none⟩) hg).trans (hpt k x hx)
    have HCP := qq (copied_of a x.2 wr hrg (HLEN.out a (List.mem_of_getElem? ha)))
    have HA := qq ha
    have lk := hbk.lt
    have qk := hbk.cell
    have hki : (k : Int) < (n : Int) := by omega
    have hk0 : (0 : Int) ≤ (k : Int) := by omega
    have hgw : g < wr.heap.size := Nat.lt_of_lt_of_le hg hB.size
    have hl6 := HLEN.out a (List.mem_of_getElem? ha)
    have hlt8 : (S.acts.take k).length = k := by rw [List.length_take]; omega
    obtain ⟨av, cv, hv⟩ := row_slice HV.row
    rw [hlt8] at hv
    subst hv
    obtain ⟨xb, xv⟩ := x
    obtain ⟨an, aq, oc, dp, ex, pa, de, rs⟩ := a
    dsimp only [actC] at *
    clear hbk hrg hpt hx ha HV
    go_wp2_with fail
    refine HCP.out.mono ?_
    rintro e w1 ⟨v', rfl, ho, hb1⟩
    obtain ⟨va, vc, rfl⟩ := row_slice ho
    have HO := qq (row_base ho hB.size)
    have HNB := qq (fun j hj => (ho.lt j hj).1)
    have HV1 := qq (HVS.out.below hb1)
    have B1 : Below w.heap.size w w1 := below_then hB hb1
    have hsz1 := hb1.size
    clear hp qk lk ho hb1
    go_wp2_with (at_builtin; refine wpList_append_own_at _ rfl _ _ 45 rfl w.heap.size 51 i0 (.agg #[.int .i64 0, .int .i64 0, .int .i64 0, .int .i64 0, .float .f64 0, .int .i64 0, .int .i64 0, .slice none 0 0]) 8 80 Tryz.underlying45 ei ez es eb rfl (by decide) _ _ _ rfl (by have := HV1.out.row; rw [hlt8] at this; exact row_heap this (fun k hk => by rw [((Below.refl w1.heap.size w1).alloc (Nat.le_refl _) _).block k (this.lt k hk).2])) ⟨w1.heap.size, 0, none⟩ 1 1 (actL ⟨an, aq, oc, dp, ex, pa, de, rs⟩ (.slice va rs.length vc)) (by rfl) rfl (lit_cells (Blk.fresh _ _ _ _ rfl)) (actL_ones _ _ rfl) ?d3 ?d4 ?d5 ?_)
    case d3 => unfold maxLen; omega
    case d4 => omega
    case d5 => have := B1.size; simp; omega
    intro v2 w3 hown hgrow _ hat
    have HW := qq (show ∃ vs2, ActsIn w.heap.size v2 (S.acts.take (k + 1)) vs2 w3 from ⟨vs ++ [.slice va rs.length vc], by
      have htk : S.acts.take (k + 1) = S.acts.take k ++ [⟨an, aq, oc, dp, ex, pa, de, rs⟩] := by
        obtain ⟨hj, he⟩ := List.getElem?_eq_some_iff.1 HA.out
        rw [List.take_succ_eq_append_getElem hj, he]
      rw [htk]
      refine ActsIn.snoc (w := w1.alloc (.cells #[an, aq, oc, dp, .float .f64 ex, pa, de, .slice va rs.length vc] 51)) (HV1.out.below ((Below.refl w1.heap.size w1).alloc (Nat.le_refl _) _)) (row_heap HO.out (fun j hj => ((Below.refl w1.heap.size w1).alloc (Nat.le_refl _) _).block j (HO.out.lt j hj).2)) (fun j hj e => ?_) (by rw [hlt8]; exact hown) hgrow (by simpa using hat)
      have h1 := HNB.out j hj
      have h2 := (HVS.out.row.lt j e).2
      omega⟩)
    have B3 : Below w.heap.size w w3 := (B1.alloc B1.size _).grown hgrow (by have := B1.size; simp; omega) (fun j hj => by have := (HVS.out.row.lt j hj).1; omega)
    clear hown hgrow hat
    go_wp2_with fail
    all_goals (go_roundw <;> first | exact ⟨k + 1, by omega, by go_num, HW, B3⟩ | (simp [intOf]; omega))
  · obtain rfl : k = n := by omega
    have HF : Hid (ActsIn w.heap.size _ S.acts vs wr) := qq (by have := HVS.out; rw [List.take_of_length_le (by rw [← HN.out]; omega)] at this; exact this)
    obtain ⟨av, cv, rfl⟩ := row_slice HF.out.row
    go_wp2_with fail
    go_ret
    exact ⟨_, vs, rfl, HF.out, hB⟩
def FsOk (r : SRes) : Prop := r.fs.length ≤ 1000 ∧ ∀ f ∈ r.fs, F64 f.ex
theorem FsOk.none (ms : List SMsg) (k : Int) : FsOk ⟨[], ms, k⟩ := ⟨by simp, fun f hf => by cases hf⟩
theorem FsOk.one (x : SFact) (ms : List SMsg) (k : Int) (h : x.ex = 0) : FsOk ⟨[x], ms, k⟩ := ⟨by simp, fun f hf => by obtain rfl := List.mem_singleton.1 hf; rw [h]; unfold F64; decide⟩
theorem lTell_ok {S : Sto} {m : SMsg} {now : Nat} : FsOk (lTell S m now) := by
 unfold lTell
 split
 · exact FsOk.none _ _
 split
 · unfold lRegister
   repeat' split
   all_goals first | exact FsOk.none _ _ | exact FsOk.one _ _ _ rfl
 split
 · exact FsOk.none _ _
 split
 · unfold lGone
   repeat' split
   all_goals exact FsOk.none _ _
 split
 · exact FsOk.none _ _
 split
 · exact FsOk.none _ _
 split
 · exact FsOk.none _ _
 unfold lUp
 split
 · exact FsOk.none _ _
 dsimp only
 split
 · exact FsOk.one _ _ _ rfl
 · exact FsOk.none _ _
theorem lTell_fs {S : Sto} {m : SMsg} {now : Nat} : (lTell S m now).fs.length ≤ 1000 ∧ ∀ f ∈ (lTell S m now).fs, F64 f.ex := lTell_ok
theorem sapply_node (S : Sto) (f : SFact) : (sapply S f).1.node = S.node := by
 unfold sapply
 split
 · rfl
 · cases h : sput S f with
   | none => rfl
   | some T =>
    simp only
    unfold sput at h
    repeat' split at h
    all_goals first
     | (cases h; done)
     | (injection h with h; subst h; rfl)
     | (obtain ⟨t, _, rfl⟩ := Option.map_eq_some_iff.1 h; rfl)
theorem splay_node (node : Int) (fs : List SFact) : (splay node fs).node = node := by
 unfold splay
 have : ∀ (l : List SFact) (S : Sto), (l.foldl (fun S f => (sapply S f).1) S).node = S.node := fun l => by
  induction l with
  | nil => intro S; rfl
  | cons f t ih => intro S; exact (ih _).trans (sapply_node S f)
 exact this fs _
theorem actNeq17 (n q : Int) (w : World) : (binOp .neq 36 (.agg #[n, q]) (.agg #[n, q])).run Tryz.prog w = .ok (.bool false) w := by
 go_simp
structure LaF (w0 : World) (bM bR : Nat) (MC RC : Array Value) (L : SLoc) (S : Sto) (mv fv : Value) (ms : List SMsg) (fs : List SFact) (w : World) : Prop where
 be : Below w0.heap.size w0 w
 m : Blk w bM MC
 r : Blk w bR RC
 st : StoreAt L S w
 rm : ReadMsgs w mv ms
 rf : ReadFacts w fv fs
theorem LaF.below {w0 w w' : World} {bM bR : Nat} {MC RC : Array Value} {L : SLoc} {S : Sto} {mv fv : Value} {ms : List SMsg} {fs : List SFact} (h : LaF w0 bM bR MC RC L S mv fv ms fs w) (hb : Below w.heap.size w w') : LaF w0 bM bR MC RC L S mv fv ms fs w' :=
 ⟨below_then h.be hb, h.m.below hb, h.r.below hb, h.st.below hb, h.rm.below hb, h.rf.below hb⟩
structure LaG (w0 : World) (L : SLoc) (S : Sto) (Bs : Nat) (v : Value) (vs : List Value) (w : World) : Prop where
 be : Below w0.heap.size w0 w
 st : StoreAt L S w
 ac : ActsIn Bs v S.acts vs w
theorem LaG.below {w0 w w' : World} {L : SLoc} {S : Sto} {Bs : Nat} {v : Value} {vs : List Value} (h : LaG w0 L S Bs v vs w) (hb : Below w.heap.size w w') : LaG w0 L S Bs v vs w' :=
 ⟨below_then h.be hb, h.st.below hb, h.ac.below hb⟩
structure LaH (w0 : World) (L : SLoc) (S : Sto) (Bs : Nat) (v : Value) (vs : List Value) (bA : Nat) (C : Array Value) (w : World) : Prop where
 g : LaG w0 L S Bs v vs w
 a : Blk w bA C
theorem LaH.below {w0 w w' : World} {L : SLoc} {S : Sto} {Bs : Nat} {v : Value} {vs : List Value} {bA : Nat} {C : Array Value} (h : LaH w0 L S Bs v vs bA C w) (hb : Below w.heap.size w w') : LaH w0 L S Bs v vs bA C w' := ⟨h.g.below hb, h.a.below hb⟩
theorem law_lans (node : Int) (v : Value) (fs : List SFact) (mk fr tq man maq mrg mpt mpr mco : Int) (now : Nat) (ea : Int → Addr) (w : World) (hE : EnvS ea w) (hR : ReadFacts w v fs) (hF : ∀ f ∈ fs, F64 f.ex) (hn64 : F64 now) : Calls Tryz.prog 15 #[.int .i64 node, v, .agg #[mk, fr, tq, man, maq, mrg, mpt, mpr, mco, .float .f64 now]] w (Makes (.bool true) w) := by
 obtain ⟨a, cap, rfl, hrow⟩ := hR
 have hR' : ∀ W, Below w.heap.size w W → ReadFacts W (.slice a fs.length cap) fs := fun W hW => ⟨a, cap, rfl, fun hn => by
   obtain ⟨b, off, rfl, hb, hf⟩ := hrow hn
   exact ⟨b, off, rfl, Nat.lt_of_lt_of_le hb hW.size, fun j hj => (hf j hj).below hW hb⟩⟩
 have HE := qq hE
 have HAL := qq (fun W (hW : Below w.heap.size w W) => alive17_of ea W (hE.below hW))
 have HBN := qq (fun W (hW : Below w.heap.size w W) h => built17_no node _ fs ea W (hE.below hW) (hR' W hW) h)
 have HBY := qq (fun W (hW : Below w.heap.size w W) h1 h2 => built17_yes node _ fs ea W (hE.below hW) (hR' W hW) hF h1 h2)
 have HGD := qq (fun h => splay_good (node := node) h fs)
 have HND := qq (splay_node node fs)
 have HMR := qq (fun W (hW : Below w.heap.size w W) => mright_of ⟨mk, fr, tq, man, maq, mrg, mpt, mpr, mco⟩ ea W (hE.below hW))
 obtain ⟨n, hn⟩ : ∃ n, n = fs.length := ⟨_, rfl⟩
 obtain ⟨S, hS⟩ : ∃ S, S = splay node fs := ⟨_, rfl⟩
 rw [← hn] at HBN HBY ⊢
 rw [← hS] at HBY HGD HND
 have HTL := qq (fun L W h1 h2 h3 => ltell_of L S ⟨mk, fr, tq, man, maq, mrg, mpt, mpr, mco⟩ now ea W h1 h2 h3 hn64)
 have HTK := qq (fun L W h1 h2 h3 => ltakesA_of L S man maq now ea W h1 h2 h3 hn64)
 have HRT := qq (fun (h1 : StoGood S) (h2 : msgOk ⟨mk, fr, tq, man, maq, mrg, mpt, mpr, mco⟩ = true) h3 => lTell_right (m := ⟨mk, fr, tq, man, maq, mrg, mpt, mpr, mco⟩) (now := now) h1 h2 h3)
 have HEN := qq (lTell_enrol (S := S) (m := ⟨mk, fr, tq, man, maq, mrg, mpt, mpr, mco⟩) (now := now))
 have HML := qq (lTell_mlen (S := S) (m := ⟨mk, fr, tq, man, maq, mrg, mpt, mpr, mco⟩) (now := now))
 have HFL := qq (lTell_fs (S := S) (m := ⟨mk, fr, tq, man, maq, mrg, mpt, mpr, mco⟩) (now := now)).1
 obtain ⟨mo, hmo⟩ : ∃ b, b = msgOk ⟨mk, fr, tq, man, maq, mrg, mpt, mpr, mco⟩ := ⟨_, rfl⟩
 rw [← hmo] at HMR HRT
 clear hE hR' hrow hF hn hS hmo hn64
 dsimp only [msgV, msgA, flV] at *
 by_cases hok : (0 ≤ node ∧ node ≤ 3) ∧ n ≤ 60
 case neg =>
  go_enter Tryz.func15, Tryz.ntmps15
  go_wp2_with fail
  refine (HAL.out _ (by go_grown)).mono ?_
  rintro e w1 ⟨rfl, hb1⟩
  have B1 : Below w.heap.size w w1 := below_then (by go_grown) hb1
  have HX := qq ((Blk.fresh w #[mk, fr, tq, man, maq, mrg, mpt, mpr, mco, .float .f64 now] 125 _ rfl).below hb1)
  clear hb1
  go_wp2_with fail
  refine (HBN.out _ B1 hok).mono ?_
  rintro e w2 ⟨rfl, hb2⟩
  have B2 : Below w.heap.size w w2 := below_then B1 hb2
  have qm := (HX.out.below hb2).cell; have lm := (HX.out.below hb2).lt
  clear hb2
  go_wp2_with fail
  go_ret
  exact ⟨rfl, below_then B2 (by go_grown)⟩
 obtain ⟨hnd, hln⟩ := hok
 have HGS := qq (HGD.out hnd)
 go_enter Tryz.func15, Tryz.ntmps15
 go_wp2_with fail
 refine (HAL.out _ (by go_grown)).mono ?_
 rintro e w1 ⟨rfl, hb1⟩
 have B1 : Below w.heap.size w w1 := below_then (by go_grown) hb1
 have HX1 := qq ((Blk.fresh w #[mk, fr, tq, man, maq, mrg, mpt, mpr, mco, .float .f64 now] 125 _ rfl).below hb1)
 clear hb1
 go_wp2_with fail
 refine (HBY.out _ B1 hnd hln).mono ?_
 rintro e w2 ⟨L, R, rfl, hB⟩
 have B2 : Below w.heap.size w w2 := below_then B1 hB.be
 have HB := qq hB.st
 have HX2 := qq (HX1.out.below hB.be)
 clear hB
 obtain ⟨lx, qx, fx⟩ := HX2.out
 go_wp2_with fail
 clear lx qx fx
 refine (HMR.out _ (bel_alloc B2 _)).mono ?_
 rintro e w3 ⟨rfl, hb3⟩
 have B3 : Below w.heap.size w w3 := below_then (bel_alloc B2 _) hb3
 have HX3 := qq ((HX2.out.alloc _).below hb3)
 have HM3 := qq ((Blk.fresh _ _ _ w2.heap.size (by simp)).below hb3)
 have HB3 := qq (HB.out.below (below_then ((Below.refl w2.heap.size w2).alloc (Nat.le_refl _) _) hb3))
 clear hb3
 have qm := HM3.out.cell; have lm := HM3.out.lt
 cases mo
 case false =>
  go_wp2_with fail
  go_ret
  exact ⟨rfl, below_then B3 (by go_grown)⟩
 by_cases hto : tq = node
 case neg =>
  have d1 : (tq != node) = true := by simpa using hto
  clear hto
  go_wp2_with fail
  go_ret
  exact ⟨rfl, below_then B3 (by go_grown)⟩
 have d1 : (tq != node) = false := by simpa using hto
 have hrt := HRT.out HGS.out rfl (by rw [HND.out]; exact hto)
 rw [HND.out] at hrt
 have HRT2 := qq hrt
 have qx := HX3.out.cell; have lx := HX3.out.lt
 clear hto hrt HRT
 go_wp2_with fail
 clear qm lm qx lx d1
 refine (HTK.out L _ (HE.out.below B3) HB3.out HGS.out).mono ?_
 rintro e w4 ⟨rfl, hb4⟩
 have B4 : Below w.heap.size w w4 := below_then B3 hb4
 have HX4 := qq (HX3.out.below hb4); have HM4 := qq (HM3.out.below hb4); have HB4 := qq (HB3.out.below hb4)
 obtain ⟨tk, htk⟩ : ∃ b, b = lTakesA S man maq now := ⟨_, rfl⟩
 rw [← htk] at HEN ⊢
 clear hb4 htk
 have qm := HM4.out.cell; have lm := HM4.out.lt
 have qx := HX4.out.cell; have lx := HX4.out.lt
 go_wp2_with fail
 clear qm lm qx lx
 refine (HTL.out L _ (HE.out.below B4) HB4.out HGS.out).mono ?_
 rintro e w5 ⟨af, cf, am, cm, rfl, hR5, hb5⟩
 have B5 : Below w.heap.size w w5 := below_then B4 hb5
 have HM5 := qq (HM4.out.below hb5); have HB5 := qq (HB4.out.below hb5)
 have HRD := qq hR5
 obtain ⟨r, hr⟩ : ∃ r, r = lTell S ⟨mk, fr, tq, man, maq, mrg, mpt, mpr, mco⟩ now := ⟨_, rfl⟩
 rw [← hr] at HRD HRT2 HEN HML HFL ⊢
 obtain ⟨ffs, ms, rk⟩ := r
 (try dsimp only at HRD HRT2 HEN HML HFL)
 obtain ⟨lm, hlm⟩ : ∃ l, l = ms.length := ⟨_, rfl⟩
 obtain ⟨lf, hlf⟩ : ∃ l, l = ffs.length := ⟨_, rfl⟩
 have hlm9 : lm ≤ 2 := by rw [hlm]; exact HML.out
 have hlf9 : lf ≤ 1000 := by rw [hlf]; exact HFL.out
 rw [← hlm, ← hlf] at HRD ⊢
 have HLM := qq hlm; have HLF := qq hlf
 have HF0 := qq (show LaF w w2.heap.size w5.heap.size #[.int .i64 mk, .int .i64 fr, .int .i64 tq, .int .i64 man, .int .i64 maq, .int .i64 mrg, .int .i64 mpt, .int .i64 mpr, .int .i64 mco] #[.slice af lf cf, .slice am lm cm, .int .i64 rk] L S (.slice am lm cm) (.slice af lf cf) ms ffs (w5.alloc (.cells #[.slice af lf cf, .slice am lm cm, rk] 87)) from
   ⟨bel_alloc B5 _, HM5.out.alloc _, Blk.fresh _ _ _ _ rfl, HB5.out.below ((Below.refl w5.heap.size w5).alloc (Nat.le_refl _) _), HRD.out.m.below ((Below.refl w5.heap.size w5).alloc (Nat.le_refl _) _), HRD.out.f.below ((Below.refl w5.heap.size w5).alloc (Nat.le_refl _) _)⟩)
 clear hR5 hb5 hr hlm hlf HRD
 go_wp2_with fail
 go_loopw [61] (fun i wr => ∃ k : Nat, k ≤ lm ∧ i = .int .i64 (k : Nat) ∧ Hid (LaF w w2.heap.size w5.heap.size #[.int .i64 mk, .int .i64 fr, .int .i64 tq, .int .i64 man, .int .i64 maq, .int .i64 mrg, .int .i64 mpt, .int .i64 mpr, .int .i64 mco] #[.slice af lf cf, .slice am lm cm, .int .i64 rk] L S (.slice am lm cm) (.slice af lf cf) ms ffs wr)) (fun i _ => lm - (intOf i).toNat)
 case atStart => exact ⟨0, by omega, by first | rfl | go_num, HF0⟩
 case round =>
  obtain ⟨k, hk, rfl, HF⟩ := hrel
  have BR : Below w.heap.size w wr := HF.out.be
  by_cases hlt : k < lm
  · have hks : k < ms.length := by rw [← HLM.out]; exact hlt
    obtain ⟨ga, gc, hv, hrd⟩ := HF.out.rm
    obtain ⟨b, off, rfl, hbl, hcell⟩ := hrd (by intro e; rw [e] at hks; simp at hks)
    injection hv with hv1 hv2 hv3
    subst hv1
    clear hv2 hv3
    obtain ⟨x, hx⟩ : ∃ x, x = ms[k] := ⟨_, rfl⟩
    have hat := hcell k hks
    rw [← hx] at hat
    obtain ⟨r1, r2, r3, r4, r5, r6⟩ := HRT2.out x (by rw [hx]; exact List.getElem_mem hks)
    have HXR := qq (fun W (hW : Below w.heap.size w W) => mright_of x ea W (HE.out.below hW))
    rw [r1] at HXR
    obtain ⟨c0, c1, c2, c3, c4, c5, c6, c7, c8⟩ := hat
    have hki : (k : Int) < (lm : Int) := by omega
    have hk0 : (0 : Int) ≤ (k : Int) := by omega
    have HM := qq HF.out.m
    clear hcell hx hrd
    obtain ⟨xk, xfr, xto, xan, xaq, xrg, xpt, xpr, xco⟩ := x
    dsimp only [msgV, msgA] at *
    have r2 := r2.symm; have r3 := r3.symm; have r4 := r4.symm; have r5 := r5.symm; have r6 := r6.symm
    subst r2 r3 r4 r5 r6
    have d2 : (node != node) = false := by simp
    have d3 : (fr != fr) = false := by simp
    have d4 : (mpt != mpt) = false := by simp
    have hne := fun W => actNeq17 man maq W
    have o1HM := HM.out.lt
    obtain ⟨lHM, qHM, fHM⟩ := HM.out
    go_wp2_with fail
    clear qHM fHM lHM
    refine (HXR.out _ (below_then BR (bel_alloc (Below.refl wr.heap.size wr) _))).mono ?_
    rintro e wr1 ⟨rfl, hb1⟩
    have HM := qq ((HM.out.alloc _).below hb1)
    have K1 := qq ((Blk.fresh _ _ _ (wr.heap.size) (by simp)).below hb1)
    have HB := qq (below_then (bel_alloc (Below.refl wr.heap.size wr) _) hb1)
    have z1 := HB.out.size
    clear hb1
    obtain ⟨lHM, qHM, fHM⟩ := HM.out
    obtain ⟨lK1, qK1, fK1⟩ := K1.out
    go_wp2_with fail
    clear qHM fHM lHM qK1 fK1 lK1
    go_roundw
    case rel => exact ⟨k + 1, by omega, by go_num, qq (HF.out.below HB.out)⟩
    case measure => (simp [intOf]; omega)
  · obtain rfl : k = lm := by omega
    obtain ⟨lr, qr, fr'⟩ := HF.out.r
    go_wp2_with fail
    clear lr qr fr'
    go_loopw [99] (fun i wr => ∃ k2 : Nat, k2 ≤ lf ∧ i = .int .i64 (k2 : Nat) ∧ Hid (LaF w w2.heap.size w5.heap.size #[.int .i64 mk, .int .i64 fr, .int .i64 tq, .int .i64 man, .int .i64 maq, .int .i64 mrg, .int .i64 mpt, .int .i64 mpr, .int .i64 mco] #[.slice af lf cf, .slice am k cm, .int .i64 rk] L S (.slice am k cm) (.slice af lf cf) ms ffs wr)) (fun i _ => lf - (intOf i).toNat)
    case atStart => exact ⟨0, by omega, by first | rfl | go_num, HF⟩
    clear HF BR
    case round =>
     obtain ⟨k2, hk2, rfl, HF⟩ := hrel
     by_cases hlt2 : k2 < lf
     · have hks : k2 < ffs.length := by rw [← HLF.out]; exact hlt2
       obtain ⟨ga, gc, hv, hrd⟩ := HF.out.rf
       obtain ⟨b, off, rfl, hbl, hcell⟩ := hrd (by intro e; rw [e] at hks; simp at hks)
       injection hv with hv1 hv2 hv3
       subst hv1
       clear hv2 hv3
       obtain ⟨x, hx⟩ : ∃ x, x = ffs[k2] := ⟨_, rfl⟩
       have hat := hcell k2 hks
       rw [← hx] at hat
       have hen := HEN.out x (by rw [hx]; exact List.getElem_mem hks)
       obtain ⟨c0, c1, c2, c3, c4, c5, c6, c7, c8, c9, c10, c11, c12, c13⟩ := hat
       have hki : (k2 : Int) < (lf : Int) := by omega
       have hk0 : (0 : Int) ≤ (k2 : Int) := by omega
       clear hcell hx hrd
       obtain ⟨xk, xan, xaq, xrg, xnd, xpt, xpr, xoc, xdp, xpa, xst, xhw, xde, xex⟩ := x
       dsimp only at hen c0 c1 c2 c3 c4 c5 c6 c7 c8 c9 c10 c11 c12 c13
       by_cases h2 : xk = 2
       · have e2 : (xk == 2) = true := by simpa using h2
         have et := hen h2
         subst et
         clear hen h2
         go_wp2_with fail
         go_roundw
         case rel => exact ⟨k2 + 1, by omega, by go_num, qq (HF.out.below ((Below.refl wr.heap.size wr).alloc (Nat.le_refl _) _))⟩
         case measure => (simp [intOf]; omega)
       · have e2 : (xk == 2) = false := by simpa using h2
         clear hen h2
         go_wp2_with fail
         go_roundw
         case rel => exact ⟨k2 + 1, by omega, by go_num, qq (HF.out.below ((Below.refl wr.heap.size wr).alloc (Nat.le_refl _) _))⟩
         case measure => (simp [intOf]; omega)
     · obtain rfl : k2 = lf := by omega
       go_wp2_with fail
       refine (acts_of L S wr HF.out.st HGS.out).mono ?_
       rintro e w7 ⟨av, vs, rfl, hac, hb7⟩
       have B7 : Below w.heap.size w w7 := below_then HF.out.be hb7
       have HST := qq (HF.out.st.below hb7)
       obtain ⟨aa, ac, hav, _, hacell⟩ := act_row hac.len hac.row
       subst hav
       obtain ⟨na, hna⟩ : ∃ n, n = S.acts.length := ⟨_, rfl⟩
       have hna8 : na ≤ 8 := by rw [hna]; exact HGS.out.acts
       rw [← hna] at hac hacell ⊢
       have HG0 := qq (show LaG w L S wr.heap.size (.slice aa na ac) vs w7 from ⟨B7, HST.out, by rw [hna] at hac ⊢; exact hac⟩)
       have HNA := qq hna
       clear hac hacell hb7 hna B7 HST HF
       go_wp2_with fail
       obtain ⟨Bs, hBs⟩ : ∃ b, b = wr.heap.size := ⟨_, rfl⟩
       rw [← hBs] at HG0
       clear hBs
       go_loopw [114] (fun i wr => ∃ k3 : Nat, k3 ≤ na ∧ i = .int .i64 (k3 : Nat) ∧ Hid (LaG w L S Bs (.slice aa na ac) vs wr)) (fun i _ => na - (intOf i).toNat)
       case atStart => exact ⟨0, by omega, by first | rfl | go_num, HG0⟩
       case round =>
        obtain ⟨k3, hk3, rfl, HG⟩ := hrel
        by_cases hlt3 : k3 < na
        · have hks : k3 < S.acts.length := by rw [← HNA.out]; exact hlt3
          obtain ⟨a3, ha3⟩ : ∃ a, S.acts[k3]? = some a := ⟨_, List.getElem?_eq_getElem hks⟩
          obtain ⟨u3, hu3⟩ : ∃ u, vs[k3]? = some u := ⟨_, List.getElem?_eq_getElem (by rw [HG.out.ac.len]; exact hks)⟩
          obtain ⟨ga, gc, hv, _, hrd⟩ := act_row HG.out.ac.len HG.out.ac.row
          obtain ⟨g0, hg0, hgl, _, hcell⟩ := hrd (by omega)
          subst hg0
          injection hv with hv1 hv2 hv3
          subst hv1
          clear hv2 hv3
          obtain ⟨c0, c1, c2, c3, c4, c5, c6, c7⟩ := hcell k3 a3 u3 ha3 hu3
          have hrow := HG.out.ac.regs k3 a3 u3 ha3 hu3
          obtain ⟨xa, xc, hxv, hnl, hrc⟩ := reg_row hrow
          subst hxv
          have h6 := (HGS.out.act a3 (List.mem_of_getElem? ha3)).len
          have HA3 := qq ha3; have HU3 := qq hu3
          obtain ⟨an, aq, oc, dp, ex, pa, de, rs⟩ := a3
          dsimp only at c0 c1 c2 c3 c4 c5 c6 c7 hrc h6 hrow
          obtain ⟨nr, hnr⟩ : ∃ n, n = rs.length := ⟨_, rfl⟩
          rw [← hnr] at c7 hrc h6 HU3
          have HNR := qq hnr
          have hki : (k3 : Int) < (na : Int) := by omega
          have hk0 : (0 : Int) ≤ (k3 : Int) := by omega
          clear hcell hrd ha3 hu3 hnr hnl hrc hrow
          go_wp2_with fail
          clear c0 c1 c2 c3 c4 c5 c6 c7
          generalize hbA : wr.heap.size = bA at ⊢
          have HH0 := qq (show LaH w L S Bs (.slice (some ⟨g0, 0, none⟩) na ac) vs bA #[.int .i64 an, .int .i64 aq, .int .i64 oc, .int .i64 dp, .float .f64 ex, .int .i64 pa, .int .i64 de, .slice xa nr xc] (wr.alloc (.cells #[an, aq, oc, dp, .float .f64 ex, pa, de, .slice xa nr xc] 51)) from ⟨HG.out.below ((Below.refl wr.heap.size wr).alloc (Nat.le_refl _) _), Blk.fresh _ _ _ _ hbA.symm⟩)
          go_loopw [121] (fun i wr => ∃ j : Nat, j ≤ nr ∧ i = .int .i64 (j : Nat) ∧ Hid (LaH w L S Bs (.slice (some ⟨g0, 0, none⟩) na ac) vs bA #[.int .i64 an, .int .i64 aq, .int .i64 oc, .int .i64 dp, .float .f64 ex, .int .i64 pa, .int .i64 de, .slice xa nr xc] wr)) (fun i _ => nr - (intOf i).toNat)
          case atStart => exact ⟨0, by omega, by first | rfl | go_num, HH0⟩
          case round =>
           obtain ⟨j, hj, rfl, HF4⟩ := hrel
           by_cases hlt4 : j < nr
           · have hjs : j < rs.length := by rw [← HNR.out]; exact hlt4
             obtain ⟨x, hx⟩ : ∃ x, rs[j]? = some x := ⟨_, List.getElem?_eq_getElem hjs⟩
             obtain ⟨xa', xc', hxv, hnl, hrc⟩ := reg_row (HF4.out.g.ac.regs k3 _ _ HA3.out HU3.out)
             injection hxv with hx1 hx2 hx3
             obtain ⟨g, hg, hgl4, _, hcell⟩ := hrc (by dsimp only; omega)
             rw [← hx1] at hg
             subst hg
             obtain ⟨c0, c1, c2, c3, c4, c5⟩ := hcell j x hx
             obtain ⟨hag, hri⟩ := lAgain_right HGS.out HA3.out hx
             have HAG := qq (fun W h1 h2 => lagain_of L S an aq (j : Int) ea W h1 h2 HGS.out)
             dsimp only at hag hri
             rw [hag] at HAG
             have HW := qq (fun W h1 => mwaits_of x.seat ea W h1)
             have HXR := qq (fun W h1 => mright_of (lMsg S ⟨an, aq, oc, dp, ex, pa, de, rs⟩ x (j : Int) (mWaits x.seat)) ea W h1)
             obtain ⟨k, hk⟩ : ∃ k, k = mWaits x.seat := ⟨_, rfl⟩
             rw [← hk] at HAG HW HXR hri
             have HEr := qq (HE.out.below HF4.out.g.be)
             have HSt := qq HF4.out.g.st
             have HA := qq HF4.out.a
             have hji : (j : Int) < (nr : Int) := by omega
             have hj0 : (0 : Int) ≤ (j : Int) := by omega
             obtain ⟨rn, rp, ⟨sp, sd, ss, sh⟩⟩ := x
             dsimp only [seatV] at c0 c1 c2 c3 c4 c5 HW
             clear hcell hx hx1 hx2 hx3 hnl hrc hag hk
             by_cases hw0 : k = 0
             · rw [if_pos hw0] at HAG
               dsimp only [msg0, msgV, msgA] at HAG
               clear hw0 hri
               have o1HA := HA.out.lt
               obtain ⟨lHA, qHA, fHA⟩ := HA.out
               go_wp2_with fail
               clear qHA fHA lHA
               refine (HAG.out _ (HEr.out.below (bel_alloc (Below.refl wr.heap.size wr) _)) (HSt.out.below (bel_alloc (Below.refl wr.heap.size wr) _))).mono ?_
               rintro e wr1 ⟨rfl, hb1⟩
               have HA := qq ((HA.out.alloc _).below hb1)
               have HB := qq (below_then (bel_alloc (Below.refl wr.heap.size wr) _) hb1)
               have z1 := HB.out.size
               clear hb1
               have o2HA := HA.out.lt
               obtain ⟨lHA, qHA, fHA⟩ := HA.out
               go_wp2_with fail
               clear qHA fHA lHA
               refine reg_start (fun w' => Below wr.heap.size wr w') (by kernel_rfl) ((bel_drew (bel_alloc HB.out _))) ?_
               rintro wr2 hHeld
               obtain HB' := id hHeld
               have HB := qq HB'; clear HB'
               have z2 := HB.out.size
               refine takeM (d := some 135) 0 rfl rfl hHeld (fun w' _ => by go_simp; (try rfl)) ?_
               simp only [puts]
               refine takeM (d := some 136) 1 rfl rfl hHeld (fun w' _ => by go_simp; (try rfl)) ?_
               simp only [puts]
               refine skipM (d := some 137) 2 rfl rfl hHeld ?_
               simp only [puts]
               refine skipM (d := some 138) 3 rfl rfl hHeld ?_
               simp only [puts]
               refine skipM (d := some 139) 4 rfl rfl hHeld ?_
               simp only [puts]
               refine skipM (d := some 140) 5 rfl rfl hHeld ?_
               simp only [puts]
               refine skipM (d := some 141) 6 rfl rfl hHeld ?_
               simp only [puts]
               refine skipM (d := some 142) 7 rfl rfl hHeld ?_
               simp only [puts]
               refine skipM (d := some 143) 8 rfl rfl hHeld ?_
               simp only [puts]
               refine skipM (d := some 144) 9 rfl rfl hHeld ?_
               simp only [puts]
               refine skipM (d := some 145) 10 rfl rfl hHeld ?_
               simp only [puts]
               refine skipM (d := some 146) 11 rfl rfl hHeld ?_
               simp only [puts]
               refine skipM (d := some 147) 12 rfl rfl hHeld ?_
               simp only [puts]
               refine skipM (d := some 148) 13 rfl rfl hHeld ?_
               simp only [puts]
               refine skipM (d := some 149) 14 rfl rfl hHeld ?_
               simp only [puts]
               refine skipM (d := some 150) 15 rfl rfl hHeld ?_
               simp only [puts]
               refine skipM (d := some 151) 16 rfl rfl hHeld ?_
               simp only [puts]
               refine skipM (d := some 152) 17 rfl rfl hHeld ?_
               simp only [puts]
               refine skipM (d := some 153) 18 rfl rfl hHeld ?_
               simp only [puts]
               refine skipM (d := some 154) 19 rfl rfl hHeld ?_
               simp only [puts]
               refine skipM (d := some 155) 20 rfl rfl hHeld ?_
               simp only [puts]
               refine skipM (d := some 156) 21 rfl rfl hHeld ?_
               simp only [puts]
               refine skipM (d := some 157) 22 rfl rfl hHeld ?_
               simp only [puts]
               refine skipM (d := some 158) 23 rfl rfl hHeld ?_
               simp only [puts]
               refine skipM (d := some 159) 24 rfl rfl hHeld ?_
               simp only [puts]
               refine skipM (d := some 160) 25 rfl rfl hHeld ?_
               simp only [puts]
               refine skipM (d := some 161) 26 rfl rfl hHeld ?_
               simp only [puts]
               refine skipM (d := some 162) 27 rfl rfl hHeld ?_
               simp only [puts]
               refine skipM (d := some 163) 28 rfl rfl hHeld ?_
               simp only [puts]
               refine skipM (d := some 164) 29 rfl rfl hHeld ?_
               simp only [puts]
               refine skipM (d := some 165) 30 rfl rfl hHeld ?_
               simp only [puts]
               refine skipM (d := some 166) 31 rfl rfl hHeld ?_
               simp only [puts]
               refine skipM (d := some 167) 32 rfl rfl hHeld ?_
               simp only [puts]
               refine takeM (d := some 168) 33 rfl rfl hHeld (fun w' _ => by go_simp; (try rfl)) ?_
               simp only [puts]
               refine doneM (by kernel_rfl) ?_ _
               clear hHeld
               go_wp2_with fail
               go_roundw
               case rel => exact ⟨j + 1, by omega, by go_num, qq (HF4.out.below HB.out)⟩
               case measure => (simp [intOf]; omega)
             · rw [if_neg hw0] at HAG
               rw [(hri hw0).1] at HXR
               dsimp only [lMsg, msgV, msgA] at HAG HXR
               have d2 : (rn != rn) = false := by simp
               have d3 : (rp != rp) = false := by simp
               have d4 : ((j : Int) != (j : Int)) = false := by simp
               have d5 : (k != k) = false := by simp
               clear hw0 hri
               have o1HA := HA.out.lt
               obtain ⟨lHA, qHA, fHA⟩ := HA.out
               go_wp2_with fail
               clear qHA fHA lHA
               refine (HAG.out _ (HEr.out.below (bel_alloc (Below.refl wr.heap.size wr) _)) (HSt.out.below (bel_alloc (Below.refl wr.heap.size wr) _))).mono ?_
               rintro e wr1 ⟨rfl, hb1⟩
               have HA := qq ((HA.out.alloc _).below hb1)
               have K1 := qq ((Blk.fresh _ _ _ (wr.heap.size) (by simp)).below hb1)
               have HB := qq (below_then (bel_alloc (Below.refl wr.heap.size wr) _) hb1)
               have z1 := HB.out.size
               clear hb1
               have o2HA := HA.out.lt; have o2K1 := K1.out.lt
               obtain ⟨lHA, qHA, fHA⟩ := HA.out
               obtain ⟨lK1, qK1, fK1⟩ := K1.out
               go_wp2_with fail
               clear qHA fHA lHA qK1 fK1 lK1
               refine reg_start (fun w' => Blk w' _ _ ∧ Blk w' _ _ ∧ Below wr.heap.size wr w') (by kernel_rfl) ⟨(K1.out.alloc _).drew, (Blk.fresh _ _ _ (wr1.heap.size) (by simp)).drew, (bel_drew (bel_alloc HB.out _))⟩ ?_
               rintro wr2 hHeld
               obtain ⟨K1', K2', HB'⟩ := id hHeld
               have K1 := qq K1'; have K2 := qq K2'; have HB := qq HB'; clear K1' K2' HB'
               have z2 := HB.out.size
               refine takeM (d := some 135) 0 rfl rfl hHeld (fun w' _ => by go_simp; (try rfl)) ?_
               simp only [puts]
               refine takeM (d := some 136) 1 rfl rfl hHeld (fun w' _ => by go_simp; (try rfl)) ?_
               simp only [puts]
               refine takeM (d := some 137) 2 rfl rfl hHeld (fun w' hS' => by have qA := hS'.2.1.cell; clear hS'; go_simp; (try rfl)) ?_
               simp only [puts]
               refine one_M 3 (by kernel_rfl) ?_
               refine wpOp_call (d := some 138) 3 44 _ _ [.agg #[k, S.node, rn, an, aq, j, rp, .int .i64 0, .int .i64 0]] rfl rfl rfl (enters_of Tryz.func44 (by kernel_rfl) rfl) (by rfl) (by rfl) ?_
               refine (HXR.out _ (HEr.out.below HB.out)).mono ?_
               rintro e wr3 ⟨rfl, hb3⟩
               clear hHeld
               have K1 := qq (K1.out.below hb3)
               have K2 := qq (K2.out.below hb3)
               have HB := qq (below_then HB.out hb3)
               have z3 := HB.out.size
               clear hb3
               refine ret_S ⟨K1.out, K2.out, HB.out⟩ (fun hHeld => ?_)
               simp only [puts]
               refine takeM (d := some 139) 4 rfl rfl hHeld (fun w' _ => by go_simp; (try rfl)) ?_
               simp only [puts]
               refine takeM (d := some 140) 5 rfl rfl hHeld (fun w' _ => by go_simp; (try rfl)) ?_
               simp only [puts]
               refine takeM (d := some 141) 6 rfl rfl hHeld (fun w' _ => by go_simp; (try rfl)) ?_
               simp only [puts]
               refine takeM (d := some 142) 7 rfl rfl hHeld (fun w' hS' => by have qA := hS'.2.1.cell; clear hS'; go_simp; (try rfl)) ?_
               simp only [puts]
               refine takeM (d := some 143) 8 rfl rfl hHeld (fun w' _ => by go_simp; (try rfl)) ?_
               simp only [puts]
               refine takeM (d := some 144) 9 rfl rfl hHeld (fun w' hS' => by have qA := hS'.1.cell; clear hS'; go_simp; (try rfl)) ?_
               simp only [puts]
               refine takeM (d := some 145) 10 rfl rfl hHeld (fun w' _ => by go_simp; (try rfl)) ?_
               simp only [puts]
               refine takeM (d := some 146) 11 rfl rfl hHeld (fun w' _ => by go_simp; (try rfl)) ?_
               simp only [puts]
               refine takeM (d := some 147) 12 rfl rfl hHeld (fun w' _ => by go_simp; (try rfl)) ?_
               simp only [puts]
               refine takeM (d := some 148) 13 rfl rfl hHeld (fun w' _ => by go_simp; (try rfl)) ?_
               simp only [puts]
               refine takeM (d := some 149) 14 rfl rfl hHeld (fun w' hS' => by have qA := hS'.2.1.cell; clear hS'; go_simp; (try rfl)) ?_
               simp only [puts]
               refine takeM (d := some 150) 15 rfl rfl hHeld (fun w' _ => by go_simp; (try rfl)) ?_
               simp only [puts]
               refine takeM (d := some 151) 16 rfl rfl hHeld (fun w' hS' => by have qA := hS'.1.cell; clear hS'; go_simp; (try rfl)) ?_
               simp only [puts]
               refine takeM (d := some 152) 17 rfl rfl hHeld (fun w' _ => by go_simp; (try rfl)) ?_
               simp only [puts]
               refine takeM (d := some 153) 18 rfl rfl hHeld (fun w' _ => by go_simp; (try rfl)) ?_
               simp only [puts]
               refine takeM (d := some 154) 19 rfl rfl hHeld (fun w' _ => by go_simp; (try rfl)) ?_
               simp only [puts]
               refine takeM (d := some 155) 20 rfl rfl hHeld (fun w' _ => by go_simp; (try rfl)) ?_
               simp only [puts]
               refine takeM (d := some 156) 21 rfl rfl hHeld (fun w' hS' => by have qA := hS'.2.1.cell; clear hS'; go_simp; (try rfl)) ?_
               simp only [puts]
               refine takeM (d := some 157) 22 rfl rfl hHeld (fun w' _ => by go_simp; (try rfl)) ?_
               simp only [puts]
               refine takeM (d := some 158) 23 rfl rfl hHeld (fun w' _ => by go_simp; (try rfl)) ?_
               simp only [puts]
               refine takeM (d := some 159) 24 rfl rfl hHeld (fun w' _ => by go_simp; (try rfl)) ?_
               simp only [puts]
               refine takeM (d := some 160) 25 rfl rfl hHeld (fun w' _ => by go_simp; (try rfl)) ?_
               simp only [puts]
               refine takeM (d := some 161) 26 rfl rfl hHeld (fun w' _ => by go_simp; (try rfl)) ?_
               simp only [puts]
               refine takeM (d := some 162) 27 rfl rfl hHeld (fun w' hS' => by have qA := hS'.2.1.cell; clear hS'; go_simp; (try rfl)) ?_
               simp only [puts]
               refine takeM (d := some 163) 28 rfl rfl hHeld (fun w' _ => by go_simp; (try rfl)) ?_
               simp only [puts]
               refine takeM (d := some 164) 29 rfl rfl hHeld (fun w' hS' => by have qA := hS'.1.cell; clear hS'; go_simp; (try rfl)) ?_
               simp only [puts]
               refine one_M 30 (by kernel_rfl) ?_
               refine wpOp_call (d := some 165) 30 67 _ _ [.agg #[sp, sd, ss, sh]] rfl rfl rfl (enters_of Tryz.func67 (by kernel_rfl) rfl) (by rfl) (by rfl) ?_
               refine (HW.out _ (HEr.out.below HB.out).err3).mono ?_
               rintro e wr4 ⟨rfl, hb4⟩
               clear hHeld
               have K1 := qq (K1.out.below hb4)
               have K2 := qq (K2.out.below hb4)
               have HB := qq (below_then HB.out hb4)
               have z4 := HB.out.size
               clear hb4
               refine ret_S ⟨K1.out, K2.out, HB.out⟩ (fun hHeld => ?_)
               simp only [puts]
               refine takeM (d := some 166) 31 rfl rfl hHeld (fun w' _ => by go_simp; (try rfl)) ?_
               simp only [puts]
               refine takeM (d := some 167) 32 rfl rfl hHeld (fun w' _ => by go_simp; (try rfl)) ?_
               simp only [puts]
               refine takeM (d := some 168) 33 rfl rfl hHeld (fun w' _ => by go_simp; (try rfl)) ?_
               simp only [puts]
               refine doneM (by kernel_rfl) ?_ _
               clear hHeld
               obtain ⟨lK1, qK1, fK1⟩ := K1.out
               obtain ⟨lK2, qK2, fK2⟩ := K2.out
               go_wp2_with fail
               clear qK1 fK1 lK1 qK2 fK2 lK2
               go_roundw
               case rel => exact ⟨j + 1, by omega, by go_num, qq (HF4.out.below HB.out)⟩
               case measure => (simp [intOf]; omega)
           · obtain rfl : j = nr := by omega
             go_wp2_with fail
             go_roundw
             case rel => exact ⟨k3 + 1, by omega, by go_num, qq HF4.out.g⟩
             case measure => (simp [intOf]; omega)
        · obtain rfl : k3 = na := by omega
          have BE := HG.out.be
          go_wp2_with fail
          go_ret
          exact ⟨rfl, BE⟩
open Go.ChangeShapes Go.WideShapes Go.ChangeAt Go.WideMaps Go.WideElems Go.RowKit Go.Joins
theorem trod_f64 {H : Type} {P : Program} {w : World} {t : TypeId} {fuel : Nat} {base : Nat} {enc : TypeId × Value → H} {spare : Nat → Bool} {held : Bool} {v : Value} {x : DataW H × List MemPlace} (ht : P.underlying t = some (.float .f64)) (h : DataW.trod enc P w base spare held fuel t [v] = some x) : ∃ b, v = .float .f64 b ∧ F64 b := by
 cases fuel with
 | zero => simp [DataW.trod] at h
 | succ n =>
  unfold DataW.trod at h
  rw [ht] at h
  split at h <;> simp_all
  rename_i k k' b he
  subst he
  simpa [Lit.wf, F64] using h.1.2
open Go.RowKit Go.Deep Go.ChangeShapes Go.WideShapes Go.ChangeAt Go.WideMaps Go.WideElems
theorem fact_list_of {α : Type} {C : Nat → α → Prop} : ∀ n, (∀ i, i < n → ∃ o, C i o) → ∃ l : List α, l.length = n ∧ ∀ i (h : i < l.length), C i l[i]
 | 0, _ => ⟨[], rfl, fun i h => absurd h (by simp)⟩
 | n + 1, h => by
  obtain ⟨l, hl, hc⟩ := fact_list_of n (fun i hi => h i (by omega))
  obtain ⟨o, ho⟩ := h n (by omega)
  refine ⟨l ++ [o], by simp [hl], fun i hi => ?_⟩
  by_cases hlt : i < l.length
  · rw [List.getElem_append_left hlt]; exact hc i hlt
  · have : i = n := by simp at hi; omega
    subst this
    rw [List.getElem_append_right (by omega)]
    simpa [hl] using ho
theorem open_facts {H : Type} {enc : TypeId × Value → H} {W : World} {a0 : Option Addr} {len cap : Nat} {d : DataW H} {p : List MemPlace} {sp : Nat → Bool} (h : DataW.Trod enc Tryz.prog W 0 sp true 22 (.slice a0 len cap) d p) : ∃ fs, ReadFacts W (.slice a0 len cap) fs ∧ ∀ f ∈ fs, F64 f.ex := by
 obtain ⟨fuel, hf⟩ := h
 rcases open_slice Tryz.underlying22 hf with ⟨hcs, hx⟩ | ⟨a, len', cap', m, n, D, Pl, hcs, hb, hl, hm, hmm, hx, hall⟩
 · simp [Value.cells] at hcs
   obtain ⟨rfl, rfl, rfl⟩ := hcs
   exact ⟨[], ⟨none, 0, rfl, fun h => absurd rfl h⟩, by simp⟩
 · simp [Value.cells] at hcs
   obtain ⟨rfl, rfl, rfl⟩ := hcs
   have hlm : len ≤ m := by rw [hmm]; split <;> omega
   have each : ∀ i, i < len → ∃ o : SFact, W.cell? (a.add (i * 14)) = some (.int .i64 o.k) ∧ W.cell? (a.add (i * 14 + 1)) = some (.int .i64 o.an) ∧ W.cell? (a.add (i * 14 + 2)) = some (.int .i64 o.aq) ∧ W.cell? (a.add (i * 14 + 3)) = some (.int .i64 o.rg) ∧ W.cell? (a.add (i * 14 + 4)) = some (.int .i64 o.nd) ∧ W.cell? (a.add (i * 14 + 5)) = some (.int .i64 o.pt) ∧ W.cell? (a.add (i * 14 + 6)) = some (.int .i64 o.pr) ∧ W.cell? (a.add (i * 14 + 7)) = some (.int .i64 o.oc) ∧ W.cell? (a.add (i * 14 + 8)) = some (.int .i64 o.dp) ∧ W.cell? (a.add (i * 14 + 9)) = some (.int .i64 o.pa) ∧ W.cell? (a.add (i * 14 + 10)) = some (.int .i64 o.st) ∧ W.cell? (a.add (i * 14 + 11)) = some (.int .i64 o.hw) ∧ W.cell? (a.add (i * 14 + 12)) = some (.int .i64 o.de) ∧ W.cell? (a.add (i * 14 + 13)) = some (.float .f64 o.ex) ∧ F64 o.ex := by
    intro i hi
    obtain ⟨cs', h1, h2⟩ := hall i (by omega)
    rw [show Tryz.prog.cellsOf 39 = 14 by kernel_rfl] at h1
    obtain ⟨_, hlen, hcell⟩ := World.cells?_some h1
    obtain ⟨xs, k, hk, hxy, _, hxl, hfs⟩ := DataW.trod_struct Tryz.underlying39 h2
    match xs, hxl, cs', hlen with
    | [y0, y1, y2, y3, y4, y5, y6, y7, y8, y9, y10, y11, y12], _, [v0, v1, v2, v3, v4, v5, v6, v7, v8, v9, v10, v11, v12, v13], _ =>
     have g0 := hfs 0 _ rfl
     have g1 := hfs 1 _ rfl
     have g2 := hfs 2 _ rfl
     have g3 := hfs 3 _ rfl
     have g4 := hfs 4 _ rfl
     have g5 := hfs 5 _ rfl
     have g6 := hfs 6 _ rfl
     have g7 := hfs 7 _ rfl
     have g8 := hfs 8 _ rfl
     have g9 := hfs 9 _ rfl
     have g10 := hfs 10 _ rfl
     have g11 := hfs 11 _ rfl
     have g12 := hfs 12 _ rfl
     simp [show Tryz.prog.cellsOf 3 = 1 by kernel_rfl, show Tryz.prog.cellsOf 37 = 1 by kernel_rfl, show Tryz.prog.cellsOf 36 = 2 by kernel_rfl] at g0 g1 g2 g3 g4 g5 g6 g7 g8 g9 g10 g11 g12
     obtain ⟨zs, k2, hk2, _, _, hzl, hgs⟩ := DataW.trod_struct Tryz.underlying36 g1
     match zs, hzl with
     | [z0, z1], _ =>
      have ga := hgs 0 _ rfl
      have gb := hgs 1 _ rfl
      simp [show Tryz.prog.cellsOf 3 = 1 by kernel_rfl] at ga gb
      obtain ⟨n0, e0, _⟩ := DataW.trod_int Tryz.underlying3 g0
      obtain ⟨n1, e1, _⟩ := DataW.trod_int Tryz.underlying3 ga
      obtain ⟨n2, e2, _⟩ := DataW.trod_int Tryz.underlying3 gb
      obtain ⟨n3, e3, _⟩ := DataW.trod_int Tryz.underlying3 g2
      obtain ⟨n4, e4, _⟩ := DataW.trod_int Tryz.underlying3 g3
      obtain ⟨n5, e5, _⟩ := DataW.trod_int Tryz.underlying3 g4
      obtain ⟨n6, e6, _⟩ := DataW.trod_int Tryz.underlying3 g5
      obtain ⟨n7, e7, _⟩ := DataW.trod_int Tryz.underlying3 g6
      obtain ⟨n8, e8, _⟩ := DataW.trod_int Tryz.underlying3 g7
      obtain ⟨n9, e9, _⟩ := DataW.trod_int Tryz.underlying3 g8
      obtain ⟨n10, e10, _⟩ := DataW.trod_int Tryz.underlying3 g9
      obtain ⟨n11, e11, _⟩ := DataW.trod_int Tryz.underlying3 g10
      obtain ⟨n12, e12, _⟩ := DataW.trod_int Tryz.underlying3 g11
      obtain ⟨n13, e13, hf13⟩ := trod_f64 Tryz.underlying37 g12
      simp only [List.cons.injEq, and_true] at e0
      simp only [List.cons.injEq, and_true] at e1
      simp only [List.cons.injEq, and_true] at e2
      simp only [List.cons.injEq, and_true] at e3
      simp only [List.cons.injEq, and_true] at e4
      simp only [List.cons.injEq, and_true] at e5
      simp only [List.cons.injEq, and_true] at e6
      simp only [List.cons.injEq, and_true] at e7
      simp only [List.cons.injEq, and_true] at e8
      simp only [List.cons.injEq, and_true] at e9
      simp only [List.cons.injEq, and_true] at e10
      simp only [List.cons.injEq, and_true] at e11
      simp only [List.cons.injEq, and_true] at e12
      (try simp only [List.cons.injEq, and_true] at e13)
      subst e0 e1 e2 e3 e4 e5 e6 e7 e8 e9 e10 e11 e12 e13
      have c0 := hcell 0 (by omega)
      have c1 := hcell 1 (by omega)
      have c2 := hcell 2 (by omega)
      have c3 := hcell 3 (by omega)
      have c4 := hcell 4 (by omega)
      have c5 := hcell 5 (by omega)
      have c6 := hcell 6 (by omega)
      have c7 := hcell 7 (by omega)
      have c8 := hcell 8 (by omega)
      have c9 := hcell 9 (by omega)
      have c10 := hcell 10 (by omega)
      have c11 := hcell 11 (by omega)
      have c12 := hcell 12 (by omega)
      have c13 := hcell 13 (by omega)
      rw [add_add] at c0 c1 c2 c3 c4 c5 c6 c7 c8 c9 c10 c11 c12 c13
      exact ⟨⟨n0, n1, n2, n3, n4, n5, n6, n7, n8, n9, n10, n11, n12, n13⟩, by simpa using c0, by simpa using c1, by simpa using c2, by simpa using c3, by simpa using c4, by simpa using c5, by simpa using c6, by simpa using c7, by simpa using c8, by simpa using c9, by simpa using c10, by simpa using c11, by simpa using c12, by simpa using c13, hf13⟩
   obtain ⟨fs, hlen, hc⟩ := fact_list_of len each
   subst hlen
   refine ⟨fs, ⟨some a, cap, rfl, fun hne => ?_⟩, fun f hf => ?_⟩
   · have h0 : 0 < fs.length := List.length_pos_iff.2 hne
     have hs0 : a.spot = none := by simpa [Addr.add] using World.cell?_spot (hc 0 h0).1
     obtain ⟨b, off, spot⟩ := a
     have hsp : spot = none := hs0
     subst hsp
     have hlt := World.block_lt_of_cell? W _ (hc 0 h0).1
     refine ⟨b, off, rfl, by simpa [Addr.add] using hlt, fun i hi => ?_⟩
     obtain ⟨c0, c1, c2, c3, c4, c5, c6, c7, c8, c9, c10, c11, c12, c13, _⟩ := hc i hi
     simp only [Addr.add_lit] at c0 c1 c2 c3 c4 c5 c6 c7 c8 c9 c10 c11 c12 c13
     exact ⟨c0, c1, c2, c3, c4, c5, c6, c7, c8, c9, c10, c11, c12, c13⟩
   · obtain ⟨j, hj, rfl⟩ := List.getElem_of_mem hf
     exact (hc j hj).2.2.2.2.2.2.2.2.2.2.2.2.2.2
open Go.ChangeShapes Go.WideShapes Go.ChangeAt Go.WideMaps Go.WideElems Go.RowKit
theorem Tryz.own : ownKnob Tryz.prog.godebug = none := by kernel_rfl
theorem Tryz.laidOut : laidOutB Tryz.prog = true := by kernel_rfl
theorem starE : "*" ++ "errors.errorString" = "*errors.errorString" := by decide
theorem rowE (u : TypeId) (h : Tryz.prog.typeName? 3 u = some "*errors.errorString") : u = 387 :=
 typeName_ptr_named (nm := "errors.errorString") (by rw [starE]; kernel_rfl) (by kernel_rfl) (by decide) u (by rw [starE]; exact h)
theorem cellsE : Tryz.prog.cellsOf 410 = 1 := by kernel_rfl
theorem cellsS : Tryz.prog.cellsOf 9 = 1 := by kernel_rfl
structure LaidE where
 num : Int
 name : String
 g : Nat
 text : List UInt8
def LaidE.datum (x : LaidE) : String × DataW Unit := (x.name, .iface "*errors.errorString" (.ptr (.agg [.lit (.string x.text)])))
def LaidE.ok (x : LaidE) : Prop := Tryz.prog.globalNamed x.name = some x.g ∧ (Tryz.prog.globals[x.g]?).map (·.type) = some 26
theorem sentinels {W : World} : ∀ (L : List LaidE) (ps : List MemPlace), (L.map (·.num)).Nodup → (∀ x ∈ L, x.ok) → DataW.LaidVars Tryz.prog W (L.map LaidE.datum) ps → ps.Nodup →
    (∀ b off, MemPlace.cell b off ∈ ps → (∃ c t, W.heap[b]? = some (.cells c t (0, 0))) ∧ ∀ u v, W.cell? ⟨b, off, none⟩ = some (.iface u v) → Value.okWide Tryz.prog W .any 0 u v) →
    ∃ ea : Int → Addr, (∀ x ∈ L, ErrIs W x.g (ea x.num) ∧ MemPlace.cell (ea x.num).block (ea x.num).off ∈ ps) ∧ (∀ x ∈ L, ∀ y ∈ L, ea x.num = ea y.num → x.num = y.num) := by
 intro L
 induction L with
 | nil => intro ps _ _ _ _ _; exact ⟨fun _ => ⟨0, 0, none⟩, fun x hx => by simp at hx, fun x hx => by simp at hx⟩
 | cons x L ih =>
  intro ps hnum hok h hnd hrows
  obtain ⟨g0, t0, cs0, f0, p0, q0, hg0, ht0, hv0, hd0, hrest, e0⟩ := h
  have hx := hok x (by simp)
  obtain rfl := Option.some.inj (hx.1.symm.trans hg0)
  obtain rfl := Option.some.inj (hx.2.symm.trans ht0)
  subst e0
  obtain ⟨l0⟩ := cs0
  have ok0 : ∀ u v, l0 = [.iface u v] → Value.okWide Tryz.prog W .any 0 u v := fun u v e => by
   subst e
   exact (hrows x.g 0 (by simp [MemPlace.row])).2 u v (by simpa using World.var?_cell hg0 hv0 0)
  obtain ⟨a0, s0, rfl, hc0, hs0, hz0, rfl⟩ := errorString_of_trod Tryz.underlying26 rowE Tryz.underlying387 Tryz.underlying410 rfl rfl Tryz.underlying9 cellsE cellsS hd0 ok0
  have hn2 := List.nodup_append.1 hnd
  obtain ⟨ea, h1, h2⟩ := ih q0 (by simpa using (List.nodup_cons.1 hnum).2) (fun y hy => hok y (by simp [hy])) hrest hn2.2.1 (fun b off hb => hrows b off (by simp [hb]))
  have hne : ∀ y ∈ L, y.num ≠ x.num := fun y hy he => (List.nodup_cons.1 hnum).1 (by
    have := List.mem_map_of_mem (f := LaidE.num) hy
    rw [he] at this; exact this)
  have hin : MemPlace.cell a0.block a0.off ∈ MemPlace.row ⟨x.g, 0, none⟩ #[Value.iface 387 (.pointer (some a0))].size ++ MemPlace.row a0 1 := by simp [MemPlace.row]
  have hcx : ErrIs W x.g a0 := by
   have := World.var?_cell hg0 hv0 0
   simpa [ErrIs] using this
  refine ⟨fun m => if m = x.num then a0 else ea m, fun y hy => ?_, fun y hy z hz he => ?_⟩
  · rcases List.mem_cons.1 hy with e | hy'
    · subst e
      simp only [if_true]
      exact ⟨hcx, List.mem_append_left _ hin⟩
    · simp only [if_neg (hne y hy')]
      exact ⟨(h1 y hy').1, List.mem_append_right _ (h1 y hy').2⟩
  · rcases List.mem_cons.1 hy with e | hy' <;> rcases List.mem_cons.1 hz with e' | hz'
    · rw [e, e']
    · simp only [e, if_true, if_neg (hne z hz')] at he
      have hz2 := (h1 z hz').2
      rw [← he] at hz2
      exact absurd rfl (hn2.2.2 _ hin _ hz2)
    · simp only [e', if_true, if_neg (hne y hy')] at he
      have hy2 := (h1 y hy').2
      rw [he] at hy2
      exact absurd rfl (hn2.2.2 _ hin _ hy2)
    · simp only [if_neg (hne y hy'), if_neg (hne z hz')] at he
      exact h2 y hy' z hz' he
section frame
variable {H : Type} {enc : TypeId × Value → H}
theorem trodAll_below {W W' : World} (hb : Below W.heap.size W W') : ∀ (ts : List TypeId) (vs : List Value) (ds : List (DataW H)) (ps : List MemPlace), (∀ t ∈ ts, Tryz.prog.readableRec t = true ∧ t < Tryz.prog.types.size) →
    DataW.TrodAll enc Tryz.prog W 0 (fun _ => true) true ts vs ds ps → (∀ x ∈ ps, x.block < W.heap.size) → DataW.TrodAll enc Tryz.prog W' 0 (fun b => decide (b < W.heap.size)) true ts vs ds ps := by
 intro ts
 induction ts with
 | nil =>
  intro vs ds ps _ h _
  obtain ⟨rfl, rfl, rfl⟩ := trodAll_nil h
  exact trodAll_mk0
 | cons t ts ih =>
  intro vs ds ps hts h hlt
  obtain ⟨v, vs', d, ds', p, q, rfl, rfl, rfl, hd, hrest⟩ := trodAll_cons h
  have h1 := Below.trod Tryz.laidOut (hts t (by simp)).1 (hts t (by simp)).2 hd hb (fun x hx => hlt x (by simp [hx]))
  exact trodAll_cons_mk h1 (ih vs' ds' q (fun u hu => hts u (by simp [hu])) hrest (fun x hx => hlt x (by simp [hx])))
theorem trodAll_len {W : World} {base : Nat} {sp : Nat → Bool} {held : Bool} : ∀ {ts : List TypeId} {vs : List Value} {ds : List (DataW H)} {ps : List MemPlace}, DataW.TrodAll enc Tryz.prog W base sp held ts vs ds ps → ds.length = ts.length := by
 intro ts
 induction ts with
 | nil =>
  intro vs ds ps h
  obtain ⟨rfl, rfl, rfl⟩ := trodAll_nil h
  rfl
 | cons t ts ih =>
  intro vs ds ps h
  obtain ⟨v, vs', d, ds', p, q, rfl, rfl, rfl, hd, hrest⟩ := trodAll_cons h
  simp [ih hrest]
theorem frame_post {fn : Func} {s : ChangeSpec} {W W' : World} {args : Array Value} {ds gs : List (DataW H)} {before : List MemPlace}
    (hts : ∀ t ∈ fn.params.toList, Tryz.prog.readableRec t = true ∧ t < Tryz.prog.types.size) (hres : fn.resultTypes = #[4]) (hvars : s.vars = [])
    (hspec : ∀ ds : List (DataW H), ds.length = fn.params.toList.length → (s.fn H ds).results = [.lit (.bool true)] ∧ (s.fn H ds).args = ds ∧ (s.fn H ds).vars = [])
    (hW : DataW.Whole enc Tryz.prog fn.params.toList s.vars false W args.toList ds gs before) (hb : Below W.heap.size W W') :
    s.post enc Tryz.prog fn false true false false W args (.bool true) W' := by
 have hW' := hW
 have hlt := hW.lt
 obtain ⟨p, q, hA, hV, rfl, hfz, hnd⟩ := hW
 rw [hvars] at hV
 obtain ⟨rfl, rfl⟩ : gs = [] ∧ q = [] := by
  cases gs with
  | nil => exact ⟨rfl, hV⟩
  | cons g r => exact absurd hV (by intro h; cases h)
 have hlen : ds.length = fn.params.toList.length := trodAll_len hA
 obtain ⟨e1, e2, e3⟩ := hspec ds hlen
 refine ⟨ds, [], p ++ [], [], p, [], hW', ?_, ?_, ?_, hb.frame _, fun h => by cases h⟩
 · rw [List.append_nil, e1, hres]
   exact trodAll_mk1 (shut_bool Tryz.underlying4 true)
 · rw [List.append_nil, e2]
   exact trodAll_below hb _ _ _ _ hts hA (fun x hx => hlt x (by simp [hx]))
 · rw [List.append_nil, e3, hvars]
   rfl
end frame
def err1 : LaidE := ⟨1, "liaison/api.ErrRange", 0, [108, 105, 97, 105, 115, 111, 110, 58, 32, 114, 97, 110, 103, 101]⟩
theorem ok_err1 : err1.ok := ⟨by kernel_rfl, by kernel_rfl⟩
def err2 : LaidE := ⟨2, "liaison/api.ErrShort", 1, [108, 105, 97, 105, 115, 111, 110, 58, 32, 115, 104, 111, 114, 116]⟩
theorem ok_err2 : err2.ok := ⟨by kernel_rfl, by kernel_rfl⟩
def err3 : LaidE := ⟨3, "liaison/api.ErrLong", 2, [108, 105, 97, 105, 115, 111, 110, 58, 32, 108, 111, 110, 103]⟩
theorem ok_err3 : err3.ok := ⟨by kernel_rfl, by kernel_rfl⟩
def err4 : LaidE := ⟨4, "liaison/api.ErrForm", 3, [108, 105, 97, 105, 115, 111, 110, 58, 32, 102, 111, 114, 109]⟩
theorem ok_err4 : err4.ok := ⟨by kernel_rfl, by kernel_rfl⟩
def err5 : LaidE := ⟨5, "liaison/api.ErrCheck", 4, [108, 105, 97, 105, 115, 111, 110, 58, 32, 99, 104, 101, 99, 107]⟩
theorem ok_err5 : err5.ok := ⟨by kernel_rfl, by kernel_rfl⟩
def err6 : LaidE := ⟨6, "liaison/api.ErrFull", 5, [108, 105, 97, 105, 115, 111, 110, 58, 32, 102, 117, 108, 108]⟩
theorem ok_err6 : err6.ok := ⟨by kernel_rfl, by kernel_rfl⟩
def err7 : LaidE := ⟨7, "liaison/api.ErrPower", 6, [108, 105, 97, 105, 115, 111, 110, 58, 32, 112, 111, 119, 101, 114]⟩
theorem ok_err7 : err7.ok := ⟨by kernel_rfl, by kernel_rfl⟩
def err8 : LaidE := ⟨8, "liaison/api.ErrNone", 7, [108, 105, 97, 105, 115, 111, 110, 58, 32, 110, 111, 110, 101]⟩
theorem ok_err8 : err8.ok := ⟨by kernel_rfl, by kernel_rfl⟩
def err9 : LaidE := ⟨9, "liaison/api.ErrState", 8, [108, 105, 97, 105, 115, 111, 110, 58, 32, 115, 116, 97, 116, 101]⟩
theorem ok_err9 : err9.ok := ⟨by kernel_rfl, by kernel_rfl⟩
def err10 : LaidE := ⟨10, "liaison/api.ErrTwice", 9, [108, 105, 97, 105, 115, 111, 110, 58, 32, 116, 119, 105, 99, 101]⟩
theorem ok_err10 : err10.ok := ⟨by kernel_rfl, by kernel_rfl⟩
def err11 : LaidE := ⟨11, "liaison/api.ErrDepth", 10, [108, 105, 97, 105, 115, 111, 110, 58, 32, 100, 101, 112, 116, 104]⟩
theorem ok_err11 : err11.ok := ⟨by kernel_rfl, by kernel_rfl⟩
def err12 : LaidE := ⟨12, "liaison/api.ErrExpired", 11, [108, 105, 97, 105, 115, 111, 110, 58, 32, 101, 120, 112, 105, 114, 101, 100]⟩
theorem ok_err12 : err12.ok := ⟨by kernel_rfl, by kernel_rfl⟩
def err13 : LaidE := ⟨13, "liaison/api.ErrPanic", 12, [108, 105, 97, 105, 115, 111, 110, 58, 32, 112, 97, 110, 105, 99]⟩
theorem ok_err13 : err13.ok := ⟨by kernel_rfl, by kernel_rfl⟩
def err14 : LaidE := ⟨14, "liaison/api.ErrProtocol", 13, [108, 105, 97, 105, 115, 111, 110, 58, 32, 112, 114, 111, 116, 111, 99, 111, 108]⟩
theorem ok_err14 : err14.ok := ⟨by kernel_rfl, by kernel_rfl⟩
def errs14 : List LaidE := [err1, err2, err3, err4, err5, err6, err7, err8, err9, err10, err11, err12, err13, err14]
theorem num14 (i : Int) (h1 : 1 ≤ i) (h2 : i ≤ 14) : ∃ x ∈ errs14, x.num = i := by
 obtain ⟨n, rfl⟩ := nat14 ⟨h1, h2⟩
 have h0 : n ≠ 0 := fun h => by rw [h] at h1; exact absurd h1 (by decide)
 revert n
 decide
theorem ok14 : ∀ x ∈ errs14, x.ok := by
 intro x hx
 simp only [errs14, List.mem_cons, List.not_mem_nil, or_false] at hx
 rcases hx with rfl | rfl | rfl | rfl | rfl | rfl | rfl | rfl | rfl | rfl | rfl | rfl | rfl | rfl
 · exact ok_err1
 · exact ok_err2
 · exact ok_err3
 · exact ok_err4
 · exact ok_err5
 · exact ok_err6
 · exact ok_err7
 · exact ok_err8
 · exact ok_err9
 · exact ok_err10
 · exact ok_err11
 · exact ok_err12
 · exact ok_err13
 · exact ok_err14
theorem errs_of_laid {W : World} {l : List (String × DataW Unit)} (hl : l = errs14.map LaidE.datum) (h : laidMetH Tryz.prog l W) : ∃ ea, Errs ea W := by
 rw [MakeChecks.laidMetH_plain _ _ _ (by rw [hl]; rfl)] at h
 obtain ⟨ps, h, hnd, hrows⟩ := h
 rw [hl] at h
 obtain ⟨ea, h1, h2⟩ := sentinels errs14 ps (by decide) ok14 h hnd hrows
 have hm : ∀ i : Int, 1 ≤ i → i ≤ 14 → ∃ x ∈ errs14, x.num = i := num14
 refine ⟨ea, (h1 err1 (by simp [errs14])).1, (h1 err2 (by simp [errs14])).1, (h1 err3 (by simp [errs14])).1, (h1 err4 (by simp [errs14])).1, (h1 err5 (by simp [errs14])).1, (h1 err6 (by simp [errs14])).1, (h1 err7 (by simp [errs14])).1, (h1 err8 (by simp [errs14])).1, (h1 err9 (by simp [errs14])).1, (h1 err10 (by simp [errs14])).1, (h1 err11 (by simp [errs14])).1, (h1 err12 (by simp [errs14])).1, (h1 err13 (by simp [errs14])).1, (h1 err14 (by simp [errs14])).1, ?_, ?_⟩
 · intro i j a b c d he
   obtain ⟨x, hx, rfl⟩ := hm i a b
   obtain ⟨y, hy, rfl⟩ := hm j c d
   exact h2 x hx y hy he
 · intro i a b
   obtain ⟨x, hx, rfl⟩ := hm i a b
   exact (hrows _ _ (h1 x hx).2).1
section wrap
variable {H : Type} {enc : TypeId × Value → H}
theorem handed_and_shaped {a : Assume} {C : Checked} {os : Os} {f : FuncId} {fn : Func} {s : ChangeSpec} {conds : List PathCond} {apart fresh handsOn again : Bool} {X : World → Array Value → Prop}
    (hX : ∀ (w w' : World) (args : Array Value), w.heap = w'.heap → X w args → X w' args)
    (own : ownKnob C.prog.godebug = none) (started : os.Started) (noInit : C.prog.inits.idxOf? f = none) (hfn : C.prog.funcs[f]? = some fn)
    (witness : ∃ (w : World) (tape : Tape) (i : Input), w.os = os ∧ (w.forCall tape i).Shaped C.prog ∧ i.vars = [] ∧ Input.okWide C.prog (w.forCall tape i) .any w.heap.size f i ∧
      ((s.pre enc C.prog fn conds apart (w.forCall tape i).memory i.args ∧ X (w.forCall tape i).memory i.args) ∧ sizedMet enc C.prog fn (OpenSpec.ofChange s) apart (w.forCall tape i).memory i.args) ∧ a.holds C.prog (lone (Frame.enter C.prog f i.args .normal) [] (w.forCall tape i)))
    (contract : ∀ (W : World) (base : Nat) (args : Array Value) (ds gs : List (DataW H)) (before : List MemPlace),
      (∀ (j : Nat) t v, fn.params[j]? = some t → args[j]? = some v → Value.okWide C.prog W .any base t v) →
      DataW.Whole enc C.prog fn.params.toList s.vars apart W args.toList ds gs before →
      conds.all (PathCond.test C.prog ⟨fn.params.toList, ds, s.plain.varTypes C.prog, gs⟩) = true →
      (DataW.weightsEach C.prog (fn.params.toList ++ s.plain.varTypes C.prog) (ds ++ gs)).all (· ≤ reachBytes) = true → X W args → W.ShapedOpen C.prog →
      a.holds C.prog (lone (Frame.enter C.prog f args .normal) [] W) →
      Calls C.prog f args W fun e W' => ∃ v, e = .returned v ∧ s.post enc C.prog fn apart fresh handsOn again W args v W') :
    ReturnsInHanded a C os f .any (fun w args => (s.pre enc C.prog fn conds apart w args ∧ X w args) ∧ sizedMet enc C.prog fn (OpenSpec.ofChange s) apart w args) (s.post enc C.prog fn apart fresh handsOn again) := by
 refine returnsInHanded_of_calls own started noInit witness ?_
 intro w tape i _ hsh _ hok hpre hholds
 obtain ⟨_, _, _, fn', hfn', _, _, _, _, hval⟩ := hok
 have e : fn' = fn := Option.some.inj (hfn'.symm.trans hfn)
 subst e
 obtain ⟨⟨⟨ds, gs, before, hw, hc⟩, hx⟩, hz⟩ := hpre
 have hw' := DataW.Whole.of_heap (w' := w.forCall tape i) (by rfl) hw
 refine (contract (w.forCall tape i) w.heap.size i.args ds gs before hval hw' hc (hz.weights hw) (hX _ _ _ (by rfl) hx) hsh hholds).mono fun e W' ⟨v, he, hp⟩ => ?_
 subst he
 exact ChangeSpec.post_blind hp
end wrap
theorem laidVars_parts {P : Program} {W : World} : ∀ (A B : List (String × DataW Unit)) (ps : List MemPlace), DataW.LaidVars P W (A ++ B) ps → ∃ p q, ps = p ++ q ∧ DataW.LaidVars P W A p ∧ DataW.LaidVars P W B q
 | [], _, ps, h => ⟨[], ps, rfl, rfl, h⟩
 | (n, d) :: A, B, ps, h => by
  obtain ⟨g0, t0, cs0, f0, p0, q0, hg0, ht0, hv0, hd0, hrest, e0⟩ := h
  obtain ⟨p, q, rfl, h1, h2⟩ := laidVars_parts A B q0 hrest
  exact ⟨MemPlace.row ⟨g0, 0, none⟩ cs0.size ++ p0 ++ p, q, by rw [e0]; simp [List.append_assoc], ⟨g0, t0, cs0, f0, p0, p, hg0, ht0, hv0, hd0, h1, rfl⟩, h2⟩
theorem laidMet_parts {P : Program} {W : World} {A B : List (String × DataW Unit)} (h : laidMet P (A ++ B) W) : laidMet P A W ∧ laidMet P B W := by
 obtain ⟨ps, h, hnd, hrows⟩ := h
 obtain ⟨p, q, rfl, h1, h2⟩ := laidVars_parts A B ps h
 have hn := List.nodup_append.1 hnd
 exact ⟨⟨p, h1, hn.1, fun b off hb => hrows b off (List.mem_append_left _ hb)⟩, ⟨q, h2, hn.2.1, fun b off hb => hrows b off (List.mem_append_right _ hb)⟩⟩
theorem pow10_dataS : (Lib.tabData .u64 Lib.pow10Tab : DataW Unit) = Rows.laid_internal_strconv_uint64pow10 := by kernel_rfl
theorem errsS_of_met {W : World} (h : laidMet Tryz.prog (errs14.map LaidE.datum) W) : ∃ ea, Errs ea W :=
 errs_of_laid rfl (by rw [MakeChecks.laidMetH_plain _ _ _ (by rfl)]; exact h)
theorem envS_of_laid {W : World} {A : List (String × DataW Unit)} {B : List (String × DataW Unit)} {l : List (String × DataW Unit)}
    (hl : l = A ++ (("internal/strconv.uint64pow10", Lib.tabData .u64 Lib.pow10Tab) :: B) ∧ ∃ D, B = errs14.map LaidE.datum ++ D) (hp : (l.all fun x => x.2.handleName?.isNone) = true) (h : laidMetH Tryz.prog l W) : ∃ ea, EnvS ea W := by
 rw [MakeChecks.laidMetH_plain _ _ _ hp] at h
 obtain ⟨rfl, D, rfl⟩ := hl
 have h2 := (laidMet_parts h).2
 have h3 := (laidMet_parts (A := [("internal/strconv.uint64pow10", Lib.tabData .u64 Lib.pow10Tab)]) (B := errs14.map LaidE.datum ++ D) h2).2
 have h4 := (laidMet_parts h3).1
 obtain ⟨ea, he⟩ := errsS_of_met h4
 exact ⟨ea, he, Lib.tabIs_of_head (g := 15) (t := 380) (e := 202) (n := 20) (by kernel_rfl) (by kernel_rfl) Tryz.underlying380 Tryz.underlying202 (by kernel_rfl) (by kernel_rfl) h2⟩
theorem open_at {H : Type} {enc : TypeId × Value → H} {W : World} {v : Value} {r : Reach} {b0 : Nat} {d : DataW H} {p : List MemPlace} {sp : Nat → Bool} (hv : Value.okWide Tryz.prog W r b0 125 v) (h : DataW.Trod enc Tryz.prog W 0 sp true 125 v d p) : ∃ (n0 : Int) (n1 : Int) (n2 : Int) (n3 : Int) (n4 : Int) (n5 : Int) (n6 : Int) (n7 : Int) (n8 : Int) (x9 : Nat), v = .agg #[n0, n1, n2, n3, n4, n5, n6, n7, n8, .float .f64 x9] ∧ F64 x9 := by
 obtain ⟨cs, rfl, hsz⟩ := okWide_struct Tryz.underlying125 hv
 obtain ⟨l⟩ := cs
 match l, hsz.trans (show Tryz.prog.cellsOf 125 = 10 by kernel_rfl) with
 | [v0, v1, v2, v3, v4, v5, v6, v7, v8, v9], _ =>
  obtain ⟨fuel, hf⟩ := h
  obtain ⟨xs0, k0, hk0, hxy0, _, hxl0, hfs0⟩ := DataW.trod_struct Tryz.underlying125 hf
  match xs0, hxl0 with
  | [y0_0, y0_1], _ =>
   have g0_0 := hfs0 0 _ rfl
   have g0_1 := hfs0 1 _ rfl
   simp [Value.cells, show Tryz.prog.cellsOf 81 = 9 by kernel_rfl, show Tryz.prog.cellsOf 37 = 1 by kernel_rfl] at g0_0 g0_1
   obtain ⟨xs1, k1, hk1, hxy1, _, hxl1, hfs1⟩ := DataW.trod_struct Tryz.underlying81 g0_0
   match xs1, hxl1 with
   | [y1_0, y1_1, y1_2, y1_3, y1_4, y1_5, y1_6, y1_7], _ =>
    have g1_0 := hfs1 0 _ rfl
    have g1_1 := hfs1 1 _ rfl
    have g1_2 := hfs1 2 _ rfl
    have g1_3 := hfs1 3 _ rfl
    have g1_4 := hfs1 4 _ rfl
    have g1_5 := hfs1 5 _ rfl
    have g1_6 := hfs1 6 _ rfl
    have g1_7 := hfs1 7 _ rfl
    simp [Value.cells, show Tryz.prog.cellsOf 36 = 2 by kernel_rfl, show Tryz.prog.cellsOf 3 = 1 by kernel_rfl] at g1_0 g1_1 g1_2 g1_3 g1_4 g1_5 g1_6 g1_7
    obtain ⟨xs2, k2, hk2, hxy2, _, hxl2, hfs2⟩ := DataW.trod_struct Tryz.underlying36 g1_3
    match xs2, hxl2 with
    | [y2_0, y2_1], _ =>
     have g2_0 := hfs2 0 _ rfl
     have g2_1 := hfs2 1 _ rfl
     simp [Value.cells, show Tryz.prog.cellsOf 3 = 1 by kernel_rfl] at g2_0 g2_1
     obtain ⟨z0, e0, _⟩ := DataW.trod_int Tryz.underlying3 g1_0
     (try simp only [List.cons.injEq, and_true] at e0)
     obtain ⟨z1, e1, _⟩ := DataW.trod_int Tryz.underlying3 g1_1
     (try simp only [List.cons.injEq, and_true] at e1)
     obtain ⟨z2, e2, _⟩ := DataW.trod_int Tryz.underlying3 g1_2
     (try simp only [List.cons.injEq, and_true] at e2)
     obtain ⟨z3, e3, _⟩ := DataW.trod_int Tryz.underlying3 g2_0
     (try simp only [List.cons.injEq, and_true] at e3)
     obtain ⟨z4, e4, _⟩ := DataW.trod_int Tryz.underlying3 g2_1
     (try simp only [List.cons.injEq, and_true] at e4)
     obtain ⟨z5, e5, _⟩ := DataW.trod_int Tryz.underlying3 g1_4
     (try simp only [List.cons.injEq, and_true] at e5)
     obtain ⟨z6, e6, _⟩ := DataW.trod_int Tryz.underlying3 g1_5
     (try simp only [List.cons.injEq, and_true] at e6)
     obtain ⟨z7, e7, _⟩ := DataW.trod_int Tryz.underlying3 g1_6
     (try simp only [List.cons.injEq, and_true] at e7)
     obtain ⟨z8, e8, _⟩ := DataW.trod_int Tryz.underlying3 g1_7
     (try simp only [List.cons.injEq, and_true] at e8)
     obtain ⟨z9, e9, w9⟩ := trod_f64 Tryz.underlying37 g0_1
     (try simp only [List.cons.injEq, and_true] at e9)
     subst e0 e1 e2 e3 e4 e5 e6 e7 e8 e9
     exact ⟨z0, z1, z2, z3, z4, z5, z6, z7, z8, z9, rfl, w9⟩
theorem leadAnswers_laid {l : List (String × DataW Unit)} (hl : l = Rows.leadAnswersRow.laid) {W : World} (h : laidMetH Tryz.prog l W) : ∃ ea, EnvS ea W := by
 subst hl
 exact envS_of_laid (A := Rows.leadAnswersRow.laid.take 2) (B := Rows.leadAnswersRow.laid.drop 3) ⟨by rw [pow10_dataS]; rfl, Rows.leadAnswersRow.laid.drop 17, rfl⟩ (by kernel_rfl) h
theorem leadAnswers_lifted (os : Os) (started : os.Started) (H : Type) (enc : TypeId × Value → H) :
    ReturnsInHanded {} Tryz.checked os 15 .any (fun w args => (Rows.leadAnswersSpec.pre enc Tryz.prog Tryz.f15 [] false w args ∧ laidMetH Tryz.prog Rows.leadAnswersRow.laid w) ∧ sizedMet enc Tryz.prog Tryz.f15 (OpenSpec.ofChange Rows.leadAnswersSpec) false w args)
     (Rows.leadAnswersSpec.post enc Tryz.prog Tryz.f15 false true false false) := by
 refine handed_and_shaped (C := Tryz.checked) (X := fun w _ => laidMetH Tryz.prog Rows.leadAnswersRow.laid w) (fun _ _ _ hh h => h.of_heap hh) Tryz.own started (by kernel_rfl) Tryz.func15
  (ChangeSpec.witness_shaped (enc := enc) (C := Tryz.checked) (os := os) (X := fun w _ => laidMetH Tryz.prog Rows.leadAnswersRow.laid w) false (World.laidAll Tryz.prog os Rows.leadAnswersRow.laid) #[.int .i64 0, .slice none 0 0, .agg #[.int .i64 0, .int .i64 0, .int .i64 0, .int .i64 0, .int .i64 0, .int .i64 0, .int .i64 0, .int .i64 0, .int .i64 0, .float .f64 0]] 8 (World.laidAll_os _ _ _) (World.shaped_of_ZipB (by kernel_rfl) (by kernel_rfl)) (by kernel_rfl) (by kernel_rfl) (by kernel_rfl)
    (by rw [MakeChecks.laidMetH_plain _ _ _ (by kernel_rfl)]; exact laidMet_laidAll _ (by kernel_rfl) (by kernel_rfl))) ?_
 intro W base args ds gs before hval0 hW _ hsz hL hshape _
 have hval : ∀ (j : Nat) t v, Tryz.f15.params[j]? = some t → args[j]? = some v → Value.okWide Tryz.prog W .any base t v := hval0
 have hpost : ∀ W', Below W.heap.size W W' → Rows.leadAnswersSpec.post enc Tryz.prog Tryz.f15 false true false false W args (.bool true) W' := fun W' hb =>
  frame_post (by rw [Tryz.params15]; decide +kernel) rfl rfl (fun ds h => by rw [Tryz.params15] at h; match ds, h with | [d0, d1, d2], _ => exact ⟨rfl, rfl, rfl⟩) hW hb
 obtain ⟨p, q, hA0, hV, rfl, hfz, hnd⟩ := hW
 have hA : DataW.TrodAll enc Tryz.prog W 0 (fun _ => true) true Tryz.f15.params.toList args.toList ds p := hA0
 rw [Tryz.params15] at hA hval
 obtain ⟨v0, v1, v2, d0, d1, d2, p0, p1, p2, rfl, rfl, rfl, h0, h1, h2⟩ := trodAll_three hA
 obtain ⟨x, rfl, _, _, wx⟩ := open_int Tryz.underlying3 (hval 0 _ v0 rfl rfl) h0
 obtain ⟨a1, n1, c1, rfl⟩ := okWide_slice Tryz.underlying22 (hval 1 _ v1 rfl rfl)
 obtain ⟨fs, hR, hF⟩ := open_facts h1
 obtain ⟨mk, fr, tq, man, maq, mrg, mpt, mpr, mco, now, rfl, hn⟩ := open_at (hval 2 _ v2 rfl rfl) h2
 obtain ⟨ea, hE⟩ := (leadAnswers_laid rfl hL)
 exact (law_lans x _ fs mk fr tq man maq mrg mpt mpr mco now ea W hE hR hF hn).mono fun e W' ⟨he, hb⟩ => ⟨_, he, hpost W' hb⟩
theorem js_laid : laidOutB Tryz.pinned.checked.prog = true := by kernel_rfl
theorem js_maps : mapsRowed Tryz.pinned.checked.prog = true := by kernel_rfl
theorem js_heard : Tryz.pinned.checked.prog.stopsHeard = true := by kernel_rfl
theorem js_enter : Tryz.pinned.checked.prog.mayEnter = true := by kernel_rfl
theorem js_plain : (Rows.partnerOnceRow.plainKeys == Tryz.pinned.checked.prog.plainKeys) = true := by kernel_rfl
theorem js_lift : (Rows.partnerOnceRow.lifted == Tryz.pinned.checked.prog.liftsFinal) = true := by kernel_rfl
theorem js_make : (Tryz.pinned.checked.prog.make == some Rows.partnerOnceRow.make) = true := by kernel_rfl
theorem leadAnswers_joined : joinedFacts Tryz.pinned.checked.prog 15 Tryz.f15 Rows.leadAnswersSpec Rows.leadAnswersRow = true := by
 unfold joinedFacts
 simp only [Bool.and_eq_true]
 repeat' apply And.intro
 · as_aux_lemma => kernel_rfl
 · exact js_laid
 · exact js_maps
 · as_aux_lemma => kernel_rfl
 · as_aux_lemma => kernel_rfl
 · as_aux_lemma => kernel_rfl
 · as_aux_lemma => kernel_rfl
 · as_aux_lemma => kernel_rfl
 · as_aux_lemma => kernel_rfl
 · as_aux_lemma => kernel_rfl
 · as_aux_lemma => kernel_rfl
 · as_aux_lemma => kernel_rfl
 · as_aux_lemma => kernel_rfl
 · as_aux_lemma => kernel_rfl
 · as_aux_lemma => kernel_rfl
 · as_aux_lemma => kernel_rfl
 · as_aux_lemma => kernel_rfl
 · as_aux_lemma => kernel_rfl
 · as_aux_lemma => kernel_rfl
 · as_aux_lemma => kernel_rfl
 · as_aux_lemma => kernel_rfl
 · as_aux_lemma => kernel_rfl
 · exact js_plain
 · as_aux_lemma => kernel_rfl
 · exact js_heard
 · exact js_enter
 · exact js_lift
 · exact js_make
 · as_aux_lemma => kernel_rfl
 · as_aux_lemma => kernel_rfl
 · as_aux_lemma => kernel_rfl
 · as_aux_lemma => kernel_rfl
end Go.Proofs.YtlkajejbfojkeaaGreatDoor
