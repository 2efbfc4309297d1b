/- Plain functions: an op on a pair, as the laws of moves do it; what all pairs that come about keep. No program in sight. -/
import Derived.Test.YtkanakhlmmpapaaDoorMovPair
set_option linter.unusedVariables false
set_option linter.unusedSimpArgs false
namespace Go.Proofs.YtkanakhlmmpapaaDoor

structure MOp where
  what : Int
  side : Int
  kind : Int
  at_ : Int
  copies : Bool
def lDo (P : MPair) (o : MOp) : MPair × Eff :=
  if o.what = 1 then ((mPDo P o.side o.kind).1, eff0) else if o.what = 2 then ((mPAgain P o.side).1, eff0)
  else if o.what = 3 then ((mPDeliver P o.at_ o.copies).1, (mPDeliver P o.at_ o.copies).2.1)
  else if o.what = 4 then ((mPDrop P o.at_).1, eff0) else (P, eff0)

structure Ok (P : MPair) : Prop where
  good : Good P
  len : P.fl.length ≤ 64
theorem set_fl (P : MPair) (d : Int) (s : MSeat) : (P.set d s).fl = P.fl := set_set P d s
theorem put_len1 (P : MPair) (d k : Int) (h : P.fl.length < 64) : (P.put d k).fl.length ≤ 64 := by have := put_len P d k; omega
theorem notFull {P : MPair} (h : ¬ mFull P = true) : P.fl.length < 64 := by unfold mFull at h; simp only [decide_eq_true_eq] at h; omega
theorem Ok.do {P : MPair} (h : Ok P) (d k : Int) : Ok (mPDo P d k).1 := by
  refine ⟨h.good.do d k, ?_⟩
  unfold mPDo
  by_cases hs : mSide d = false
  · rw [if_pos hs]; exact h.len
  by_cases hf : mFull P = true
  · rw [if_neg hs, if_pos hf]; exact h.len
  rw [if_neg hs, if_neg hf]
  by_cases he : (mDo (P.seat d) k).2 ≠ 0
  · rw [if_pos he]; exact h.len
  · rw [if_neg he]
    exact put_len1 _ _ _ (by rw [set_fl]; exact notFull hf)
theorem Ok.again {P : MPair} (h : Ok P) (d : Int) : Ok (mPAgain P d).1 := by
  refine ⟨h.good.again d, ?_⟩
  unfold mPAgain
  by_cases hs : mSide d = false ∨ mFull P = true ∨ mWaits (P.seat d) = 0
  · rw [if_pos hs]; exact h.len
  · rw [if_neg hs]
    exact put_len1 _ _ _ (notFull (fun h => hs (.inr (.inl h))))
theorem Ok.deliver {P : MPair} (h : Ok P) (i : Int) (b : Bool) : Ok (mPDeliver P i b).1 := by
  refine ⟨h.good.deliver i b, ?_⟩
  unfold mPDeliver
  by_cases hs : i < 0 ∨ (P.fl.length : Int) ≤ i
  · rw [if_pos hs]; exact h.len
  by_cases hf : b = true ∧ mFull P = true
  · rw [if_neg hs, if_pos hf]; exact h.len
  rw [if_neg hs, if_neg hf]
  unfold mGive
  have hi : i.toNat < P.fl.length := by omega
  by_cases he : (mTell (P.seat (P.fl.getD i.toNat (0, 0)).1) (P.fl.getD i.toNat (0, 0)).2).2 ≠ 0
  · rw [if_pos he]; exact h.len
  · rw [if_neg he]
    refine put_len1 _ _ _ ?_
    unfold mCut
    cases b with
    | true => rw [if_pos rfl, set_fl]; exact notFull (fun h => hf ⟨rfl, h⟩)
    | false =>
      rw [if_neg (by simp)]
      show ((P.set _ _).fl.eraseIdx i.toNat).length < 64
      rw [set_fl, List.length_eraseIdx_of_lt hi]
      have := h.len
      omega
theorem Ok.drop {P : MPair} (h : Ok P) (i : Int) : Ok (mPDrop P i).1 := by
  refine ⟨h.good.drop i, ?_⟩
  unfold mPDrop
  by_cases hs : i < 0 ∨ (P.fl.length : Int) ≤ i
  · rw [if_pos hs]; exact h.len
  · rw [if_neg hs]
    show (mCut P i.toNat false).fl.length ≤ 64
    unfold mCut
    rw [if_neg (by simp)]
    show (P.fl.eraseIdx i.toNat).length ≤ 64
    rw [List.length_eraseIdx_of_lt (by omega)]
    have := h.len
    omega
theorem Ok.new {p : Int} (hp : p = 1 ∨ p = 2) : Ok (newPair p) := ⟨Good.new hp, by simp [newPair]⟩
theorem Ok.step {P : MPair} (h : Ok P) (o : MOp) : Ok (lDo P o).1 := by
  unfold lDo
  by_cases h1 : o.what = 1
  · rw [if_pos h1]; exact h.do _ _
  rw [if_neg h1]
  by_cases h2 : o.what = 2
  · rw [if_pos h2]; exact h.again _
  rw [if_neg h2]
  by_cases h3 : o.what = 3
  · rw [if_pos h3]; exact h.deliver _ _
  rw [if_neg h3]
  by_cases h4 : o.what = 4
  · rw [if_pos h4]; exact h.drop _
  rw [if_neg h4]; exact h
/-- the protocol never changes -/
theorem good_seat {P : MPair} (h : Good P) : ∃ r ∈ goodL, r.c = P.c ∧ r.x = P.x := by
  obtain ⟨r, hr, h1, h2, _⟩ := h
  exact ⟨r, hr, h1, h2⟩

/-- the law's word: on the way to an end by a kind -/
def lOn (s : MSeat) (how : Int) : Bool :=
  if s.s = 14 then decide (s.h = how) else if how = 7 then decide (s.s = 6) else if how = 8 then decide (s.s = 7)
  else if how = 6 then decide (s.s = 2 ∨ s.s = 3) else if how = 1 then decide (s.s = 13) else if how = 4 then decide (8 ≤ s.s ∧ s.s ≤ 11) else if how = 5 then decide (s.s = 12) else false
def safeB (c x : MSeat) : Bool :=
  !(decide (c.s = 14) && !lOn x c.h) && !(decide (x.s = 14) && !lOn c x.h) && !(decide (c.s = 5 ∨ c.s = 6 ∨ c.s = 7) && !decide (x.s = 5 ∨ x.s = 6 ∨ x.s = 7 ∨ x.s = 11 ∨ x.s = 14))
theorem safe_all : goodL.all (fun r => safeB r.c r.x) = true := by decide +kernel
theorem Good.safe {P : MPair} (h : Good P) : safeB P.c P.x = true := by
  obtain ⟨r, hr, h1, h2⟩ := good_seat h
  have := List.all_eq_true.1 safe_all r hr
  rw [h1, h2] at this; exact this
end Go.Proofs.YtkanakhlmmpapaaDoor
