/- Plain functions: a pair of seats, what is on its way between them, and the pairs that can come about. No program in sight. -/
import Derived.Test.YtkanakhlmmpapaaDoorMovPlain
set_option linter.unusedVariables false
namespace Go.Proofs.YtkanakhlmmpapaaDoor

/-- both sides, and what is on its way: to whom, which kind -/
structure MPair where
  c : MSeat
  x : MSeat
  fl : List (Int × Int)
def MPair.seat (P : MPair) (d : Int) : MSeat := if d = 1 then P.c else P.x
def MPair.set (P : MPair) (d : Int) (s : MSeat) : MPair := if d = 1 then ⟨s, P.x, P.fl⟩ else ⟨P.c, s, P.fl⟩
def MPair.put (P : MPair) (d k : Int) : MPair := if k = 0 then P else ⟨P.c, P.x, P.fl ++ [(3 - d, k)]⟩
def mSide (d : Int) : Bool := decide (d = 1 ∨ d = 2)
def mFull (P : MPair) : Bool := decide (64 ≤ P.fl.length)
def mPDo (P : MPair) (d k : Int) : MPair × Int :=
  if mSide d = false then (P, 1) else if mFull P = true then (P, 6)
  else if (mDo (P.seat d) k).2 ≠ 0 then (P, (mDo (P.seat d) k).2)
  else ((P.set d (mDo (P.seat d) k).1.seat).put d (mDo (P.seat d) k).1.send, 0)
def mPAgain (P : MPair) (d : Int) : MPair × Bool :=
  if mSide d = false ∨ mFull P = true ∨ mWaits (P.seat d) = 0 then (P, false) else (P.put d (mWaits (P.seat d)), true)
def mCut (P : MPair) (i : Nat) (copies : Bool) : MPair := if copies = true then P else ⟨P.c, P.x, P.fl.eraseIdx i⟩
def mGive (P : MPair) (i : Nat) (t k : Int) (copies : Bool) : MPair × Eff × Int :=
  if (mTell (P.seat t) k).2 ≠ 0 then (P, eff0, (mTell (P.seat t) k).2)
  else ((mCut (P.set t (mTell (P.seat t) k).1.seat) i copies).put t (mTell (P.seat t) k).1.send, (mTell (P.seat t) k).1, 0)
def mPDeliver (P : MPair) (i : Int) (copies : Bool) : MPair × Eff × Int :=
  if i < 0 ∨ (P.fl.length : Int) ≤ i then (P, eff0, 1) else if copies = true ∧ mFull P = true then (P, eff0, 6)
  else mGive P i.toNat (P.fl.getD i.toNat (0, 0)).1 (P.fl.getD i.toNat (0, 0)).2 copies
def mPDrop (P : MPair) (i : Int) : MPair × Int :=
  if i < 0 ∨ (P.fl.length : Int) ≤ i then (P, 1) else (mCut P i.toNat false, 0)
def newPair (p : Int) : MPair := ⟨⟨p, 1, 1, 0⟩, ⟨p, 2, 1, 0⟩, []⟩

/-- a row: two seats, and the kinds that may be on their way between them -/
structure GRow where
  c : MSeat
  x : MSeat
  ms : List (Int × Int)
  deriving DecidableEq
def goodL : List GRow := [
  ⟨⟨1, 1, 1, 0⟩, ⟨1, 2, 1, 0⟩, []⟩,
  ⟨⟨1, 1, 1, 0⟩, ⟨1, 2, 5, 0⟩, [(1, 3)]⟩,
  ⟨⟨1, 1, 1, 0⟩, ⟨1, 2, 8, 0⟩, [(1, 4)]⟩,
  ⟨⟨1, 1, 1, 0⟩, ⟨1, 2, 12, 0⟩, [(1, 5)]⟩,
  ⟨⟨1, 1, 1, 0⟩, ⟨1, 2, 13, 0⟩, [(1, 1)]⟩,
  ⟨⟨1, 1, 2, 0⟩, ⟨1, 2, 1, 0⟩, [(2, 10)]⟩,
  ⟨⟨1, 1, 2, 0⟩, ⟨1, 2, 2, 0⟩, [(2, 10)]⟩,
  ⟨⟨1, 1, 2, 0⟩, ⟨1, 2, 5, 0⟩, [(1, 3), (2, 10)]⟩,
  ⟨⟨1, 1, 2, 0⟩, ⟨1, 2, 8, 0⟩, [(1, 4), (2, 10)]⟩,
  ⟨⟨1, 1, 2, 0⟩, ⟨1, 2, 9, 0⟩, [(1, 4), (2, 10)]⟩,
  ⟨⟨1, 1, 2, 0⟩, ⟨1, 2, 12, 0⟩, [(1, 5), (2, 10)]⟩,
  ⟨⟨1, 1, 2, 0⟩, ⟨1, 2, 13, 0⟩, [(1, 1), (2, 10)]⟩,
  ⟨⟨1, 1, 2, 0⟩, ⟨1, 2, 14, 6⟩, [(1, 6), (2, 10)]⟩,
  ⟨⟨1, 1, 5, 0⟩, ⟨1, 2, 5, 0⟩, [(1, 3), (2, 10)]⟩,
  ⟨⟨1, 1, 6, 0⟩, ⟨1, 2, 5, 0⟩, [(1, 3), (2, 9), (2, 10)]⟩,
  ⟨⟨1, 1, 6, 0⟩, ⟨1, 2, 6, 0⟩, [(1, 3), (2, 9), (2, 10)]⟩,
  ⟨⟨1, 1, 6, 0⟩, ⟨1, 2, 14, 7⟩, [(1, 3), (1, 6), (1, 7), (2, 9), (2, 10)]⟩,
  ⟨⟨1, 1, 7, 0⟩, ⟨1, 2, 5, 0⟩, [(1, 3), (2, 10), (2, 11)]⟩,
  ⟨⟨1, 1, 7, 0⟩, ⟨1, 2, 7, 0⟩, [(1, 3), (2, 10), (2, 11)]⟩,
  ⟨⟨1, 1, 7, 0⟩, ⟨1, 2, 11, 0⟩, [(1, 3), (1, 4), (2, 10), (2, 11)]⟩,
  ⟨⟨1, 1, 7, 0⟩, ⟨1, 2, 14, 8⟩, [(1, 3), (1, 6), (1, 8), (2, 10), (2, 11)]⟩,
  ⟨⟨1, 1, 14, 1⟩, ⟨1, 2, 13, 0⟩, [(1, 1), (2, 10), (2, 13)]⟩,
  ⟨⟨1, 1, 14, 1⟩, ⟨1, 2, 14, 1⟩, [(1, 1), (1, 6), (2, 10), (2, 13)]⟩,
  ⟨⟨1, 1, 14, 4⟩, ⟨1, 2, 8, 0⟩, [(1, 4), (2, 10), (2, 12)]⟩,
  ⟨⟨1, 1, 14, 4⟩, ⟨1, 2, 9, 0⟩, [(1, 4), (2, 10), (2, 12)]⟩,
  ⟨⟨1, 1, 14, 4⟩, ⟨1, 2, 11, 0⟩, [(1, 3), (1, 4), (2, 10), (2, 11), (2, 12)]⟩,
  ⟨⟨1, 1, 14, 4⟩, ⟨1, 2, 14, 4⟩, [(1, 3), (1, 4), (1, 6), (1, 8), (2, 10), (2, 11), (2, 12)]⟩,
  ⟨⟨1, 1, 14, 5⟩, ⟨1, 2, 12, 0⟩, [(1, 5), (2, 10), (2, 14)]⟩,
  ⟨⟨1, 1, 14, 5⟩, ⟨1, 2, 14, 5⟩, [(1, 5), (1, 6), (2, 10), (2, 14)]⟩,
  ⟨⟨1, 1, 14, 6⟩, ⟨1, 2, 14, 6⟩, [(1, 6), (2, 10)]⟩,
  ⟨⟨1, 1, 14, 7⟩, ⟨1, 2, 14, 7⟩, [(1, 3), (1, 6), (1, 7), (2, 9), (2, 10)]⟩,
  ⟨⟨1, 1, 14, 8⟩, ⟨1, 2, 14, 8⟩, [(1, 3), (1, 6), (1, 8), (2, 10), (2, 11)]⟩,
  ⟨⟨2, 1, 1, 0⟩, ⟨2, 2, 1, 0⟩, []⟩,
  ⟨⟨2, 1, 1, 0⟩, ⟨2, 2, 8, 0⟩, [(1, 4)]⟩,
  ⟨⟨2, 1, 1, 0⟩, ⟨2, 2, 12, 0⟩, [(1, 5)]⟩,
  ⟨⟨2, 1, 1, 0⟩, ⟨2, 2, 13, 0⟩, [(1, 1)]⟩,
  ⟨⟨2, 1, 2, 0⟩, ⟨2, 2, 1, 0⟩, [(2, 10)]⟩,
  ⟨⟨2, 1, 2, 0⟩, ⟨2, 2, 2, 0⟩, [(2, 10)]⟩,
  ⟨⟨2, 1, 2, 0⟩, ⟨2, 2, 8, 0⟩, [(1, 4), (2, 10)]⟩,
  ⟨⟨2, 1, 2, 0⟩, ⟨2, 2, 9, 0⟩, [(1, 4), (2, 10)]⟩,
  ⟨⟨2, 1, 2, 0⟩, ⟨2, 2, 12, 0⟩, [(1, 5), (2, 10)]⟩,
  ⟨⟨2, 1, 2, 0⟩, ⟨2, 2, 13, 0⟩, [(1, 1), (2, 10)]⟩,
  ⟨⟨2, 1, 2, 0⟩, ⟨2, 2, 14, 6⟩, [(1, 6), (2, 10)]⟩,
  ⟨⟨2, 1, 3, 0⟩, ⟨2, 2, 1, 0⟩, [(2, 2), (2, 10)]⟩,
  ⟨⟨2, 1, 3, 0⟩, ⟨2, 2, 2, 0⟩, [(2, 2), (2, 10)]⟩,
  ⟨⟨2, 1, 3, 0⟩, ⟨2, 2, 4, 0⟩, [(2, 2), (2, 10)]⟩,
  ⟨⟨2, 1, 3, 0⟩, ⟨2, 2, 5, 0⟩, [(1, 3), (2, 2), (2, 10)]⟩,
  ⟨⟨2, 1, 3, 0⟩, ⟨2, 2, 8, 0⟩, [(1, 4), (2, 2), (2, 10)]⟩,
  ⟨⟨2, 1, 3, 0⟩, ⟨2, 2, 9, 0⟩, [(1, 4), (2, 2), (2, 10)]⟩,
  ⟨⟨2, 1, 3, 0⟩, ⟨2, 2, 10, 0⟩, [(1, 4), (2, 2), (2, 10)]⟩,
  ⟨⟨2, 1, 3, 0⟩, ⟨2, 2, 12, 0⟩, [(1, 5), (2, 2), (2, 10)]⟩,
  ⟨⟨2, 1, 3, 0⟩, ⟨2, 2, 13, 0⟩, [(1, 1), (2, 2), (2, 10)]⟩,
  ⟨⟨2, 1, 3, 0⟩, ⟨2, 2, 14, 6⟩, [(1, 6), (2, 2), (2, 10)]⟩,
  ⟨⟨2, 1, 4, 0⟩, ⟨2, 2, 1, 0⟩, [(2, 2)]⟩,
  ⟨⟨2, 1, 4, 0⟩, ⟨2, 2, 4, 0⟩, [(2, 2)]⟩,
  ⟨⟨2, 1, 4, 0⟩, ⟨2, 2, 5, 0⟩, [(1, 3), (2, 2)]⟩,
  ⟨⟨2, 1, 4, 0⟩, ⟨2, 2, 8, 0⟩, [(1, 4), (2, 2)]⟩,
  ⟨⟨2, 1, 4, 0⟩, ⟨2, 2, 10, 0⟩, [(1, 4), (2, 2)]⟩,
  ⟨⟨2, 1, 4, 0⟩, ⟨2, 2, 12, 0⟩, [(1, 5), (2, 2)]⟩,
  ⟨⟨2, 1, 4, 0⟩, ⟨2, 2, 13, 0⟩, [(1, 1), (2, 2)]⟩,
  ⟨⟨2, 1, 5, 0⟩, ⟨2, 2, 5, 0⟩, [(1, 3), (2, 2), (2, 10)]⟩,
  ⟨⟨2, 1, 6, 0⟩, ⟨2, 2, 5, 0⟩, [(1, 3), (2, 2), (2, 9), (2, 10)]⟩,
  ⟨⟨2, 1, 6, 0⟩, ⟨2, 2, 6, 0⟩, [(1, 3), (2, 2), (2, 9), (2, 10)]⟩,
  ⟨⟨2, 1, 6, 0⟩, ⟨2, 2, 14, 7⟩, [(1, 3), (1, 6), (1, 7), (2, 2), (2, 9), (2, 10)]⟩,
  ⟨⟨2, 1, 7, 0⟩, ⟨2, 2, 5, 0⟩, [(1, 3), (2, 2), (2, 10), (2, 11)]⟩,
  ⟨⟨2, 1, 7, 0⟩, ⟨2, 2, 7, 0⟩, [(1, 3), (2, 2), (2, 10), (2, 11)]⟩,
  ⟨⟨2, 1, 7, 0⟩, ⟨2, 2, 11, 0⟩, [(1, 3), (1, 4), (2, 2), (2, 10), (2, 11)]⟩,
  ⟨⟨2, 1, 7, 0⟩, ⟨2, 2, 14, 8⟩, [(1, 3), (1, 6), (1, 8), (2, 2), (2, 10), (2, 11)]⟩,
  ⟨⟨2, 1, 14, 1⟩, ⟨2, 2, 13, 0⟩, [(1, 1), (2, 2), (2, 10), (2, 13)]⟩,
  ⟨⟨2, 1, 14, 1⟩, ⟨2, 2, 14, 1⟩, [(1, 1), (1, 6), (2, 2), (2, 10), (2, 13)]⟩,
  ⟨⟨2, 1, 14, 4⟩, ⟨2, 2, 8, 0⟩, [(1, 4), (2, 2), (2, 10), (2, 12)]⟩,
  ⟨⟨2, 1, 14, 4⟩, ⟨2, 2, 9, 0⟩, [(1, 4), (2, 2), (2, 10), (2, 12)]⟩,
  ⟨⟨2, 1, 14, 4⟩, ⟨2, 2, 10, 0⟩, [(1, 4), (2, 2), (2, 10), (2, 12)]⟩,
  ⟨⟨2, 1, 14, 4⟩, ⟨2, 2, 11, 0⟩, [(1, 3), (1, 4), (2, 2), (2, 10), (2, 11), (2, 12)]⟩,
  ⟨⟨2, 1, 14, 4⟩, ⟨2, 2, 14, 4⟩, [(1, 3), (1, 4), (1, 6), (1, 8), (2, 2), (2, 10), (2, 11), (2, 12)]⟩,
  ⟨⟨2, 1, 14, 5⟩, ⟨2, 2, 12, 0⟩, [(1, 5), (2, 2), (2, 10), (2, 14)]⟩,
  ⟨⟨2, 1, 14, 5⟩, ⟨2, 2, 14, 5⟩, [(1, 5), (1, 6), (2, 2), (2, 10), (2, 14)]⟩,
  ⟨⟨2, 1, 14, 6⟩, ⟨2, 2, 14, 6⟩, [(1, 6), (2, 2), (2, 10)]⟩,
  ⟨⟨2, 1, 14, 7⟩, ⟨2, 2, 14, 7⟩, [(1, 3), (1, 6), (1, 7), (2, 2), (2, 9), (2, 10)]⟩,
  ⟨⟨2, 1, 14, 8⟩, ⟨2, 2, 14, 8⟩, [(1, 3), (1, 6), (1, 8), (2, 2), (2, 10), (2, 11)]⟩]
def GRow.seat (r : GRow) (d : Int) : MSeat := if d = 1 then r.c else r.x
/-- the row has a follower: the seats with one of them changed, and one kind more on its way -/
def goesTo (r : GRow) (d : Int) (s : MSeat) (k : Int) : Bool :=
  goodL.any fun t => decide (t.c = (if d = 1 then s else r.c)) && decide (t.x = (if d = 1 then r.x else s)) && r.ms.all (fun m => t.ms.contains m) && (decide (k = 0) || t.ms.contains (3 - d, k))
def okDo (r : GRow) (d k : Int) : Bool := decide ((mDo (r.seat d) k).2 ≠ 0) || goesTo r d (mDo (r.seat d) k).1.seat (mDo (r.seat d) k).1.send
def okTell (r : GRow) (m : Int × Int) : Bool := (decide (m.1 = 1) || decide (m.1 = 2)) && decide ((mTell (r.seat m.1) m.2).2 = 0) && goesTo r m.1 (mTell (r.seat m.1) m.2).1.seat (mTell (r.seat m.1) m.2).1.send
def okWait (r : GRow) (d : Int) : Bool := decide (mWaits (r.seat d) = 0) || goesTo r d (r.seat d) (mWaits (r.seat d))
def okRow (r : GRow) : Bool :=
  ([1, 2].all fun d => (List.range 15).all fun k : Nat => okDo r d k) && r.ms.all (okTell r) && okWait r 1 && okWait r 2 && decide (r.ms.length ≤ 14)
set_option maxRecDepth 100000 in
theorem ok_all : goodL.all okRow = true := by decide +kernel

def Fits (r : GRow) (P : MPair) : Prop := r.c = P.c ∧ r.x = P.x ∧ ∀ m ∈ P.fl, m ∈ r.ms
/-- a pair that can come about -/
def Good (P : MPair) : Prop := ∃ r ∈ goodL, Fits r P
theorem ok_of {r : GRow} (h : r ∈ goodL) : okRow r = true := List.all_eq_true.1 ok_all r h
theorem Fits.seat {r : GRow} {P : MPair} (h : Fits r P) (d : Int) : r.seat d = P.seat d := by
  unfold GRow.seat MPair.seat; rw [h.1, h.2.1]
theorem fits_put {r : GRow} {P : MPair} {d k : Int} {s : MSeat} (h : Fits r P) (hg : goesTo r d s k = true) (hd : d = 1 ∨ d = 2) (Q : MPair) (hc : Q.c = (P.set d s).c) (hx : Q.x = (P.set d s).x) (hf : ∀ m ∈ Q.fl, m ∈ P.fl) : Good (Q.put d k) := by
  unfold goesTo at hg
  obtain ⟨t, ht, h1⟩ := List.any_eq_true.1 hg
  simp only [Bool.and_eq_true, Bool.or_eq_true, decide_eq_true_eq, List.all_eq_true, List.contains_iff_mem] at h1
  obtain ⟨⟨⟨a, b⟩, hm⟩, hk⟩ := h1
  have hcx : t.c = Q.c ∧ t.x = Q.x := by
    rw [hc, hx, a, b, h.1, h.2.1]
    unfold MPair.set
    by_cases h1 : d = 1
    · rw [if_pos h1, if_pos h1, if_pos h1]; exact ⟨rfl, rfl⟩
    · rw [if_neg h1, if_neg h1, if_neg h1]; exact ⟨rfl, rfl⟩
  refine ⟨t, ht, ?_⟩
  unfold MPair.put
  by_cases h0 : k = 0
  · rw [if_pos h0]
    exact ⟨hcx.1, hcx.2, fun m hm' => hm m (h.2.2 m (hf m hm'))⟩
  · rw [if_neg h0]
    refine ⟨hcx.1, hcx.2, fun m hm' => ?_⟩
    rcases List.mem_append.1 hm' with h' | h'
    · exact hm m (h.2.2 m (hf m h'))
    · rw [List.mem_singleton.1 h']
      exact hk.resolve_left h0
theorem Good.new {p : Int} (hp : p = 1 ∨ p = 2) : Good (newPair p) := by
  rcases hp with rfl | rfl
  · exact ⟨⟨⟨1, 1, 1, 0⟩, ⟨1, 2, 1, 0⟩, []⟩, by decide +kernel, rfl, rfl, by simp [newPair]⟩
  · exact ⟨⟨⟨2, 1, 1, 0⟩, ⟨2, 2, 1, 0⟩, []⟩, by decide +kernel, rfl, rfl, by simp [newPair]⟩
theorem mDo_out {x : MSeat} {k : Int} (h : ¬ (0 ≤ k ∧ k ≤ 14)) : (mDo x k).2 ≠ 0 := by
  unfold mDo
  by_cases hr : mRight x = false
  · rw [if_pos hr]; simp
  · have : (rStep x.p x.d k x.s).2 ≠ 0 := by
      unfold rStep
      rw [rSends_out (fun h' => h ⟨by omega, by omega⟩)]
      by_cases hs : rSide x.p x.d = false
      · rw [if_pos hs]; simp
      · rw [if_neg hs, if_pos rfl]; simp
    rw [if_neg hr, if_pos this]; exact this
theorem mSide_iff {d : Int} (h : ¬ mSide d = false) : d = 1 ∨ d = 2 := by
  unfold mSide at h; simp only [decide_eq_false_iff_not, Decidable.not_not] at h; exact h
theorem set_set (P : MPair) (d : Int) (s : MSeat) : (P.set d s).fl = P.fl := by unfold MPair.set; split <;> rfl
theorem set_self (P : MPair) (d : Int) : P.set d (P.seat d) = P := by
  unfold MPair.set MPair.seat
  by_cases h1 : d = 1
  · rw [if_pos h1, if_pos h1]
  · rw [if_neg h1, if_neg h1]
theorem Good.do {P : MPair} (h : Good P) (d k : Int) : Good (mPDo P d k).1 := by
  unfold mPDo
  by_cases hs : mSide d = false
  · rw [if_pos hs]; exact h
  by_cases hf : mFull P = true
  · rw [if_neg hs, if_pos hf]; exact h
  by_cases he : (mDo (P.seat d) k).2 ≠ 0
  · rw [if_neg hs, if_neg hf, if_pos he]; exact h
  rw [if_neg hs, if_neg hf, if_neg he]
  obtain ⟨r, hr, hF⟩ := h
  have hd := mSide_iff hs
  have hk : 0 ≤ k ∧ k ≤ 14 := Decidable.byContradiction fun hk => he (mDo_out hk)
  have ho := ok_of hr
  unfold okRow at ho
  simp only [Bool.and_eq_true, List.all_eq_true, List.mem_range] at ho
  have h1 := ho.1.1.1.1 d (by rcases hd with rfl | rfl <;> simp) k.toNat (by omega)
  rw [show ((k.toNat : Nat) : Int) = k by omega] at h1
  unfold okDo at h1
  rw [hF.seat] at h1
  simp only [Bool.or_eq_true, decide_eq_true_eq] at h1
  exact fits_put hF (h1.resolve_left he) hd _ rfl rfl (fun m hm => by rw [set_set] at hm; exact hm)
theorem Good.again {P : MPair} (h : Good P) (d : Int) : Good (mPAgain P d).1 := by
  unfold mPAgain
  by_cases hs : mSide d = false ∨ mFull P = true ∨ mWaits (P.seat d) = 0
  · rw [if_pos hs]; exact h
  rw [if_neg hs]
  obtain ⟨r, hr, hF⟩ := h
  have hd := mSide_iff (fun h => hs (.inl h))
  have ho := ok_of hr
  unfold okRow at ho
  simp only [Bool.and_eq_true] at ho
  have h1 : okWait r d = true := by rcases hd with rfl | rfl; exact ho.1.1.2; exact ho.1.2
  unfold okWait at h1
  rw [hF.seat] at h1
  simp only [Bool.or_eq_true, decide_eq_true_eq] at h1
  exact fits_put hF (h1.resolve_left (fun h => hs (.inr (.inr h)))) hd P (by rw [set_self]) (by rw [set_self]) (fun m hm => hm)
theorem mem_cut {P : MPair} {i : Nat} {b : Bool} : ∀ m ∈ (mCut P i b).fl, m ∈ P.fl := by
  unfold mCut
  intro m hm
  split at hm
  · exact hm
  · exact List.mem_of_mem_eraseIdx hm
theorem cut_c (P : MPair) (i : Nat) (b : Bool) : (mCut P i b).c = P.c := by unfold mCut; split <;> rfl
theorem cut_x (P : MPair) (i : Nat) (b : Bool) : (mCut P i b).x = P.x := by unfold mCut; split <;> rfl
theorem Good.tells {P : MPair} (h : Good P) {m : Int × Int} (hm : m ∈ P.fl) : (m.1 = 1 ∨ m.1 = 2) ∧ (mTell (P.seat m.1) m.2).2 = 0 := by
  obtain ⟨r, hr, hF⟩ := h
  have ho := ok_of hr
  unfold okRow at ho
  simp only [Bool.and_eq_true, List.all_eq_true] at ho
  have h1 := ho.1.1.1.2 m (hF.2.2 m hm)
  unfold okTell at h1
  rw [hF.seat] at h1
  simp only [Bool.and_eq_true, Bool.or_eq_true, decide_eq_true_eq] at h1
  exact h1.1
theorem Good.give {P : MPair} (h : Good P) (i : Nat) {m : Int × Int} (hm : m ∈ P.fl) (b : Bool) : Good (mGive P i m.1 m.2 b).1 := by
  have hte := h.tells hm
  unfold mGive
  rw [if_neg (by simpa using hte.2)]
  obtain ⟨r, hr, hF⟩ := h
  have ho := ok_of hr
  unfold okRow at ho
  simp only [Bool.and_eq_true, List.all_eq_true] at ho
  have h1 := ho.1.1.1.2 m (hF.2.2 m hm)
  unfold okTell at h1
  rw [hF.seat] at h1
  simp only [Bool.and_eq_true] at h1
  exact fits_put hF h1.2 hte.1 _ (cut_c _ _ _) (cut_x _ _ _) (fun m hm => by have := mem_cut m hm; rw [set_set] at this; exact this)
theorem getD_mem {l : List (Int × Int)} {i : Nat} (h : i < l.length) : l.getD i (0, 0) ∈ l := by
  rw [List.getD_eq_getElem?_getD, List.getElem?_eq_getElem h]; exact List.getElem_mem h
theorem Good.deliver {P : MPair} (h : Good P) (i : Int) (b : Bool) : Good (mPDeliver P i b).1 := by
  unfold mPDeliver
  by_cases hs : i < 0 ∨ (P.fl.length : Int) ≤ i
  · rw [if_pos hs]; exact h
  by_cases hf : b = true ∧ mFull P = true
  · rw [if_neg hs, if_pos hf]; exact h
  rw [if_neg hs, if_neg hf]
  exact h.give _ (getD_mem (by omega)) b
theorem Good.drop {P : MPair} (h : Good P) (i : Int) : Good (mPDrop P i).1 := by
  unfold mPDrop
  by_cases hs : i < 0 ∨ (P.fl.length : Int) ≤ i
  · rw [if_pos hs]; exact h
  rw [if_neg hs]
  obtain ⟨r, hr, hF⟩ := h
  exact ⟨r, hr, by rw [cut_c]; exact hF.1, by rw [cut_x]; exact hF.2.1, fun m hm => hF.2.2 m (mem_cut m hm)⟩
/-- never more than 65 on their way -/
theorem put_len (P : MPair) (d k : Int) : (P.put d k).fl.length ≤ P.fl.length + 1 := by
  unfold MPair.put; split
  · exact Nat.le_succ _
  · simp
end Go.Proofs.YtkanakhlmmpapaaDoor
