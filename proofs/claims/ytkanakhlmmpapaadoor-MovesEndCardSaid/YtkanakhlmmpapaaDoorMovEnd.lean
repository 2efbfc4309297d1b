/- Plain functions: all that is on its way is delivered; a round of the law MovesEnd. No program in sight. -/
import Derived.Test.YtkanakhlmmpapaaDoorMovStep
set_option linter.unusedVariables false
set_option linter.unusedSimpArgs false
namespace Go.Proofs.YtkanakhlmmpapaaDoor

def wt (m : Int × Int) : Nat := if m = (2, 2) ∨ m = (2, 10) then 5 else if m = (1, 3) then 4 else if m = (2, 9) ∨ m = (2, 11) then 3 else if m = (1, 1) ∨ m = (1, 4) ∨ m = (1, 5) then 2 else 1
def mu (fl : List (Int × Int)) : Nat := (fl.map wt).sum
def okWt (r : GRow) (m : Int × Int) : Bool := decide ((mTell (r.seat m.1) m.2).1.send = 0) || decide (wt (3 - m.1, (mTell (r.seat m.1) m.2).1.send) < wt m)
set_option maxRecDepth 100000 in
theorem wt_all : goodL.all (fun r => r.ms.all (okWt r)) = true := by decide +kernel
theorem wt_pos (m : Int × Int) : 1 ≤ wt m := by unfold wt; split; omega; split; omega; split; omega; split <;> omega
/-- the first one is delivered: no error, and the weight goes down -/
theorem Ok.first {P : MPair} (h : Ok P) {m : Int × Int} {rest : List (Int × Int)} (hf : P.fl = m :: rest) : (mPDeliver P 0 false).2.2 = 0 ∧ mu (mPDeliver P 0 false).1.fl < mu P.fl := by
  have hm : m ∈ P.fl := by rw [hf]; exact List.mem_cons_self ..
  have ht := h.good.tells hm
  have hD : mPDeliver P 0 false = mGive P 0 m.1 m.2 false := by
    unfold mPDeliver
    rw [if_neg (by rw [hf]; simp only [List.length_cons]; omega), if_neg (by simp), hf]
    rfl
  rw [hD]
  unfold mGive
  rw [if_neg (by simpa using ht.2)]
  refine ⟨rfl, ?_⟩
  obtain ⟨r, hr, hF⟩ := h.good
  have hw := List.all_eq_true.1 (List.all_eq_true.1 wt_all r hr) m (hF.2.2 m hm)
  unfold okWt at hw
  rw [hF.seat] at hw
  simp only [Bool.or_eq_true, decide_eq_true_eq] at hw
  obtain ⟨s, hs⟩ : ∃ s, s = (mTell (P.seat m.1) m.2).1.send := ⟨_, rfl⟩
  rw [← hs] at hw ⊢
  have hcut : (mCut (P.set m.1 (mTell (P.seat m.1) m.2).1.seat) 0 false).fl = rest := by
    unfold mCut
    rw [if_neg (by simp)]
    show (P.set _ _).fl.eraseIdx 0 = rest
    rw [set_fl, hf]; rfl
  show mu (MPair.put _ _ _).fl < _
  unfold MPair.put
  rw [hf]
  have hp := wt_pos m
  by_cases h0 : s = 0
  · rw [if_pos h0, hcut]; simp [mu]; omega
  · rw [if_neg h0]
    show mu ((mCut _ 0 false).fl ++ _) < _
    rw [hcut]
    have := hw.resolve_left h0
    simp [mu]; omega

def iterS (P : MPair) : MPair := if P.fl.isEmpty = true then P else (mPDeliver P 0 false).1
def itN : Nat → MPair → MPair
  | 0, P => P
  | n + 1, P => itN n (iterS P)
theorem itN_succ (n : Nat) (P : MPair) : itN (n + 1) P = iterS (itN n P) := by
  induction n generalizing P with
  | zero => rfl
  | succ n ih => exact ih (iterS P)
theorem itN_stay {P : MPair} (h : P.fl = []) : ∀ n, itN n P = P
  | 0 => rfl
  | n + 1 => by
    have : iterS P = P := by unfold iterS; rw [if_pos (by rw [h]; rfl)]
    show itN n (iterS P) = P
    rw [this]; exact itN_stay h n
theorem itN_add (n m : Nat) (P : MPair) : itN (n + m) P = itN m (itN n P) := by
  induction n generalizing P with
  | zero => rw [Nat.zero_add]; rfl
  | succ n ih => rw [Nat.succ_add]; exact ih (iterS P)
/-- whenever nothing is on its way any more the pair is the same -/
theorem drain_one {P : MPair} {j n : Nat} (h1 : (itN j P).fl = []) (h2 : (itN n P).fl = []) : itN j P = itN n P := by
  rw [← itN_stay h1 n, ← itN_add, Nat.add_comm, itN_add, itN_stay h2]

/-- the application answers -/
def answer (P : MPair) : MPair :=
  if mWork P.x = 2 then (mPDo P 2 3).1 else if mWork P.x = 9 then (mPDo P 2 7).1 else if mWork P.x = 10 then (mPDo P 2 6).1 else if mWork P.x = 11 then (mPDo P 2 8).1 else P
def decides (P : MPair) (k : Int) : MPair := if (mPDo P 1 k).2 ≠ 0 then (mPDo (mPDo P 1 k).1 1 10).1 else (mPDo P 1 k).1
def endRound (P : MPair) (k : Int) : MPair := (mPAgain (mPAgain (decides (answer P) k) 1).1 2).1
def endKind (closes : Bool) : Int := if closes = true then 9 else 11
/-- behind r rounds, from a pair with nothing on its way -/
def endS (P : MPair) (k : Int) : Nat → MPair
  | 0 => P
  | r + 1 => endRound (itN 12 (endS P k r)) k
def okEnd (r : GRow) (k : Int) : Bool :=
  ((List.range 6).all fun i => (itN 12 (endS ⟨r.c, r.x, []⟩ k i)).fl.isEmpty) && decide ((endS ⟨r.c, r.x, []⟩ k 6).c.s = 14) && decide ((endS ⟨r.c, r.x, []⟩ k 6).x.s = 14) && decide ((endS ⟨r.c, r.x, []⟩ k 6).c.h = (endS ⟨r.c, r.x, []⟩ k 6).x.h)
set_option maxRecDepth 100000 in
theorem end_all : goodL.all (fun r => okEnd r 9 && okEnd r 11) = true := by decide +kernel
theorem Ok.answer {P : MPair} (h : Ok P) : Ok (answer P) := by
  unfold Go.Proofs.YtkanakhlmmpapaaDoor.answer
  split
  · exact h.do _ _
  · split
    · exact h.do _ _
    · split
      · exact h.do _ _
      · split
        · exact h.do _ _
        · exact h
theorem Ok.decides {P : MPair} (h : Ok P) (k : Int) : Ok (decides P k) := by
  unfold Go.Proofs.YtkanakhlmmpapaaDoor.decides
  split
  · exact (h.do _ _).do _ _
  · exact h.do _ _
theorem Ok.endRound {P : MPair} (h : Ok P) (k : Int) : Ok (endRound P k) := ((h.answer.decides k).again 1).again 2
/-- a pair with nothing on its way is a row's -/
theorem Good.row {P : MPair} (h : Good P) (h0 : P.fl = []) : ∃ r ∈ goodL, P = ⟨r.c, r.x, []⟩ := by
  obtain ⟨r, hr, h1, h2⟩ := good_seat h
  obtain ⟨c, x, fl⟩ := P
  exact ⟨r, hr, by simp only at h0 h1 h2; rw [h0, h1, h2]⟩
theorem end_of {r : GRow} (hr : r ∈ goodL) (b : Bool) : (∀ i, i < 6 → (itN 12 (endS ⟨r.c, r.x, []⟩ (endKind b) i)).fl = []) ∧ (endS ⟨r.c, r.x, []⟩ (endKind b) 6).c.s = 14 ∧ (endS ⟨r.c, r.x, []⟩ (endKind b) 6).x.s = 14 ∧ (endS ⟨r.c, r.x, []⟩ (endKind b) 6).c.h = (endS ⟨r.c, r.x, []⟩ (endKind b) 6).x.h := by
  have h := List.all_eq_true.1 end_all r hr
  simp only [Bool.and_eq_true] at h
  have hk : okEnd r (endKind b) = true := by cases b; exact h.2; exact h.1
  unfold okEnd at hk
  simp only [Bool.and_eq_true, List.all_eq_true, List.mem_range, decide_eq_true_eq, List.isEmpty_iff] at hk
  exact ⟨hk.1.1.1, hk.1.1.2, hk.1.2, hk.2⟩
/-- how the pair stands at the head of round r of six -/
def EndAt (P : MPair) (b : Bool) : Nat → Prop
  | 0 => True
  | r + 1 => ∃ g ∈ goodL, P = endS ⟨g.c, g.x, []⟩ (endKind b) (r + 1)
theorem EndAt.next {P Q : MPair} {b : Bool} {r j : Nat} (h : EndAt P b r) (hO : Ok Q) (hQ : Q = itN j P) (h0 : Q.fl = []) (hr : r < 6) : EndAt (endRound Q (endKind b)) b (r + 1) := by
  cases r with
  | zero =>
    obtain ⟨g, hg, hP⟩ := hO.good.row h0
    refine ⟨g, hg, ?_⟩
    show endRound Q (endKind b) = endRound (itN 12 (⟨g.c, g.x, []⟩ : MPair)) (endKind b)
    rw [itN_stay rfl, hP]
  | succ r =>
    obtain ⟨g, hg, hP⟩ := h
    refine ⟨g, hg, ?_⟩
    show endRound Q (endKind b) = endRound (itN 12 (endS ⟨g.c, g.x, []⟩ (endKind b) (r + 1))) (endKind b)
    have he := (end_of hg b).1 (r + 1) hr
    rw [← hP] at he ⊢
    rw [hQ] at h0 ⊢
    rw [drain_one h0 he]
theorem EndAt.done {P : MPair} {b : Bool} (h : EndAt P b 6) : P.c.s = 14 ∧ P.x.s = 14 ∧ P.c.h = P.x.h := by
  obtain ⟨g, hg, hP⟩ := h
  have he := (end_of hg b).2
  generalize hS : endS ⟨g.c, g.x, []⟩ (endKind b) = S at he hP
  rw [hP]
  exact he
end Go.Proofs.YtkanakhlmmpapaaDoor
