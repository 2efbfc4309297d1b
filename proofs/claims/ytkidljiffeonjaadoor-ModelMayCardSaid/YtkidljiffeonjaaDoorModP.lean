/- Which seats may go to which: the code's answer and the document's are the same. Plain. -/
import Derived.Test.YtkidljiffeonjaaDoorMovEq
set_option linter.unusedVariables false
set_option linter.unusedSimpArgs false
namespace Go.Proofs.YtkidljiffeonjaaDoor

/-- the seats to which a seat goes by one kind: told, done -/
def mstep (a : MSeat) (k : Int) : List MSeat := (if (mTell a k).2 = 0 ∧ (mTell a k).1.ch = true then [(mTell a k).1.seat] else []) ++ (if (mDo a k).2 = 0 then [(mDo a k).1.seat] else [])
/-- kinds 1 to n -/
def kupto (n : Nat) : List Int := (List.range n).map fun (i : Nat) => (i : Int) + 1
theorem kupto_succ (n : Nat) : kupto (n + 1) = kupto n ++ [(n : Int) + 1] := by unfold kupto; rw [List.range_succ, List.map_append]; rfl
theorem kupto_length (n : Nat) : (kupto n).length = n := by simp [kupto]
def mflat (a : MSeat) (ks : List Int) : List MSeat := ks.flatMap (mstep a)
theorem mflat_snoc (a : MSeat) (ks : List Int) (k : Int) : mflat a (ks ++ [k]) = mflat a ks ++ mstep a k := by simp [mflat]
def mlate (a b : MSeat) : Bool := decide ((mTell a 3).2 = 0 ∧ (mTell a 3).1.ch = true ∧ a.d = 1 ∧ (mDo (mTell a 3).1.seat 11).2 = 0 ∧ (mDo (mTell a 3).1.seat 11).1.seat = b)
def mMay (a b : MSeat) : Bool := decide (a = b) || decide (b ∈ mflat a (kupto 14)) || mlate a b
/-- does the document's round k answer true? -/
def rhit (a b : MSeat) (k : Int) : Bool := decide ((mTell a k).2 = 0 ∧ (mTell a k).1.ch = true ∧ (mTell a k).1.seat = b) || decide ((mDo a k).2 = 0 ∧ (mDo a k).1.seat = b)
  || decide ((mTell a k).2 = 0 ∧ (mTell a k).1.ch = true ∧ a.d = 1 ∧ (mTell a k).1.seat.s = 5 ∧ (mDo (mTell a k).1.seat 11).2 = 0 ∧ (mDo (mTell a k).1.seat 11).1.seat = b)
def rMay (a b : MSeat) : Bool := decide (a = b) || (kupto 14).any (rhit a b)

/-- a finite law of right seats -/
def okAll (P : MSeat → Bool) : Bool := (List.range 3).all fun p => (List.range 3).all fun d => (List.range 15).all fun s => p == 0 || d == 0 || (if s = 14 then hows else [0]).all fun h => !rHas p d s || P ⟨p, d, s, h⟩
theorem right_ind {P : MSeat → Bool} (hP : okAll P = true) (x : MSeat) (hx : mRight x = true) : P x = true := by
  have h1 := right_eq x
  rw [hx] at h1
  have h2 := h1.symm
  simp only [Bool.and_eq_true, decide_eq_true_eq] at h2
  obtain ⟨⟨⟨p1, p2, d1, d2⟩, hh⟩, hw⟩ := h2
  obtain ⟨p, d, s, h⟩ := x
  simp only at p1 p2 d1 d2 hh hw
  have hs : 1 ≤ s ∧ s ≤ 14 := by
    refine Decidable.byContradiction fun hs => ?_
    rw [rHas_out hs] at hh; cases hh
  obtain ⟨pn, rfl⟩ : ∃ n : Nat, p = n := ⟨p.toNat, by omega⟩
  obtain ⟨dn, rfl⟩ : ∃ n : Nat, d = n := ⟨d.toNat, by omega⟩
  obtain ⟨sn, rfl⟩ : ∃ n : Nat, s = n := ⟨s.toNat, by omega⟩
  have ha := List.all_eq_true.1 (List.all_eq_true.1 (List.all_eq_true.1 hP pn (List.mem_range.2 (by omega))) dn (List.mem_range.2 (by omega))) sn (List.mem_range.2 (by omega))
  simp only [Bool.or_eq_true, beq_iff_eq] at ha
  have hm : h ∈ (if sn = 14 then hows else [0]) := by
    by_cases h14 : sn = 14
    · subst h14
      rw [if_pos (show ((14 : Nat) : Int) = 14 from rfl)] at hw
      rw [if_pos rfl]
      simp only [decide_eq_true_eq] at hw
      simp [hows]; omega
    · rw [if_neg h14]
      rw [if_neg (by omega)] at hw
      simpa using hw
  have hb : ((if sn = 14 then hows else [0]).all fun h => !rHas pn dn sn || P ⟨pn, dn, sn, h⟩) = true := by
    rcases ha with (ha | ha) | ha
    · omega
    · omega
    · exact ha
  have hc := List.all_eq_true.1 hb h hm
  simpa only [Bool.or_eq_true, Bool.not_eq_true', hh, Bool.true_eq_false, false_or] using hc
/-- told a kind to a Completed seat: it was IsCompleted; and whoever may compensate behind IsCompleted is Completed -/
def lateOk (a : MSeat) : Bool := ((List.range 15).all fun k : Nat => k == 3 || !decide ((mTell a k).2 = 0 ∧ (mTell a k).1.ch = true ∧ a.d = 1 ∧ (mTell a k).1.seat.s = 5))
  && (!decide ((mTell a 3).2 = 0 ∧ (mTell a 3).1.ch = true ∧ a.d = 1 ∧ (mDo (mTell a 3).1.seat 11).2 = 0) || decide ((mTell a 3).1.seat.s = 5))
set_option maxRecDepth 100000 in
theorem late_all : okAll lateOk = true := by decide +kernel
theorem tell_right {a : MSeat} {k : Int} (h : (mTell a k).2 = 0) : mRight a = true := by
  cases hr : mRight a
  · unfold mTell at h
    rw [if_pos hr] at h
    cases h
  · rfl
theorem late_kind {a : MSeat} {k : Int} (h0 : 1 ≤ k) (h1 : k ≤ 14) (h : (mTell a k).2 = 0 ∧ (mTell a k).1.ch = true ∧ a.d = 1 ∧ (mTell a k).1.seat.s = 5) : k = 3 := by
  have := right_ind late_all a (tell_right h.1)
  unfold lateOk at this
  simp only [Bool.and_eq_true] at this
  obtain ⟨n, rfl⟩ : ∃ n : Nat, k = n := ⟨k.toNat, by omega⟩
  have ha := List.all_eq_true.1 this.1 n (List.mem_range.2 (by omega))
  simp only [Bool.or_eq_true, beq_iff_eq, Bool.not_eq_true', decide_eq_false_iff_not] at ha
  rcases ha with ha | ha
  · omega
  · exact absurd h ha
theorem late_five {a : MSeat} (h : (mTell a 3).2 = 0 ∧ (mTell a 3).1.ch = true ∧ a.d = 1 ∧ (mDo (mTell a 3).1.seat 11).2 = 0) : (mTell a 3).1.seat.s = 5 := by
  have := right_ind late_all a (tell_right h.1)
  unfold lateOk at this
  simp only [Bool.and_eq_true, Bool.or_eq_true, Bool.not_eq_true', decide_eq_false_iff_not, decide_eq_true_eq] at this
  rcases this.2 with ha | ha
  · exact absurd h ha
  · exact ha
theorem mem_kupto {k : Int} {n : Nat} : k ∈ kupto n ↔ 1 ≤ k ∧ k ≤ n := by
  unfold kupto
  rw [List.mem_map]
  constructor
  · rintro ⟨i, hi, rfl⟩; rw [List.mem_range] at hi; omega
  · rintro ⟨h1, h2⟩; exact ⟨(k - 1).toNat, List.mem_range.2 (by omega), by omega⟩
theorem mem_mstep {a b : MSeat} {k : Int} : b ∈ mstep a k ↔ ((mTell a k).2 = 0 ∧ (mTell a k).1.ch = true ∧ (mTell a k).1.seat = b) ∨ ((mDo a k).2 = 0 ∧ (mDo a k).1.seat = b) := by
  unfold mstep
  rw [List.mem_append]
  constructor
  · rintro (h | h)
    · split at h
      · rename_i hc; exact .inl ⟨hc.1, hc.2, (List.mem_singleton.1 h).symm⟩
      · cases h
    · split at h
      · rename_i hc; exact .inr ⟨hc, (List.mem_singleton.1 h).symm⟩
      · cases h
  · rintro (⟨h1, h2, rfl⟩ | ⟨h1, rfl⟩)
    · left; rw [if_pos ⟨h1, h2⟩]; exact List.mem_singleton.2 rfl
    · right; rw [if_pos h1]; exact List.mem_singleton.2 rfl
theorem may_same (a b : MSeat) : mMay a b = rMay a b := by
  rw [Bool.eq_iff_iff]
  unfold mMay rMay mlate mflat
  simp only [Bool.or_eq_true, decide_eq_true_eq, List.mem_flatMap, List.any_eq_true, mem_mstep, rhit]
  constructor
  · rintro ((h | ⟨k, hk, h | h⟩) | h)
    · exact .inl h
    · exact .inr ⟨k, hk, .inl (.inl h)⟩
    · exact .inr ⟨k, hk, .inl (.inr h)⟩
    · exact .inr ⟨3, mem_kupto.2 (by omega), .inr ⟨h.1, h.2.1, h.2.2.1, late_five ⟨h.1, h.2.1, h.2.2.1, h.2.2.2.1⟩, h.2.2.2.1, h.2.2.2.2⟩⟩
  · rintro (h | ⟨k, hk, (h | h) | h⟩)
    · exact .inl (.inl h)
    · exact .inl (.inr ⟨k, hk, .inl h⟩)
    · exact .inl (.inr ⟨k, hk, .inr h⟩)
    · have hk2 := mem_kupto.1 hk
      have := late_kind hk2.1 (by omega) ⟨h.1, h.2.1, h.2.2.1, h.2.2.2.1⟩
      subst this
      exact .inr ⟨h.1, h.2.1, h.2.2.1, h.2.2.2.2.1, h.2.2.2.2.2⟩
end Go.Proofs.YtkidljiffeonjaaDoor
