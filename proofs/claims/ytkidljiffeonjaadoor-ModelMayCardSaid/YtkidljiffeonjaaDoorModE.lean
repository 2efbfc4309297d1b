/- The document's May, walked. -/
import Derived.Test.YtkidljiffeonjaaDoorRows
import Derived.WalkKit
import Derived.WalkSpells
import Derived.WalkLawsBesides
import Derived.BigQuiet
import Derived.Deep.QuietTactic
import Derived.StillTailTactics
import Derived.Handy
import Derived.Lib.Hide
import Derived.Test.YtkidljiffeonjaaDoorModP
import Derived.Test.YtkidljiffeonjaaDoorMovS
import Derived.Test.YtkidljiffeonjaaDoorBlk
set_option linter.unusedSimpArgs false
set_option linter.unusedVariables false
namespace Go.Proofs.YtkidljiffeonjaaDoor
open Go.RowKit

theorem gseatEq (p d s h p' d' s' h' : Int) (w : World) : (binOp .eql 55 (.agg #[.int .i64 p, .int .i64 d, .int .i64 s, .int .i64 h]) (.agg #[.int .i64 p', .int .i64 d', .int .i64 s', .int .i64 h'])).run Tryd.prog w = .ok (.bool (decide ((⟨p, d, s, h⟩ : MSeat) = ⟨p', d', s', h'⟩))) w := by
  by_cases h1 : p = p' <;> by_cases h2 : d = d' <;> by_cases h3 : s = s' <;> by_cases h4 : h = h' <;> (go_simp; try simp [h1, h2, h3, h4])
theorem gtell_out (x : MSeat) (k : Int) : ∃ p d s h f u v c n, mTell x k = (⟨⟨p, d, s, h⟩, f, u, v, c⟩, n) ∧ ∀ w, Calls Tryd.prog 69 #[seatV x, .int .i64 k] w (Makes (.tuple #[.agg #[.int .i64 p, .int .i64 d, .int .i64 s, .int .i64 h, .int .i64 f, .int .i64 u, .int .i64 v, .bool c], .int .i64 n]) w) := by
  have h := fun w => gtell_of x k w
  rw [← (eq_any x k).1] at h
  obtain ⟨y, hy⟩ : ∃ y, y = mTell x k := ⟨_, rfl⟩
  rw [← hy] at h ⊢
  obtain ⟨⟨⟨p, d, s, q⟩, f, u, v, c⟩, n⟩ := y
  exact ⟨p, d, s, q, f, u, v, c, n, rfl, h⟩
theorem gdo_out (x : MSeat) (k : Int) : ∃ p d s h f u v c n, mDo x k = (⟨⟨p, d, s, h⟩, f, u, v, c⟩, n) ∧ ∀ w, Calls Tryd.prog 70 #[seatV x, .int .i64 k] w (Makes (.tuple #[.agg #[.int .i64 p, .int .i64 d, .int .i64 s, .int .i64 h, .int .i64 f, .int .i64 u, .int .i64 v, .bool c], .int .i64 n]) w) := by
  have h := fun w => gdo_of x k w
  rw [← (eq_any x k).2] at h
  obtain ⟨y, hy⟩ : ∃ y, y = mDo x k := ⟨_, rfl⟩
  rw [← hy] at h ⊢
  obtain ⟨⟨⟨p, d, s, q⟩, f, u, v, c⟩, n⟩ := y
  exact ⟨p, d, s, q, f, u, v, c, n, rfl, h⟩
/-- none of the first k rounds has answered true -/
def NoHit (a b : MSeat) (k : Nat) : Prop := ∀ j : Nat, j < k → rhit a b ((j : Int) + 1) = false
theorem no_more {a b : MSeat} {k : Nat} (h : NoHit a b k) (hr : rhit a b ((k : Int) + 1) = false) : Hid (NoHit a b (k + 1)) := Lib.hid (fun j hj => by
  rcases Nat.lt_succ_iff_lt_or_eq.1 hj with h1 | h1
  · exact h j h1
  · subst h1; exact hr)
theorem hit_true {a b : MSeat} {k : Nat} (hab : a ≠ b) (hk : k < 14) (hr : rhit a b ((k : Int) + 1) = true) : rMay a b = true := by
  unfold rMay
  rw [Bool.or_eq_true]
  exact .inr (List.any_eq_true.2 ⟨_, mem_kupto.2 (by omega), hr⟩)
theorem none_false {a b : MSeat} (hab : a ≠ b) (h : NoHit a b 14) : rMay a b = false := by
  unfold rMay
  rw [decide_eq_false hab, Bool.false_or]
  cases e : (kupto 14).any (rhit a b)
  · rfl
  · obtain ⟨k, hk, hr⟩ := List.any_eq_true.1 e
    obtain ⟨h1, h2⟩ := mem_kupto.1 hk
    have := h (k - 1).toNat (by omega)
    rw [show (((k - 1).toNat : Nat) : Int) + 1 = k by omega, hr] at this
    cases this
set_option maxRecDepth 100000 in
set_option maxHeartbeats 2000000 in
theorem rmay_eq (a : MSeat) (w : World) : Calls Tryd.prog 29 #[seatV a, seatV a] w (Makes (.bool true) w) := by
  obtain ⟨p, d, s, h⟩ := a
  dsimp only [seatV]
  go_enter Tryd.func29, Tryd.ntmps29
  go_wp2
  go_ret
  exact ⟨rfl, by go_grown⟩
set_option maxRecDepth 100000 in
set_option maxHeartbeats 8000000 in
theorem rmay_ne (a b : MSeat) (w : World) (hab : a ≠ b) : Calls Tryd.prog 29 #[seatV a, seatV b] w (Makes (.bool (rMay a b)) w) := by
  obtain ⟨p, d, s, h⟩ := a
  obtain ⟨p', d', s', h'⟩ := b
  have HSE := Lib.hid gseatEq
  have hse := fun w => gseatEq p d s h p' d' s' h' w
  rw [decide_eq_false hab] at hse
  dsimp only [seatV]
  have BW : Below w.heap.size w ((w.alloc (.cells #[.int .i64 p, .int .i64 d, .int .i64 s, .int .i64 h] 55)).alloc (.cells #[.int .i64 p', .int .i64 d', .int .i64 s', .int .i64 h'] 55)) := ((Below.refl _ _).alloc (Nat.le_refl _) _).alloc (by simp) _
  have HA0 := Lib.hid ((Blk.fresh w #[.int .i64 p, .int .i64 d, .int .i64 s, .int .i64 h] 55 _ rfl).alloc (.cells #[.int .i64 p', .int .i64 d', .int .i64 s', .int .i64 h'] 55))
  have HB0 := Lib.hid (Blk.fresh (w.alloc (.cells #[.int .i64 p, .int .i64 d, .int .i64 s, .int .i64 h] 55)) #[.int .i64 p', .int .i64 d', .int .i64 s', .int .i64 h'] 55 (w.heap.size + 1) (by simp))
  go_enter Tryd.func29, Tryd.ntmps29
  go_wp2_with fail
  clear hse
  generalize (w.alloc (.cells #[.int .i64 p, .int .i64 d, .int .i64 s, .int .i64 h] 55)).alloc (.cells #[.int .i64 p', .int .i64 d', .int .i64 s', .int .i64 h'] 55) = W2 at *
  go_loopw [5] (fun i wr => ∃ k : Nat, k ≤ 14 ∧ i = .int .i64 ((k : Int) + 1) ∧ Hid (NoHit ⟨p, d, s, h⟩ ⟨p', d', s', h'⟩ k) ∧ Hid (Blk wr w.heap.size #[.int .i64 p, .int .i64 d, .int .i64 s, .int .i64 h]) ∧ Hid (Blk wr (w.heap.size + 1) #[.int .i64 p', .int .i64 d', .int .i64 s', .int .i64 h']) ∧ Below w.heap.size w wr) (fun i _ => 15 - (intOf i).toNat)
  case atStart => exact ⟨0, by omega, rfl, Lib.hid (fun j hj => absurd hj (by omega)), HA0, HB0, BW⟩
  case round =>
    obtain ⟨k, hk, rfl, HN, HA, HB, BR⟩ := hrel
    by_cases hlt : k < 14
    · have HLT := Lib.hid hlt
      have hki : (k : Int) + 1 ≤ 14 := by omega
      obtain ⟨p1, d1, s1, q1, f1, u1, v1, c1, n1, hT, hTc⟩ := gtell_out ⟨p, d, s, h⟩ ((k : Int) + 1)
      obtain ⟨p2, d2, s2, q2, f2, u2, v2, c2, n2, hD, hDc⟩ := gdo_out ⟨p, d, s, h⟩ ((k : Int) + 1)
      obtain ⟨p3, d3, s3, q3, f3, u3, v3, c3, n3, hL, hLc⟩ := gdo_out ⟨p1, d1, s1, q1⟩ 11
      have hrh : rhit ⟨p, d, s, h⟩ ⟨p', d', s', h'⟩ ((k : Int) + 1) = (decide (n1 = 0 ∧ c1 = true ∧ (⟨p1, d1, s1, q1⟩ : MSeat) = ⟨p', d', s', h'⟩) || decide (n2 = 0 ∧ (⟨p2, d2, s2, q2⟩ : MSeat) = ⟨p', d', s', h'⟩) || decide (n1 = 0 ∧ c1 = true ∧ d = 1 ∧ s1 = 5 ∧ n3 = 0 ∧ (⟨p3, d3, s3, q3⟩ : MSeat) = ⟨p', d', s', h'⟩)) := by
        unfold rhit; rw [hT, hD]; dsimp only; rw [hL]
      have HT := Lib.hid hTc; have HD := Lib.hid hDc; have HL := Lib.hid hLc
      clear hT hD hL hTc hDc hLc
      dsimp only [seatV] at HT HD HL
      have qa := HA.out.cell
      have qb := HB.out.cell
      by_cases hn1 : n1 = 0
      case neg =>
        have hn1b : (n1 == 0) = false := by simpa using hn1
        have HT2 : Hid (∀ w, Calls Tryd.prog 69 #[.agg #[.int .i64 p, .int .i64 d, .int .i64 s, .int .i64 h], .int .i64 ((k : Int) + 1)] w (Makes (.tuple #[.agg #[.int .i64 p1, .int .i64 d1, .int .i64 s1, .int .i64 q1, .int .i64 f1, .int .i64 u1, .int .i64 v1, .bool c1], .int .i64 n1]) w)) := Lib.hid (fun w => HT.out w)
        by_cases hn2 : n2 = 0
        case neg =>
          have hn2b : (n2 == 0) = false := by simpa using hn2
          have HD2 : Hid (∀ w, Calls Tryd.prog 70 #[.agg #[.int .i64 p, .int .i64 d, .int .i64 s, .int .i64 h], .int .i64 ((k : Int) + 1)] w (Makes (.tuple #[.agg #[.int .i64 p2, .int .i64 d2, .int .i64 s2, .int .i64 q2, .int .i64 f2, .int .i64 u2, .int .i64 v2, .bool c2], .int .i64 n2]) w)) := Lib.hid (fun w => HD.out w)
          have HR : Hid (rhit ⟨p, d, s, h⟩ ⟨p', d', s', h'⟩ ((k : Int) + 1) = false) := Lib.hid (by rw [hrh]; simp [hn2, hn1])
          clear hrh
          go_wp2_with fail
          refine (HT2.out _).mono ?_
          rintro e w1 ⟨rfl, hbw1⟩
          have Bw1 := below_then BR hbw1
          have HA := Lib.hid ((HA.out.below hbw1).alloc (.cells #[.int .i64 p1, .int .i64 d1, .int .i64 s1, .int .i64 q1, .int .i64 f1, .int .i64 u1, .int .i64 v1, .bool c1] 127))
          have HB := Lib.hid ((HB.out.below hbw1).alloc (.cells #[.int .i64 p1, .int .i64 d1, .int .i64 s1, .int .i64 q1, .int .i64 f1, .int .i64 u1, .int .i64 v1, .bool c1] 127))
          have BEw1 : Below w.heap.size w (w1.alloc (.cells #[.int .i64 p1, .int .i64 d1, .int .i64 s1, .int .i64 q1, .int .i64 f1, .int .i64 u1, .int .i64 v1, .bool c1] 127)) := Bw1.alloc Bw1.size _
          (try clear qa)
          (try clear qb)
          (try clear qx)
          have qa := HA.out.cell; have qb := HB.out.cell
          have HX := Lib.hid (Blk.fresh w1 #[.int .i64 p1, .int .i64 d1, .int .i64 s1, .int .i64 q1, .int .i64 f1, .int .i64 u1, .int .i64 v1, .bool c1] 127 _ rfl)
          go_wp2_with fail
          refine (HD2.out _).mono ?_
          rintro e w2 ⟨rfl, hbw2⟩
          have Bw2 := below_then BEw1 hbw2
          have HA := Lib.hid ((HA.out.below hbw2).alloc (.cells #[.int .i64 p2, .int .i64 d2, .int .i64 s2, .int .i64 q2, .int .i64 f2, .int .i64 u2, .int .i64 v2, .bool c2] 127))
          have HB := Lib.hid ((HB.out.below hbw2).alloc (.cells #[.int .i64 p2, .int .i64 d2, .int .i64 s2, .int .i64 q2, .int .i64 f2, .int .i64 u2, .int .i64 v2, .bool c2] 127))
          have HX := Lib.hid ((HX.out.below hbw2).alloc (.cells #[.int .i64 p2, .int .i64 d2, .int .i64 s2, .int .i64 q2, .int .i64 f2, .int .i64 u2, .int .i64 v2, .bool c2] 127))
          have BEw2 : Below w.heap.size w (w2.alloc (.cells #[.int .i64 p2, .int .i64 d2, .int .i64 s2, .int .i64 q2, .int .i64 f2, .int .i64 u2, .int .i64 v2, .bool c2] 127)) := Bw2.alloc Bw2.size _
          (try clear qa)
          (try clear qb)
          (try clear qx)
          have qa := HA.out.cell; have qb := HB.out.cell
          have qx := HX.out.cell
          go_wp2_with fail
          go_roundw
          case rel => exact ⟨k + 1, by omega, by go_num, no_more HN.out HR.out, HA, HB, BEw2⟩
          case measure => simp [intOf]; omega
        subst hn2
        by_cases he2 : (⟨p2, d2, s2, q2⟩ : MSeat) = ⟨p', d', s', h'⟩
        case pos =>
          have hse2 := fun w => HSE.out p2 d2 s2 q2 p' d' s' h' w
          rw [decide_eq_true he2] at hse2
          have HD2 : Hid (∀ w, Calls Tryd.prog 70 #[.agg #[.int .i64 p, .int .i64 d, .int .i64 s, .int .i64 h], .int .i64 ((k : Int) + 1)] w (Makes (.tuple #[.agg #[.int .i64 p2, .int .i64 d2, .int .i64 s2, .int .i64 q2, .int .i64 f2, .int .i64 u2, .int .i64 v2, .bool c2], .int .i64 0]) w)) := Lib.hid (fun w => HD.out w)
          have HR : Hid (rhit ⟨p, d, s, h⟩ ⟨p', d', s', h'⟩ ((k : Int) + 1) = true) := Lib.hid (by rw [hrh]; simp [he2])
          clear hrh he2
          go_wp2_with fail
          refine (HT2.out _).mono ?_
          rintro e w1 ⟨rfl, hbw1⟩
          have Bw1 := below_then BR hbw1
          have HA := Lib.hid ((HA.out.below hbw1).alloc (.cells #[.int .i64 p1, .int .i64 d1, .int .i64 s1, .int .i64 q1, .int .i64 f1, .int .i64 u1, .int .i64 v1, .bool c1] 127))
          have HB := Lib.hid ((HB.out.below hbw1).alloc (.cells #[.int .i64 p1, .int .i64 d1, .int .i64 s1, .int .i64 q1, .int .i64 f1, .int .i64 u1, .int .i64 v1, .bool c1] 127))
          have BEw1 : Below w.heap.size w (w1.alloc (.cells #[.int .i64 p1, .int .i64 d1, .int .i64 s1, .int .i64 q1, .int .i64 f1, .int .i64 u1, .int .i64 v1, .bool c1] 127)) := Bw1.alloc Bw1.size _
          (try clear qa)
          (try clear qb)
          (try clear qx)
          have qa := HA.out.cell; have qb := HB.out.cell
          have HX := Lib.hid (Blk.fresh w1 #[.int .i64 p1, .int .i64 d1, .int .i64 s1, .int .i64 q1, .int .i64 f1, .int .i64 u1, .int .i64 v1, .bool c1] 127 _ rfl)
          go_wp2_with fail
          refine (HD2.out _).mono ?_
          rintro e w2 ⟨rfl, hbw2⟩
          have Bw2 := below_then BEw1 hbw2
          have HA := Lib.hid ((HA.out.below hbw2).alloc (.cells #[.int .i64 p2, .int .i64 d2, .int .i64 s2, .int .i64 q2, .int .i64 f2, .int .i64 u2, .int .i64 v2, .bool c2] 127))
          have HB := Lib.hid ((HB.out.below hbw2).alloc (.cells #[.int .i64 p2, .int .i64 d2, .int .i64 s2, .int .i64 q2, .int .i64 f2, .int .i64 u2, .int .i64 v2, .bool c2] 127))
          have HX := Lib.hid ((HX.out.below hbw2).alloc (.cells #[.int .i64 p2, .int .i64 d2, .int .i64 s2, .int .i64 q2, .int .i64 f2, .int .i64 u2, .int .i64 v2, .bool c2] 127))
          have BEw2 : Below w.heap.size w (w2.alloc (.cells #[.int .i64 p2, .int .i64 d2, .int .i64 s2, .int .i64 q2, .int .i64 f2, .int .i64 u2, .int .i64 v2, .bool c2] 127)) := Bw2.alloc Bw2.size _
          (try clear qa)
          (try clear qb)
          (try clear qx)
          have qa := HA.out.cell; have qb := HB.out.cell
          have qx := HX.out.cell
          go_wp2_with fail
          go_ret
          exact ⟨(by rw [hit_true hab HLT.out HR.out] <;> rfl), BEw2⟩
        case neg =>
          have hse2 := fun w => HSE.out p2 d2 s2 q2 p' d' s' h' w
          rw [decide_eq_false he2] at hse2
          have HD2 : Hid (∀ w, Calls Tryd.prog 70 #[.agg #[.int .i64 p, .int .i64 d, .int .i64 s, .int .i64 h], .int .i64 ((k : Int) + 1)] w (Makes (.tuple #[.agg #[.int .i64 p2, .int .i64 d2, .int .i64 s2, .int .i64 q2, .int .i64 f2, .int .i64 u2, .int .i64 v2, .bool c2], .int .i64 0]) w)) := Lib.hid (fun w => HD.out w)
          have HR : Hid (rhit ⟨p, d, s, h⟩ ⟨p', d', s', h'⟩ ((k : Int) + 1) = false) := Lib.hid (by rw [hrh]; simp [he2, hn1])
          clear hrh
          go_wp2_with fail
          refine (HT2.out _).mono ?_
          rintro e w1 ⟨rfl, hbw1⟩
          have Bw1 := below_then BR hbw1
          have HA := Lib.hid ((HA.out.below hbw1).alloc (.cells #[.int .i64 p1, .int .i64 d1, .int .i64 s1, .int .i64 q1, .int .i64 f1, .int .i64 u1, .int .i64 v1, .bool c1] 127))
          have HB := Lib.hid ((HB.out.below hbw1).alloc (.cells #[.int .i64 p1, .int .i64 d1, .int .i64 s1, .int .i64 q1, .int .i64 f1, .int .i64 u1, .int .i64 v1, .bool c1] 127))
          have BEw1 : Below w.heap.size w (w1.alloc (.cells #[.int .i64 p1, .int .i64 d1, .int .i64 s1, .int .i64 q1, .int .i64 f1, .int .i64 u1, .int .i64 v1, .bool c1] 127)) := Bw1.alloc Bw1.size _
          (try clear qa)
          (try clear qb)
          (try clear qx)
          have qa := HA.out.cell; have qb := HB.out.cell
          have HX := Lib.hid (Blk.fresh w1 #[.int .i64 p1, .int .i64 d1, .int .i64 s1, .int .i64 q1, .int .i64 f1, .int .i64 u1, .int .i64 v1, .bool c1] 127 _ rfl)
          go_wp2_with fail
          refine (HD2.out _).mono ?_
          rintro e w2 ⟨rfl, hbw2⟩
          have Bw2 := below_then BEw1 hbw2
          have HA := Lib.hid ((HA.out.below hbw2).alloc (.cells #[.int .i64 p2, .int .i64 d2, .int .i64 s2, .int .i64 q2, .int .i64 f2, .int .i64 u2, .int .i64 v2, .bool c2] 127))
          have HB := Lib.hid ((HB.out.below hbw2).alloc (.cells #[.int .i64 p2, .int .i64 d2, .int .i64 s2, .int .i64 q2, .int .i64 f2, .int .i64 u2, .int .i64 v2, .bool c2] 127))
          have HX := Lib.hid ((HX.out.below hbw2).alloc (.cells #[.int .i64 p2, .int .i64 d2, .int .i64 s2, .int .i64 q2, .int .i64 f2, .int .i64 u2, .int .i64 v2, .bool c2] 127))
          have BEw2 : Below w.heap.size w (w2.alloc (.cells #[.int .i64 p2, .int .i64 d2, .int .i64 s2, .int .i64 q2, .int .i64 f2, .int .i64 u2, .int .i64 v2, .bool c2] 127)) := Bw2.alloc Bw2.size _
          (try clear qa)
          (try clear qb)
          (try clear qx)
          have qa := HA.out.cell; have qb := HB.out.cell
          have qx := HX.out.cell
          go_wp2_with fail
          go_roundw
          case rel => exact ⟨k + 1, by omega, by go_num, no_more HN.out HR.out, HA, HB, BEw2⟩
          case measure => simp [intOf]; omega
      subst hn1
      cases c1
      case false =>
        have HT2 : Hid (∀ w, Calls Tryd.prog 69 #[.agg #[.int .i64 p, .int .i64 d, .int .i64 s, .int .i64 h], .int .i64 ((k : Int) + 1)] w (Makes (.tuple #[.agg #[.int .i64 p1, .int .i64 d1, .int .i64 s1, .int .i64 q1, .int .i64 f1, .int .i64 u1, .int .i64 v1, .bool false], .int .i64 0]) w)) := Lib.hid (fun w => HT.out w)
        by_cases hn2 : n2 = 0
        case neg =>
          have hn2b : (n2 == 0) = false := by simpa using hn2
          have HD2 : Hid (∀ w, Calls Tryd.prog 70 #[.agg #[.int .i64 p, .int .i64 d, .int .i64 s, .int .i64 h], .int .i64 ((k : Int) + 1)] w (Makes (.tuple #[.agg #[.int .i64 p2, .int .i64 d2, .int .i64 s2, .int .i64 q2, .int .i64 f2, .int .i64 u2, .int .i64 v2, .bool c2], .int .i64 n2]) w)) := Lib.hid (fun w => HD.out w)
          have HR : Hid (rhit ⟨p, d, s, h⟩ ⟨p', d', s', h'⟩ ((k : Int) + 1) = false) := Lib.hid (by rw [hrh]; simp [hn2])
          clear hrh
          go_wp2_with fail
          refine (HT2.out _).mono ?_
          rintro e w1 ⟨rfl, hbw1⟩
          have Bw1 := below_then BR hbw1
          have HA := Lib.hid ((HA.out.below hbw1).alloc (.cells #[.int .i64 p1, .int .i64 d1, .int .i64 s1, .int .i64 q1, .int .i64 f1, .int .i64 u1, .int .i64 v1, .bool false] 127))
          have HB := Lib.hid ((HB.out.below hbw1).alloc (.cells #[.int .i64 p1, .int .i64 d1, .int .i64 s1, .int .i64 q1, .int .i64 f1, .int .i64 u1, .int .i64 v1, .bool false] 127))
          have BEw1 : Below w.heap.size w (w1.alloc (.cells #[.int .i64 p1, .int .i64 d1, .int .i64 s1, .int .i64 q1, .int .i64 f1, .int .i64 u1, .int .i64 v1, .bool false] 127)) := Bw1.alloc Bw1.size _
          (try clear qa)
          (try clear qb)
          (try clear qx)
          have qa := HA.out.cell; have qb := HB.out.cell
          have HX := Lib.hid (Blk.fresh w1 #[.int .i64 p1, .int .i64 d1, .int .i64 s1, .int .i64 q1, .int .i64 f1, .int .i64 u1, .int .i64 v1, .bool false] 127 _ rfl)
          go_wp2_with fail
          refine (HD2.out _).mono ?_
          rintro e w2 ⟨rfl, hbw2⟩
          have Bw2 := below_then BEw1 hbw2
          have HA := Lib.hid ((HA.out.below hbw2).alloc (.cells #[.int .i64 p2, .int .i64 d2, .int .i64 s2, .int .i64 q2, .int .i64 f2, .int .i64 u2, .int .i64 v2, .bool c2] 127))
          have HB := Lib.hid ((HB.out.below hbw2).alloc (.cells #[.int .i64 p2, .int .i64 d2, .int .i64 s2, .int .i64 q2, .int .i64 f2, .int .i64 u2, .int .i64 v2, .bool c2] 127))
          have HX := Lib.hid ((HX.out.below hbw2).alloc (.cells #[.int .i64 p2, .int .i64 d2, .int .i64 s2, .int .i64 q2, .int .i64 f2, .int .i64 u2, .int .i64 v2, .bool c2] 127))
          have BEw2 : Below w.heap.size w (w2.alloc (.cells #[.int .i64 p2, .int .i64 d2, .int .i64 s2, .int .i64 q2, .int .i64 f2, .int .i64 u2, .int .i64 v2, .bool c2] 127)) := Bw2.alloc Bw2.size _
          (try clear qa)
          (try clear qb)
          (try clear qx)
          have qa := HA.out.cell; have qb := HB.out.cell
          have qx := HX.out.cell
          go_wp2_with fail
          go_roundw
          case rel => exact ⟨k + 1, by omega, by go_num, no_more HN.out HR.out, HA, HB, BEw2⟩
          case measure => simp [intOf]; omega
        subst hn2
        by_cases he2 : (⟨p2, d2, s2, q2⟩ : MSeat) = ⟨p', d', s', h'⟩
        case pos =>
          have hse2 := fun w => HSE.out p2 d2 s2 q2 p' d' s' h' w
          rw [decide_eq_true he2] at hse2
          have HD2 : Hid (∀ w, Calls Tryd.prog 70 #[.agg #[.int .i64 p, .int .i64 d, .int .i64 s, .int .i64 h], .int .i64 ((k : Int) + 1)] w (Makes (.tuple #[.agg #[.int .i64 p2, .int .i64 d2, .int .i64 s2, .int .i64 q2, .int .i64 f2, .int .i64 u2, .int .i64 v2, .bool c2], .int .i64 0]) w)) := Lib.hid (fun w => HD.out w)
          have HR : Hid (rhit ⟨p, d, s, h⟩ ⟨p', d', s', h'⟩ ((k : Int) + 1) = true) := Lib.hid (by rw [hrh]; simp [he2])
          clear hrh he2
          go_wp2_with fail
          refine (HT2.out _).mono ?_
          rintro e w1 ⟨rfl, hbw1⟩
          have Bw1 := below_then BR hbw1
          have HA := Lib.hid ((HA.out.below hbw1).alloc (.cells #[.int .i64 p1, .int .i64 d1, .int .i64 s1, .int .i64 q1, .int .i64 f1, .int .i64 u1, .int .i64 v1, .bool false] 127))
          have HB := Lib.hid ((HB.out.below hbw1).alloc (.cells #[.int .i64 p1, .int .i64 d1, .int .i64 s1, .int .i64 q1, .int .i64 f1, .int .i64 u1, .int .i64 v1, .bool false] 127))
          have BEw1 : Below w.heap.size w (w1.alloc (.cells #[.int .i64 p1, .int .i64 d1, .int .i64 s1, .int .i64 q1, .int .i64 f1, .int .i64 u1, .int .i64 v1, .bool false] 127)) := Bw1.alloc Bw1.size _
          (try clear qa)
          (try clear qb)
          (try clear qx)
          have qa := HA.out.cell; have qb := HB.out.cell
          have HX := Lib.hid (Blk.fresh w1 #[.int .i64 p1, .int .i64 d1, .int .i64 s1, .int .i64 q1, .int .i64 f1, .int .i64 u1, .int .i64 v1, .bool false] 127 _ rfl)
          go_wp2_with fail
          refine (HD2.out _).mono ?_
          rintro e w2 ⟨rfl, hbw2⟩
          have Bw2 := below_then BEw1 hbw2
          have HA := Lib.hid ((HA.out.below hbw2).alloc (.cells #[.int .i64 p2, .int .i64 d2, .int .i64 s2, .int .i64 q2, .int .i64 f2, .int .i64 u2, .int .i64 v2, .bool c2] 127))
          have HB := Lib.hid ((HB.out.below hbw2).alloc (.cells #[.int .i64 p2, .int .i64 d2, .int .i64 s2, .int .i64 q2, .int .i64 f2, .int .i64 u2, .int .i64 v2, .bool c2] 127))
          have HX := Lib.hid ((HX.out.below hbw2).alloc (.cells #[.int .i64 p2, .int .i64 d2, .int .i64 s2, .int .i64 q2, .int .i64 f2, .int .i64 u2, .int .i64 v2, .bool c2] 127))
          have BEw2 : Below w.heap.size w (w2.alloc (.cells #[.int .i64 p2, .int .i64 d2, .int .i64 s2, .int .i64 q2, .int .i64 f2, .int .i64 u2, .int .i64 v2, .bool c2] 127)) := Bw2.alloc Bw2.size _
          (try clear qa)
          (try clear qb)
          (try clear qx)
          have qa := HA.out.cell; have qb := HB.out.cell
          have qx := HX.out.cell
          go_wp2_with fail
          go_ret
          exact ⟨(by rw [hit_true hab HLT.out HR.out] <;> rfl), BEw2⟩
        case neg =>
          have hse2 := fun w => HSE.out p2 d2 s2 q2 p' d' s' h' w
          rw [decide_eq_false he2] at hse2
          have HD2 : Hid (∀ w, Calls Tryd.prog 70 #[.agg #[.int .i64 p, .int .i64 d, .int .i64 s, .int .i64 h], .int .i64 ((k : Int) + 1)] w (Makes (.tuple #[.agg #[.int .i64 p2, .int .i64 d2, .int .i64 s2, .int .i64 q2, .int .i64 f2, .int .i64 u2, .int .i64 v2, .bool c2], .int .i64 0]) w)) := Lib.hid (fun w => HD.out w)
          have HR : Hid (rhit ⟨p, d, s, h⟩ ⟨p', d', s', h'⟩ ((k : Int) + 1) = false) := Lib.hid (by rw [hrh]; simp [he2])
          clear hrh
          go_wp2_with fail
          refine (HT2.out _).mono ?_
          rintro e w1 ⟨rfl, hbw1⟩
          have Bw1 := below_then BR hbw1
          have HA := Lib.hid ((HA.out.below hbw1).alloc (.cells #[.int .i64 p1, .int .i64 d1, .int .i64 s1, .int .i64 q1, .int .i64 f1, .int .i64 u1, .int .i64 v1, .bool false] 127))
          have HB := Lib.hid ((HB.out.below hbw1).alloc (.cells #[.int .i64 p1, .int .i64 d1, .int .i64 s1, .int .i64 q1, .int .i64 f1, .int .i64 u1, .int .i64 v1, .bool false] 127))
          have BEw1 : Below w.heap.size w (w1.alloc (.cells #[.int .i64 p1, .int .i64 d1, .int .i64 s1, .int .i64 q1, .int .i64 f1, .int .i64 u1, .int .i64 v1, .bool false] 127)) := Bw1.alloc Bw1.size _
          (try clear qa)
          (try clear qb)
          (try clear qx)
          have qa := HA.out.cell; have qb := HB.out.cell
          have HX := Lib.hid (Blk.fresh w1 #[.int .i64 p1, .int .i64 d1, .int .i64 s1, .int .i64 q1, .int .i64 f1, .int .i64 u1, .int .i64 v1, .bool false] 127 _ rfl)
          go_wp2_with fail
          refine (HD2.out _).mono ?_
          rintro e w2 ⟨rfl, hbw2⟩
          have Bw2 := below_then BEw1 hbw2
          have HA := Lib.hid ((HA.out.below hbw2).alloc (.cells #[.int .i64 p2, .int .i64 d2, .int .i64 s2, .int .i64 q2, .int .i64 f2, .int .i64 u2, .int .i64 v2, .bool c2] 127))
          have HB := Lib.hid ((HB.out.below hbw2).alloc (.cells #[.int .i64 p2, .int .i64 d2, .int .i64 s2, .int .i64 q2, .int .i64 f2, .int .i64 u2, .int .i64 v2, .bool c2] 127))
          have HX := Lib.hid ((HX.out.below hbw2).alloc (.cells #[.int .i64 p2, .int .i64 d2, .int .i64 s2, .int .i64 q2, .int .i64 f2, .int .i64 u2, .int .i64 v2, .bool c2] 127))
          have BEw2 : Below w.heap.size w (w2.alloc (.cells #[.int .i64 p2, .int .i64 d2, .int .i64 s2, .int .i64 q2, .int .i64 f2, .int .i64 u2, .int .i64 v2, .bool c2] 127)) := Bw2.alloc Bw2.size _
          (try clear qa)
          (try clear qb)
          (try clear qx)
          have qa := HA.out.cell; have qb := HB.out.cell
          have qx := HX.out.cell
          go_wp2_with fail
          go_roundw
          case rel => exact ⟨k + 1, by omega, by go_num, no_more HN.out HR.out, HA, HB, BEw2⟩
          case measure => simp [intOf]; omega
      have HT2 : Hid (∀ w, Calls Tryd.prog 69 #[.agg #[.int .i64 p, .int .i64 d, .int .i64 s, .int .i64 h], .int .i64 ((k : Int) + 1)] w (Makes (.tuple #[.agg #[.int .i64 p1, .int .i64 d1, .int .i64 s1, .int .i64 q1, .int .i64 f1, .int .i64 u1, .int .i64 v1, .bool true], .int .i64 0]) w)) := Lib.hid (fun w => HT.out w)
      by_cases he1 : (⟨p1, d1, s1, q1⟩ : MSeat) = ⟨p', d', s', h'⟩
      case pos =>
        have hse1 := fun w => HSE.out p1 d1 s1 q1 p' d' s' h' w
        rw [decide_eq_true he1] at hse1
        have HR : Hid (rhit ⟨p, d, s, h⟩ ⟨p', d', s', h'⟩ ((k : Int) + 1) = true) := Lib.hid (by rw [hrh]; simp [he1])
        clear hrh he1
        go_wp2_with fail
        refine (HT2.out _).mono ?_
        rintro e w1 ⟨rfl, hbw1⟩
        have Bw1 := below_then BR hbw1
        have HA := Lib.hid ((HA.out.below hbw1).alloc (.cells #[.int .i64 p1, .int .i64 d1, .int .i64 s1, .int .i64 q1, .int .i64 f1, .int .i64 u1, .int .i64 v1, .bool true] 127))
        have HB := Lib.hid ((HB.out.below hbw1).alloc (.cells #[.int .i64 p1, .int .i64 d1, .int .i64 s1, .int .i64 q1, .int .i64 f1, .int .i64 u1, .int .i64 v1, .bool true] 127))
        have BEw1 : Below w.heap.size w (w1.alloc (.cells #[.int .i64 p1, .int .i64 d1, .int .i64 s1, .int .i64 q1, .int .i64 f1, .int .i64 u1, .int .i64 v1, .bool true] 127)) := Bw1.alloc Bw1.size _
        (try clear qa)
        (try clear qb)
        (try clear qx)
        have qa := HA.out.cell; have qb := HB.out.cell
        have HX := Lib.hid (Blk.fresh w1 #[.int .i64 p1, .int .i64 d1, .int .i64 s1, .int .i64 q1, .int .i64 f1, .int .i64 u1, .int .i64 v1, .bool true] 127 _ rfl)
        go_wp2_with fail
        go_ret
        exact ⟨(by rw [hit_true hab HLT.out HR.out] <;> rfl), BEw1⟩
      have hse1 := fun w => HSE.out p1 d1 s1 q1 p' d' s' h' w
      rw [decide_eq_false he1] at hse1
      by_cases hn2 : n2 = 0
      case neg =>
        have hn2b : (n2 == 0) = false := by simpa using hn2
        have HD2 : Hid (∀ w, Calls Tryd.prog 70 #[.agg #[.int .i64 p, .int .i64 d, .int .i64 s, .int .i64 h], .int .i64 ((k : Int) + 1)] w (Makes (.tuple #[.agg #[.int .i64 p2, .int .i64 d2, .int .i64 s2, .int .i64 q2, .int .i64 f2, .int .i64 u2, .int .i64 v2, .bool c2], .int .i64 n2]) w)) := Lib.hid (fun w => HD.out w)
        by_cases hd : d = 1
        case neg =>
          have hdb : (d == 1) = false := by simpa using hd
          have HR : Hid (rhit _ ⟨p', d', s', h'⟩ ((k : Int) + 1) = false) := Lib.hid (by rw [hrh]; simp [he1, hn2, hd])
          clear hrh
          go_wp2_with fail
          refine (HT2.out _).mono ?_
          rintro e w1 ⟨rfl, hbw1⟩
          have Bw1 := below_then BR hbw1
          have HA := Lib.hid ((HA.out.below hbw1).alloc (.cells #[.int .i64 p1, .int .i64 d1, .int .i64 s1, .int .i64 q1, .int .i64 f1, .int .i64 u1, .int .i64 v1, .bool true] 127))
          have HB := Lib.hid ((HB.out.below hbw1).alloc (.cells #[.int .i64 p1, .int .i64 d1, .int .i64 s1, .int .i64 q1, .int .i64 f1, .int .i64 u1, .int .i64 v1, .bool true] 127))
          have BEw1 : Below w.heap.size w (w1.alloc (.cells #[.int .i64 p1, .int .i64 d1, .int .i64 s1, .int .i64 q1, .int .i64 f1, .int .i64 u1, .int .i64 v1, .bool true] 127)) := Bw1.alloc Bw1.size _
          (try clear qa)
          (try clear qb)
          (try clear qx)
          have qa := HA.out.cell; have qb := HB.out.cell
          have HX := Lib.hid (Blk.fresh w1 #[.int .i64 p1, .int .i64 d1, .int .i64 s1, .int .i64 q1, .int .i64 f1, .int .i64 u1, .int .i64 v1, .bool true] 127 _ rfl)
          go_wp2_with fail
          refine (HD2.out _).mono ?_
          rintro e w2 ⟨rfl, hbw2⟩
          have Bw2 := below_then BEw1 hbw2
          have HA := Lib.hid ((HA.out.below hbw2).alloc (.cells #[.int .i64 p2, .int .i64 d2, .int .i64 s2, .int .i64 q2, .int .i64 f2, .int .i64 u2, .int .i64 v2, .bool c2] 127))
          have HB := Lib.hid ((HB.out.below hbw2).alloc (.cells #[.int .i64 p2, .int .i64 d2, .int .i64 s2, .int .i64 q2, .int .i64 f2, .int .i64 u2, .int .i64 v2, .bool c2] 127))
          have HX := Lib.hid ((HX.out.below hbw2).alloc (.cells #[.int .i64 p2, .int .i64 d2, .int .i64 s2, .int .i64 q2, .int .i64 f2, .int .i64 u2, .int .i64 v2, .bool c2] 127))
          have BEw2 : Below w.heap.size w (w2.alloc (.cells #[.int .i64 p2, .int .i64 d2, .int .i64 s2, .int .i64 q2, .int .i64 f2, .int .i64 u2, .int .i64 v2, .bool c2] 127)) := Bw2.alloc Bw2.size _
          (try clear qa)
          (try clear qb)
          (try clear qx)
          have qa := HA.out.cell; have qb := HB.out.cell
          have qx := HX.out.cell
          go_wp2_with fail
          go_roundw
          case rel => exact ⟨k + 1, by omega, by go_num, no_more HN.out HR.out, HA, HB, BEw2⟩
          case measure => simp [intOf]; omega
        subst hd
        by_cases hs5 : s1 = 5
        case neg =>
          have hsb : (s1 == 5) = false := by simpa using hs5
          have HR : Hid (rhit _ ⟨p', d', s', h'⟩ ((k : Int) + 1) = false) := Lib.hid (by rw [hrh]; simp [he1, hn2, hs5])
          clear hrh
          go_wp2_with fail
          refine (HT2.out _).mono ?_
          rintro e w1 ⟨rfl, hbw1⟩
          have Bw1 := below_then BR hbw1
          have HA := Lib.hid ((HA.out.below hbw1).alloc (.cells #[.int .i64 p1, .int .i64 d1, .int .i64 s1, .int .i64 q1, .int .i64 f1, .int .i64 u1, .int .i64 v1, .bool true] 127))
          have HB := Lib.hid ((HB.out.below hbw1).alloc (.cells #[.int .i64 p1, .int .i64 d1, .int .i64 s1, .int .i64 q1, .int .i64 f1, .int .i64 u1, .int .i64 v1, .bool true] 127))
          have BEw1 : Below w.heap.size w (w1.alloc (.cells #[.int .i64 p1, .int .i64 d1, .int .i64 s1, .int .i64 q1, .int .i64 f1, .int .i64 u1, .int .i64 v1, .bool true] 127)) := Bw1.alloc Bw1.size _
          (try clear qa)
          (try clear qb)
          (try clear qx)
          have qa := HA.out.cell; have qb := HB.out.cell
          have HX := Lib.hid (Blk.fresh w1 #[.int .i64 p1, .int .i64 d1, .int .i64 s1, .int .i64 q1, .int .i64 f1, .int .i64 u1, .int .i64 v1, .bool true] 127 _ rfl)
          go_wp2_with fail
          refine (HD2.out _).mono ?_
          rintro e w2 ⟨rfl, hbw2⟩
          have Bw2 := below_then BEw1 hbw2
          have HA := Lib.hid ((HA.out.below hbw2).alloc (.cells #[.int .i64 p2, .int .i64 d2, .int .i64 s2, .int .i64 q2, .int .i64 f2, .int .i64 u2, .int .i64 v2, .bool c2] 127))
          have HB := Lib.hid ((HB.out.below hbw2).alloc (.cells #[.int .i64 p2, .int .i64 d2, .int .i64 s2, .int .i64 q2, .int .i64 f2, .int .i64 u2, .int .i64 v2, .bool c2] 127))
          have HX := Lib.hid ((HX.out.below hbw2).alloc (.cells #[.int .i64 p2, .int .i64 d2, .int .i64 s2, .int .i64 q2, .int .i64 f2, .int .i64 u2, .int .i64 v2, .bool c2] 127))
          have BEw2 : Below w.heap.size w (w2.alloc (.cells #[.int .i64 p2, .int .i64 d2, .int .i64 s2, .int .i64 q2, .int .i64 f2, .int .i64 u2, .int .i64 v2, .bool c2] 127)) := Bw2.alloc Bw2.size _
          (try clear qa)
          (try clear qb)
          (try clear qx)
          have qa := HA.out.cell; have qb := HB.out.cell
          have qx := HX.out.cell
          go_wp2_with fail
          go_roundw
          case rel => exact ⟨k + 1, by omega, by go_num, no_more HN.out HR.out, HA, HB, BEw2⟩
          case measure => simp [intOf]; omega
        subst hs5
        by_cases hn3 : n3 = 0
        case neg =>
          have hn3b : (n3 == 0) = false := by simpa using hn3
          have HR : Hid (rhit _ ⟨p', d', s', h'⟩ ((k : Int) + 1) = false) := Lib.hid (by rw [hrh]; simp [he1, hn2, hn3])
          clear hrh
          go_wp2_with fail
          refine (HT2.out _).mono ?_
          rintro e w1 ⟨rfl, hbw1⟩
          have Bw1 := below_then BR hbw1
          have HA := Lib.hid ((HA.out.below hbw1).alloc (.cells #[.int .i64 p1, .int .i64 d1, .int .i64 5, .int .i64 q1, .int .i64 f1, .int .i64 u1, .int .i64 v1, .bool true] 127))
          have HB := Lib.hid ((HB.out.below hbw1).alloc (.cells #[.int .i64 p1, .int .i64 d1, .int .i64 5, .int .i64 q1, .int .i64 f1, .int .i64 u1, .int .i64 v1, .bool true] 127))
          have BEw1 : Below w.heap.size w (w1.alloc (.cells #[.int .i64 p1, .int .i64 d1, .int .i64 5, .int .i64 q1, .int .i64 f1, .int .i64 u1, .int .i64 v1, .bool true] 127)) := Bw1.alloc Bw1.size _
          (try clear qa)
          (try clear qb)
          (try clear qx)
          have qa := HA.out.cell; have qb := HB.out.cell
          have HX := Lib.hid (Blk.fresh w1 #[.int .i64 p1, .int .i64 d1, .int .i64 5, .int .i64 q1, .int .i64 f1, .int .i64 u1, .int .i64 v1, .bool true] 127 _ rfl)
          go_wp2_with fail
          refine (HD2.out _).mono ?_
          rintro e w2 ⟨rfl, hbw2⟩
          have Bw2 := below_then BEw1 hbw2
          have HA := Lib.hid ((HA.out.below hbw2).alloc (.cells #[.int .i64 p2, .int .i64 d2, .int .i64 s2, .int .i64 q2, .int .i64 f2, .int .i64 u2, .int .i64 v2, .bool c2] 127))
          have HB := Lib.hid ((HB.out.below hbw2).alloc (.cells #[.int .i64 p2, .int .i64 d2, .int .i64 s2, .int .i64 q2, .int .i64 f2, .int .i64 u2, .int .i64 v2, .bool c2] 127))
          have HX := Lib.hid ((HX.out.below hbw2).alloc (.cells #[.int .i64 p2, .int .i64 d2, .int .i64 s2, .int .i64 q2, .int .i64 f2, .int .i64 u2, .int .i64 v2, .bool c2] 127))
          have BEw2 : Below w.heap.size w (w2.alloc (.cells #[.int .i64 p2, .int .i64 d2, .int .i64 s2, .int .i64 q2, .int .i64 f2, .int .i64 u2, .int .i64 v2, .bool c2] 127)) := Bw2.alloc Bw2.size _
          (try clear qa)
          (try clear qb)
          (try clear qx)
          have qa := HA.out.cell; have qb := HB.out.cell
          have qx := HX.out.cell
          go_wp2_with fail
          refine (HL.out _).mono ?_
          rintro e w3 ⟨rfl, hbw3⟩
          have Bw3 := below_then BEw2 hbw3
          have HA := Lib.hid ((HA.out.below hbw3).alloc (.cells #[.int .i64 p3, .int .i64 d3, .int .i64 s3, .int .i64 q3, .int .i64 f3, .int .i64 u3, .int .i64 v3, .bool c3] 127))
          have HB := Lib.hid ((HB.out.below hbw3).alloc (.cells #[.int .i64 p3, .int .i64 d3, .int .i64 s3, .int .i64 q3, .int .i64 f3, .int .i64 u3, .int .i64 v3, .bool c3] 127))
          have BEw3 : Below w.heap.size w (w3.alloc (.cells #[.int .i64 p3, .int .i64 d3, .int .i64 s3, .int .i64 q3, .int .i64 f3, .int .i64 u3, .int .i64 v3, .bool c3] 127)) := Bw3.alloc Bw3.size _
          (try clear qa)
          (try clear qb)
          (try clear qx)
          have qa := HA.out.cell; have qb := HB.out.cell
          go_wp2_with fail
          go_roundw
          case rel => exact ⟨k + 1, by omega, by go_num, no_more HN.out HR.out, HA, HB, BEw3⟩
          case measure => simp [intOf]; omega
        subst hn3
        by_cases he3 : (⟨p3, d3, s3, q3⟩ : MSeat) = ⟨p', d', s', h'⟩
        case pos =>
          have hse3 := fun w => HSE.out p3 d3 s3 q3 p' d' s' h' w
          rw [decide_eq_true he3] at hse3
          have HR : Hid (rhit _ ⟨p', d', s', h'⟩ ((k : Int) + 1) = true) := Lib.hid (by rw [hrh]; simp [he1, hn2, he3])
          clear hrh
          go_wp2_with fail
          refine (HT2.out _).mono ?_
          rintro e w1 ⟨rfl, hbw1⟩
          have Bw1 := below_then BR hbw1
          have HA := Lib.hid ((HA.out.below hbw1).alloc (.cells #[.int .i64 p1, .int .i64 d1, .int .i64 5, .int .i64 q1, .int .i64 f1, .int .i64 u1, .int .i64 v1, .bool true] 127))
          have HB := Lib.hid ((HB.out.below hbw1).alloc (.cells #[.int .i64 p1, .int .i64 d1, .int .i64 5, .int .i64 q1, .int .i64 f1, .int .i64 u1, .int .i64 v1, .bool true] 127))
          have BEw1 : Below w.heap.size w (w1.alloc (.cells #[.int .i64 p1, .int .i64 d1, .int .i64 5, .int .i64 q1, .int .i64 f1, .int .i64 u1, .int .i64 v1, .bool true] 127)) := Bw1.alloc Bw1.size _
          (try clear qa)
          (try clear qb)
          (try clear qx)
          have qa := HA.out.cell; have qb := HB.out.cell
          have HX := Lib.hid (Blk.fresh w1 #[.int .i64 p1, .int .i64 d1, .int .i64 5, .int .i64 q1, .int .i64 f1, .int .i64 u1, .int .i64 v1, .bool true] 127 _ rfl)
          go_wp2_with fail
          refine (HD2.out _).mono ?_
          rintro e w2 ⟨rfl, hbw2⟩
          have Bw2 := below_then BEw1 hbw2
          have HA := Lib.hid ((HA.out.below hbw2).alloc (.cells #[.int .i64 p2, .int .i64 d2, .int .i64 s2, .int .i64 q2, .int .i64 f2, .int .i64 u2, .int .i64 v2, .bool c2] 127))
          have HB := Lib.hid ((HB.out.below hbw2).alloc (.cells #[.int .i64 p2, .int .i64 d2, .int .i64 s2, .int .i64 q2, .int .i64 f2, .int .i64 u2, .int .i64 v2, .bool c2] 127))
          have HX := Lib.hid ((HX.out.below hbw2).alloc (.cells #[.int .i64 p2, .int .i64 d2, .int .i64 s2, .int .i64 q2, .int .i64 f2, .int .i64 u2, .int .i64 v2, .bool c2] 127))
          have BEw2 : Below w.heap.size w (w2.alloc (.cells #[.int .i64 p2, .int .i64 d2, .int .i64 s2, .int .i64 q2, .int .i64 f2, .int .i64 u2, .int .i64 v2, .bool c2] 127)) := Bw2.alloc Bw2.size _
          (try clear qa)
          (try clear qb)
          (try clear qx)
          have qa := HA.out.cell; have qb := HB.out.cell
          have qx := HX.out.cell
          go_wp2_with fail
          refine (HL.out _).mono ?_
          rintro e w3 ⟨rfl, hbw3⟩
          have Bw3 := below_then BEw2 hbw3
          have HA := Lib.hid ((HA.out.below hbw3).alloc (.cells #[.int .i64 p3, .int .i64 d3, .int .i64 s3, .int .i64 q3, .int .i64 f3, .int .i64 u3, .int .i64 v3, .bool c3] 127))
          have HB := Lib.hid ((HB.out.below hbw3).alloc (.cells #[.int .i64 p3, .int .i64 d3, .int .i64 s3, .int .i64 q3, .int .i64 f3, .int .i64 u3, .int .i64 v3, .bool c3] 127))
          have BEw3 : Below w.heap.size w (w3.alloc (.cells #[.int .i64 p3, .int .i64 d3, .int .i64 s3, .int .i64 q3, .int .i64 f3, .int .i64 u3, .int .i64 v3, .bool c3] 127)) := Bw3.alloc Bw3.size _
          (try clear qa)
          (try clear qb)
          (try clear qx)
          have qa := HA.out.cell; have qb := HB.out.cell
          go_wp2_with fail
          go_ret
          exact ⟨(by rw [hit_true hab HLT.out HR.out] <;> rfl), BEw3⟩
        case neg =>
          have hse3 := fun w => HSE.out p3 d3 s3 q3 p' d' s' h' w
          rw [decide_eq_false he3] at hse3
          have HR : Hid (rhit _ ⟨p', d', s', h'⟩ ((k : Int) + 1) = false) := Lib.hid (by rw [hrh]; simp [he1, hn2, he3])
          clear hrh
          go_wp2_with fail
          refine (HT2.out _).mono ?_
          rintro e w1 ⟨rfl, hbw1⟩
          have Bw1 := below_then BR hbw1
          have HA := Lib.hid ((HA.out.below hbw1).alloc (.cells #[.int .i64 p1, .int .i64 d1, .int .i64 5, .int .i64 q1, .int .i64 f1, .int .i64 u1, .int .i64 v1, .bool true] 127))
          have HB := Lib.hid ((HB.out.below hbw1).alloc (.cells #[.int .i64 p1, .int .i64 d1, .int .i64 5, .int .i64 q1, .int .i64 f1, .int .i64 u1, .int .i64 v1, .bool true] 127))
          have BEw1 : Below w.heap.size w (w1.alloc (.cells #[.int .i64 p1, .int .i64 d1, .int .i64 5, .int .i64 q1, .int .i64 f1, .int .i64 u1, .int .i64 v1, .bool true] 127)) := Bw1.alloc Bw1.size _
          (try clear qa)
          (try clear qb)
          (try clear qx)
          have qa := HA.out.cell; have qb := HB.out.cell
          have HX := Lib.hid (Blk.fresh w1 #[.int .i64 p1, .int .i64 d1, .int .i64 5, .int .i64 q1, .int .i64 f1, .int .i64 u1, .int .i64 v1, .bool true] 127 _ rfl)
          go_wp2_with fail
          refine (HD2.out _).mono ?_
          rintro e w2 ⟨rfl, hbw2⟩
          have Bw2 := below_then BEw1 hbw2
          have HA := Lib.hid ((HA.out.below hbw2).alloc (.cells #[.int .i64 p2, .int .i64 d2, .int .i64 s2, .int .i64 q2, .int .i64 f2, .int .i64 u2, .int .i64 v2, .bool c2] 127))
          have HB := Lib.hid ((HB.out.below hbw2).alloc (.cells #[.int .i64 p2, .int .i64 d2, .int .i64 s2, .int .i64 q2, .int .i64 f2, .int .i64 u2, .int .i64 v2, .bool c2] 127))
          have HX := Lib.hid ((HX.out.below hbw2).alloc (.cells #[.int .i64 p2, .int .i64 d2, .int .i64 s2, .int .i64 q2, .int .i64 f2, .int .i64 u2, .int .i64 v2, .bool c2] 127))
          have BEw2 : Below w.heap.size w (w2.alloc (.cells #[.int .i64 p2, .int .i64 d2, .int .i64 s2, .int .i64 q2, .int .i64 f2, .int .i64 u2, .int .i64 v2, .bool c2] 127)) := Bw2.alloc Bw2.size _
          (try clear qa)
          (try clear qb)
          (try clear qx)
          have qa := HA.out.cell; have qb := HB.out.cell
          have qx := HX.out.cell
          go_wp2_with fail
          refine (HL.out _).mono ?_
          rintro e w3 ⟨rfl, hbw3⟩
          have Bw3 := below_then BEw2 hbw3
          have HA := Lib.hid ((HA.out.below hbw3).alloc (.cells #[.int .i64 p3, .int .i64 d3, .int .i64 s3, .int .i64 q3, .int .i64 f3, .int .i64 u3, .int .i64 v3, .bool c3] 127))
          have HB := Lib.hid ((HB.out.below hbw3).alloc (.cells #[.int .i64 p3, .int .i64 d3, .int .i64 s3, .int .i64 q3, .int .i64 f3, .int .i64 u3, .int .i64 v3, .bool c3] 127))
          have BEw3 : Below w.heap.size w (w3.alloc (.cells #[.int .i64 p3, .int .i64 d3, .int .i64 s3, .int .i64 q3, .int .i64 f3, .int .i64 u3, .int .i64 v3, .bool c3] 127)) := Bw3.alloc Bw3.size _
          (try clear qa)
          (try clear qb)
          (try clear qx)
          have qa := HA.out.cell; have qb := HB.out.cell
          go_wp2_with fail
          go_roundw
          case rel => exact ⟨k + 1, by omega, by go_num, no_more HN.out HR.out, HA, HB, BEw3⟩
          case measure => simp [intOf]; omega
      subst hn2
      by_cases he2 : (⟨p2, d2, s2, q2⟩ : MSeat) = ⟨p', d', s', h'⟩
      case pos =>
        have hse2 := fun w => HSE.out p2 d2 s2 q2 p' d' s' h' w
        rw [decide_eq_true he2] at hse2
        have HD2 : Hid (∀ w, Calls Tryd.prog 70 #[.agg #[.int .i64 p, .int .i64 d, .int .i64 s, .int .i64 h], .int .i64 ((k : Int) + 1)] w (Makes (.tuple #[.agg #[.int .i64 p2, .int .i64 d2, .int .i64 s2, .int .i64 q2, .int .i64 f2, .int .i64 u2, .int .i64 v2, .bool c2], .int .i64 0]) w)) := Lib.hid (fun w => HD.out w)
        have HR : Hid (rhit ⟨p, d, s, h⟩ ⟨p', d', s', h'⟩ ((k : Int) + 1) = true) := Lib.hid (by rw [hrh]; simp [he2])
        clear hrh he2
        go_wp2_with fail
        refine (HT2.out _).mono ?_
        rintro e w1 ⟨rfl, hbw1⟩
        have Bw1 := below_then BR hbw1
        have HA := Lib.hid ((HA.out.below hbw1).alloc (.cells #[.int .i64 p1, .int .i64 d1, .int .i64 s1, .int .i64 q1, .int .i64 f1, .int .i64 u1, .int .i64 v1, .bool true] 127))
        have HB := Lib.hid ((HB.out.below hbw1).alloc (.cells #[.int .i64 p1, .int .i64 d1, .int .i64 s1, .int .i64 q1, .int .i64 f1, .int .i64 u1, .int .i64 v1, .bool true] 127))
        have BEw1 : Below w.heap.size w (w1.alloc (.cells #[.int .i64 p1, .int .i64 d1, .int .i64 s1, .int .i64 q1, .int .i64 f1, .int .i64 u1, .int .i64 v1, .bool true] 127)) := Bw1.alloc Bw1.size _
        (try clear qa)
        (try clear qb)
        (try clear qx)
        have qa := HA.out.cell; have qb := HB.out.cell
        have HX := Lib.hid (Blk.fresh w1 #[.int .i64 p1, .int .i64 d1, .int .i64 s1, .int .i64 q1, .int .i64 f1, .int .i64 u1, .int .i64 v1, .bool true] 127 _ rfl)
        go_wp2_with fail
        refine (HD2.out _).mono ?_
        rintro e w2 ⟨rfl, hbw2⟩
        have Bw2 := below_then BEw1 hbw2
        have HA := Lib.hid ((HA.out.below hbw2).alloc (.cells #[.int .i64 p2, .int .i64 d2, .int .i64 s2, .int .i64 q2, .int .i64 f2, .int .i64 u2, .int .i64 v2, .bool c2] 127))
        have HB := Lib.hid ((HB.out.below hbw2).alloc (.cells #[.int .i64 p2, .int .i64 d2, .int .i64 s2, .int .i64 q2, .int .i64 f2, .int .i64 u2, .int .i64 v2, .bool c2] 127))
        have HX := Lib.hid ((HX.out.below hbw2).alloc (.cells #[.int .i64 p2, .int .i64 d2, .int .i64 s2, .int .i64 q2, .int .i64 f2, .int .i64 u2, .int .i64 v2, .bool c2] 127))
        have BEw2 : Below w.heap.size w (w2.alloc (.cells #[.int .i64 p2, .int .i64 d2, .int .i64 s2, .int .i64 q2, .int .i64 f2, .int .i64 u2, .int .i64 v2, .bool c2] 127)) := Bw2.alloc Bw2.size _
        (try clear qa)
        (try clear qb)
        (try clear qx)
        have qa := HA.out.cell; have qb := HB.out.cell
        have qx := HX.out.cell
        go_wp2_with fail
        go_ret
        exact ⟨(by rw [hit_true hab HLT.out HR.out] <;> rfl), BEw2⟩
      case neg =>
        have hse2 := fun w => HSE.out p2 d2 s2 q2 p' d' s' h' w
        rw [decide_eq_false he2] at hse2
        have HD2 : Hid (∀ w, Calls Tryd.prog 70 #[.agg #[.int .i64 p, .int .i64 d, .int .i64 s, .int .i64 h], .int .i64 ((k : Int) + 1)] w (Makes (.tuple #[.agg #[.int .i64 p2, .int .i64 d2, .int .i64 s2, .int .i64 q2, .int .i64 f2, .int .i64 u2, .int .i64 v2, .bool c2], .int .i64 0]) w)) := Lib.hid (fun w => HD.out w)
        by_cases hd : d = 1
        case neg =>
          have hdb : (d == 1) = false := by simpa using hd
          have HR : Hid (rhit _ ⟨p', d', s', h'⟩ ((k : Int) + 1) = false) := Lib.hid (by rw [hrh]; simp [he1, he2, hd])
          clear hrh
          go_wp2_with fail
          refine (HT2.out _).mono ?_
          rintro e w1 ⟨rfl, hbw1⟩
          have Bw1 := below_then BR hbw1
          have HA := Lib.hid ((HA.out.below hbw1).alloc (.cells #[.int .i64 p1, .int .i64 d1, .int .i64 s1, .int .i64 q1, .int .i64 f1, .int .i64 u1, .int .i64 v1, .bool true] 127))
          have HB := Lib.hid ((HB.out.below hbw1).alloc (.cells #[.int .i64 p1, .int .i64 d1, .int .i64 s1, .int .i64 q1, .int .i64 f1, .int .i64 u1, .int .i64 v1, .bool true] 127))
          have BEw1 : Below w.heap.size w (w1.alloc (.cells #[.int .i64 p1, .int .i64 d1, .int .i64 s1, .int .i64 q1, .int .i64 f1, .int .i64 u1, .int .i64 v1, .bool true] 127)) := Bw1.alloc Bw1.size _
          (try clear qa)
          (try clear qb)
          (try clear qx)
          have qa := HA.out.cell; have qb := HB.out.cell
          have HX := Lib.hid (Blk.fresh w1 #[.int .i64 p1, .int .i64 d1, .int .i64 s1, .int .i64 q1, .int .i64 f1, .int .i64 u1, .int .i64 v1, .bool true] 127 _ rfl)
          go_wp2_with fail
          refine (HD2.out _).mono ?_
          rintro e w2 ⟨rfl, hbw2⟩
          have Bw2 := below_then BEw1 hbw2
          have HA := Lib.hid ((HA.out.below hbw2).alloc (.cells #[.int .i64 p2, .int .i64 d2, .int .i64 s2, .int .i64 q2, .int .i64 f2, .int .i64 u2, .int .i64 v2, .bool c2] 127))
          have HB := Lib.hid ((HB.out.below hbw2).alloc (.cells #[.int .i64 p2, .int .i64 d2, .int .i64 s2, .int .i64 q2, .int .i64 f2, .int .i64 u2, .int .i64 v2, .bool c2] 127))
          have HX := Lib.hid ((HX.out.below hbw2).alloc (.cells #[.int .i64 p2, .int .i64 d2, .int .i64 s2, .int .i64 q2, .int .i64 f2, .int .i64 u2, .int .i64 v2, .bool c2] 127))
          have BEw2 : Below w.heap.size w (w2.alloc (.cells #[.int .i64 p2, .int .i64 d2, .int .i64 s2, .int .i64 q2, .int .i64 f2, .int .i64 u2, .int .i64 v2, .bool c2] 127)) := Bw2.alloc Bw2.size _
          (try clear qa)
          (try clear qb)
          (try clear qx)
          have qa := HA.out.cell; have qb := HB.out.cell
          have qx := HX.out.cell
          go_wp2_with fail
          go_roundw
          case rel => exact ⟨k + 1, by omega, by go_num, no_more HN.out HR.out, HA, HB, BEw2⟩
          case measure => simp [intOf]; omega
        subst hd
        by_cases hs5 : s1 = 5
        case neg =>
          have hsb : (s1 == 5) = false := by simpa using hs5
          have HR : Hid (rhit _ ⟨p', d', s', h'⟩ ((k : Int) + 1) = false) := Lib.hid (by rw [hrh]; simp [he1, he2, hs5])
          clear hrh
          go_wp2_with fail
          refine (HT2.out _).mono ?_
          rintro e w1 ⟨rfl, hbw1⟩
          have Bw1 := below_then BR hbw1
          have HA := Lib.hid ((HA.out.below hbw1).alloc (.cells #[.int .i64 p1, .int .i64 d1, .int .i64 s1, .int .i64 q1, .int .i64 f1, .int .i64 u1, .int .i64 v1, .bool true] 127))
          have HB := Lib.hid ((HB.out.below hbw1).alloc (.cells #[.int .i64 p1, .int .i64 d1, .int .i64 s1, .int .i64 q1, .int .i64 f1, .int .i64 u1, .int .i64 v1, .bool true] 127))
          have BEw1 : Below w.heap.size w (w1.alloc (.cells #[.int .i64 p1, .int .i64 d1, .int .i64 s1, .int .i64 q1, .int .i64 f1, .int .i64 u1, .int .i64 v1, .bool true] 127)) := Bw1.alloc Bw1.size _
          (try clear qa)
          (try clear qb)
          (try clear qx)
          have qa := HA.out.cell; have qb := HB.out.cell
          have HX := Lib.hid (Blk.fresh w1 #[.int .i64 p1, .int .i64 d1, .int .i64 s1, .int .i64 q1, .int .i64 f1, .int .i64 u1, .int .i64 v1, .bool true] 127 _ rfl)
          go_wp2_with fail
          refine (HD2.out _).mono ?_
          rintro e w2 ⟨rfl, hbw2⟩
          have Bw2 := below_then BEw1 hbw2
          have HA := Lib.hid ((HA.out.below hbw2).alloc (.cells #[.int .i64 p2, .int .i64 d2, .int .i64 s2, .int .i64 q2, .int .i64 f2, .int .i64 u2, .int .i64 v2, .bool c2] 127))
          have HB := Lib.hid ((HB.out.below hbw2).alloc (.cells #[.int .i64 p2, .int .i64 d2, .int .i64 s2, .int .i64 q2, .int .i64 f2, .int .i64 u2, .int .i64 v2, .bool c2] 127))
          have HX := Lib.hid ((HX.out.below hbw2).alloc (.cells #[.int .i64 p2, .int .i64 d2, .int .i64 s2, .int .i64 q2, .int .i64 f2, .int .i64 u2, .int .i64 v2, .bool c2] 127))
          have BEw2 : Below w.heap.size w (w2.alloc (.cells #[.int .i64 p2, .int .i64 d2, .int .i64 s2, .int .i64 q2, .int .i64 f2, .int .i64 u2, .int .i64 v2, .bool c2] 127)) := Bw2.alloc Bw2.size _
          (try clear qa)
          (try clear qb)
          (try clear qx)
          have qa := HA.out.cell; have qb := HB.out.cell
          have qx := HX.out.cell
          go_wp2_with fail
          go_roundw
          case rel => exact ⟨k + 1, by omega, by go_num, no_more HN.out HR.out, HA, HB, BEw2⟩
          case measure => simp [intOf]; omega
        subst hs5
        by_cases hn3 : n3 = 0
        case neg =>
          have hn3b : (n3 == 0) = false := by simpa using hn3
          have HR : Hid (rhit _ ⟨p', d', s', h'⟩ ((k : Int) + 1) = false) := Lib.hid (by rw [hrh]; simp [he1, he2, hn3])
          clear hrh
          go_wp2_with fail
          refine (HT2.out _).mono ?_
          rintro e w1 ⟨rfl, hbw1⟩
          have Bw1 := below_then BR hbw1
          have HA := Lib.hid ((HA.out.below hbw1).alloc (.cells #[.int .i64 p1, .int .i64 d1, .int .i64 5, .int .i64 q1, .int .i64 f1, .int .i64 u1, .int .i64 v1, .bool true] 127))
          have HB := Lib.hid ((HB.out.below hbw1).alloc (.cells #[.int .i64 p1, .int .i64 d1, .int .i64 5, .int .i64 q1, .int .i64 f1, .int .i64 u1, .int .i64 v1, .bool true] 127))
          have BEw1 : Below w.heap.size w (w1.alloc (.cells #[.int .i64 p1, .int .i64 d1, .int .i64 5, .int .i64 q1, .int .i64 f1, .int .i64 u1, .int .i64 v1, .bool true] 127)) := Bw1.alloc Bw1.size _
          (try clear qa)
          (try clear qb)
          (try clear qx)
          have qa := HA.out.cell; have qb := HB.out.cell
          have HX := Lib.hid (Blk.fresh w1 #[.int .i64 p1, .int .i64 d1, .int .i64 5, .int .i64 q1, .int .i64 f1, .int .i64 u1, .int .i64 v1, .bool true] 127 _ rfl)
          go_wp2_with fail
          refine (HD2.out _).mono ?_
          rintro e w2 ⟨rfl, hbw2⟩
          have Bw2 := below_then BEw1 hbw2
          have HA := Lib.hid ((HA.out.below hbw2).alloc (.cells #[.int .i64 p2, .int .i64 d2, .int .i64 s2, .int .i64 q2, .int .i64 f2, .int .i64 u2, .int .i64 v2, .bool c2] 127))
          have HB := Lib.hid ((HB.out.below hbw2).alloc (.cells #[.int .i64 p2, .int .i64 d2, .int .i64 s2, .int .i64 q2, .int .i64 f2, .int .i64 u2, .int .i64 v2, .bool c2] 127))
          have HX := Lib.hid ((HX.out.below hbw2).alloc (.cells #[.int .i64 p2, .int .i64 d2, .int .i64 s2, .int .i64 q2, .int .i64 f2, .int .i64 u2, .int .i64 v2, .bool c2] 127))
          have BEw2 : Below w.heap.size w (w2.alloc (.cells #[.int .i64 p2, .int .i64 d2, .int .i64 s2, .int .i64 q2, .int .i64 f2, .int .i64 u2, .int .i64 v2, .bool c2] 127)) := Bw2.alloc Bw2.size _
          (try clear qa)
          (try clear qb)
          (try clear qx)
          have qa := HA.out.cell; have qb := HB.out.cell
          have qx := HX.out.cell
          go_wp2_with fail
          refine (HL.out _).mono ?_
          rintro e w3 ⟨rfl, hbw3⟩
          have Bw3 := below_then BEw2 hbw3
          have HA := Lib.hid ((HA.out.below hbw3).alloc (.cells #[.int .i64 p3, .int .i64 d3, .int .i64 s3, .int .i64 q3, .int .i64 f3, .int .i64 u3, .int .i64 v3, .bool c3] 127))
          have HB := Lib.hid ((HB.out.below hbw3).alloc (.cells #[.int .i64 p3, .int .i64 d3, .int .i64 s3, .int .i64 q3, .int .i64 f3, .int .i64 u3, .int .i64 v3, .bool c3] 127))
          have BEw3 : Below w.heap.size w (w3.alloc (.cells #[.int .i64 p3, .int .i64 d3, .int .i64 s3, .int .i64 q3, .int .i64 f3, .int .i64 u3, .int .i64 v3, .bool c3] 127)) := Bw3.alloc Bw3.size _
          (try clear qa)
          (try clear qb)
          (try clear qx)
          have qa := HA.out.cell; have qb := HB.out.cell
          go_wp2_with fail
          go_roundw
          case rel => exact ⟨k + 1, by omega, by go_num, no_more HN.out HR.out, HA, HB, BEw3⟩
          case measure => simp [intOf]; omega
        subst hn3
        by_cases he3 : (⟨p3, d3, s3, q3⟩ : MSeat) = ⟨p', d', s', h'⟩
        case pos =>
          have hse3 := fun w => HSE.out p3 d3 s3 q3 p' d' s' h' w
          rw [decide_eq_true he3] at hse3
          have HR : Hid (rhit _ ⟨p', d', s', h'⟩ ((k : Int) + 1) = true) := Lib.hid (by rw [hrh]; simp [he1, he2, he3])
          clear hrh
          go_wp2_with fail
          refine (HT2.out _).mono ?_
          rintro e w1 ⟨rfl, hbw1⟩
          have Bw1 := below_then BR hbw1
          have HA := Lib.hid ((HA.out.below hbw1).alloc (.cells #[.int .i64 p1, .int .i64 d1, .int .i64 5, .int .i64 q1, .int .i64 f1, .int .i64 u1, .int .i64 v1, .bool true] 127))
          have HB := Lib.hid ((HB.out.below hbw1).alloc (.cells #[.int .i64 p1, .int .i64 d1, .int .i64 5, .int .i64 q1, .int .i64 f1, .int .i64 u1, .int .i64 v1, .bool true] 127))
          have BEw1 : Below w.heap.size w (w1.alloc (.cells #[.int .i64 p1, .int .i64 d1, .int .i64 5, .int .i64 q1, .int .i64 f1, .int .i64 u1, .int .i64 v1, .bool true] 127)) := Bw1.alloc Bw1.size _
          (try clear qa)
          (try clear qb)
          (try clear qx)
          have qa := HA.out.cell; have qb := HB.out.cell
          have HX := Lib.hid (Blk.fresh w1 #[.int .i64 p1, .int .i64 d1, .int .i64 5, .int .i64 q1, .int .i64 f1, .int .i64 u1, .int .i64 v1, .bool true] 127 _ rfl)
          go_wp2_with fail
          refine (HD2.out _).mono ?_
          rintro e w2 ⟨rfl, hbw2⟩
          have Bw2 := below_then BEw1 hbw2
          have HA := Lib.hid ((HA.out.below hbw2).alloc (.cells #[.int .i64 p2, .int .i64 d2, .int .i64 s2, .int .i64 q2, .int .i64 f2, .int .i64 u2, .int .i64 v2, .bool c2] 127))
          have HB := Lib.hid ((HB.out.below hbw2).alloc (.cells #[.int .i64 p2, .int .i64 d2, .int .i64 s2, .int .i64 q2, .int .i64 f2, .int .i64 u2, .int .i64 v2, .bool c2] 127))
          have HX := Lib.hid ((HX.out.below hbw2).alloc (.cells #[.int .i64 p2, .int .i64 d2, .int .i64 s2, .int .i64 q2, .int .i64 f2, .int .i64 u2, .int .i64 v2, .bool c2] 127))
          have BEw2 : Below w.heap.size w (w2.alloc (.cells #[.int .i64 p2, .int .i64 d2, .int .i64 s2, .int .i64 q2, .int .i64 f2, .int .i64 u2, .int .i64 v2, .bool c2] 127)) := Bw2.alloc Bw2.size _
          (try clear qa)
          (try clear qb)
          (try clear qx)
          have qa := HA.out.cell; have qb := HB.out.cell
          have qx := HX.out.cell
          go_wp2_with fail
          refine (HL.out _).mono ?_
          rintro e w3 ⟨rfl, hbw3⟩
          have Bw3 := below_then BEw2 hbw3
          have HA := Lib.hid ((HA.out.below hbw3).alloc (.cells #[.int .i64 p3, .int .i64 d3, .int .i64 s3, .int .i64 q3, .int .i64 f3, .int .i64 u3, .int .i64 v3, .bool c3] 127))
          have HB := Lib.hid ((HB.out.below hbw3).alloc (.cells #[.int .i64 p3, .int .i64 d3, .int .i64 s3, .int .i64 q3, .int .i64 f3, .int .i64 u3, .int .i64 v3, .bool c3] 127))
          have BEw3 : Below w.heap.size w (w3.alloc (.cells #[.int .i64 p3, .int .i64 d3, .int .i64 s3, .int .i64 q3, .int .i64 f3, .int .i64 u3, .int .i64 v3, .bool c3] 127)) := Bw3.alloc Bw3.size _
          (try clear qa)
          (try clear qb)
          (try clear qx)
          have qa := HA.out.cell; have qb := HB.out.cell
          go_wp2_with fail
          go_ret
          exact ⟨(by rw [hit_true hab HLT.out HR.out] <;> rfl), BEw3⟩
        case neg =>
          have hse3 := fun w => HSE.out p3 d3 s3 q3 p' d' s' h' w
          rw [decide_eq_false he3] at hse3
          have HR : Hid (rhit _ ⟨p', d', s', h'⟩ ((k : Int) + 1) = false) := Lib.hid (by rw [hrh]; simp [he1, he2, he3])
          clear hrh
          go_wp2_with fail
          refine (HT2.out _).mono ?_
          rintro e w1 ⟨rfl, hbw1⟩
          have Bw1 := below_then BR hbw1
          have HA := Lib.hid ((HA.out.below hbw1).alloc (.cells #[.int .i64 p1, .int .i64 d1, .int .i64 5, .int .i64 q1, .int .i64 f1, .int .i64 u1, .int .i64 v1, .bool true] 127))
          have HB := Lib.hid ((HB.out.below hbw1).alloc (.cells #[.int .i64 p1, .int .i64 d1, .int .i64 5, .int .i64 q1, .int .i64 f1, .int .i64 u1, .int .i64 v1, .bool true] 127))
          have BEw1 : Below w.heap.size w (w1.alloc (.cells #[.int .i64 p1, .int .i64 d1, .int .i64 5, .int .i64 q1, .int .i64 f1, .int .i64 u1, .int .i64 v1, .bool true] 127)) := Bw1.alloc Bw1.size _
          (try clear qa)
          (try clear qb)
          (try clear qx)
          have qa := HA.out.cell; have qb := HB.out.cell
          have HX := Lib.hid (Blk.fresh w1 #[.int .i64 p1, .int .i64 d1, .int .i64 5, .int .i64 q1, .int .i64 f1, .int .i64 u1, .int .i64 v1, .bool true] 127 _ rfl)
          go_wp2_with fail
          refine (HD2.out _).mono ?_
          rintro e w2 ⟨rfl, hbw2⟩
          have Bw2 := below_then BEw1 hbw2
          have HA := Lib.hid ((HA.out.below hbw2).alloc (.cells #[.int .i64 p2, .int .i64 d2, .int .i64 s2, .int .i64 q2, .int .i64 f2, .int .i64 u2, .int .i64 v2, .bool c2] 127))
          have HB := Lib.hid ((HB.out.below hbw2).alloc (.cells #[.int .i64 p2, .int .i64 d2, .int .i64 s2, .int .i64 q2, .int .i64 f2, .int .i64 u2, .int .i64 v2, .bool c2] 127))
          have HX := Lib.hid ((HX.out.below hbw2).alloc (.cells #[.int .i64 p2, .int .i64 d2, .int .i64 s2, .int .i64 q2, .int .i64 f2, .int .i64 u2, .int .i64 v2, .bool c2] 127))
          have BEw2 : Below w.heap.size w (w2.alloc (.cells #[.int .i64 p2, .int .i64 d2, .int .i64 s2, .int .i64 q2, .int .i64 f2, .int .i64 u2, .int .i64 v2, .bool c2] 127)) := Bw2.alloc Bw2.size _
          (try clear qa)
          (try clear qb)
          (try clear qx)
          have qa := HA.out.cell; have qb := HB.out.cell
          have qx := HX.out.cell
          go_wp2_with fail
          refine (HL.out _).mono ?_
          rintro e w3 ⟨rfl, hbw3⟩
          have Bw3 := below_then BEw2 hbw3
          have HA := Lib.hid ((HA.out.below hbw3).alloc (.cells #[.int .i64 p3, .int .i64 d3, .int .i64 s3, .int .i64 q3, .int .i64 f3, .int .i64 u3, .int .i64 v3, .bool c3] 127))
          have HB := Lib.hid ((HB.out.below hbw3).alloc (.cells #[.int .i64 p3, .int .i64 d3, .int .i64 s3, .int .i64 q3, .int .i64 f3, .int .i64 u3, .int .i64 v3, .bool c3] 127))
          have BEw3 : Below w.heap.size w (w3.alloc (.cells #[.int .i64 p3, .int .i64 d3, .int .i64 s3, .int .i64 q3, .int .i64 f3, .int .i64 u3, .int .i64 v3, .bool c3] 127)) := Bw3.alloc Bw3.size _
          (try clear qa)
          (try clear qb)
          (try clear qx)
          have qa := HA.out.cell; have qb := HB.out.cell
          go_wp2_with fail
          go_roundw
          case rel => exact ⟨k + 1, by omega, by go_num, no_more HN.out HR.out, HA, HB, BEw3⟩
          case measure => simp [intOf]; omega
    · obtain rfl : k = 14 := by omega
      go_wp2_with fail
      go_ret
      exact ⟨(by rw [none_false hab HN.out] <;> rfl), BR⟩
end Go.Proofs.YtkidljiffeonjaaDoor
