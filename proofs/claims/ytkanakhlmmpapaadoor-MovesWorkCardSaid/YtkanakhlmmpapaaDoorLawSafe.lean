/- MovesSafe, walked. -/
import Derived.Test.YtkanakhlmmpapaaDoorRows
import Derived.WalkKit
import Derived.WalkSpells
import Derived.WalkLawsBesides
import Derived.BigQuiet
import Derived.Deep.QuietTactic
import Derived.StillTailTactics
import Derived.Handy
import Derived.Lib.Hide
import Derived.Test.YtkanakhlmmpapaaDoorMovOpen
set_option linter.unusedSimpArgs false
set_option linter.unusedVariables false
namespace Go.Proofs.YtkanakhlmmpapaaDoor
open Go.RowKit

theorem seat1_of (B g : Nat) (v : Value) (P : MPair) (w : World) (h : PairIn B g v P w) : Calls Tryd.prog 12 #[.pointer (some ⟨g, 0, none⟩), .int .i64 1] w (Makes (seatV P.c) w) := seat_of B g v P 1 w h
theorem seat2_of (B g : Nat) (v : Value) (P : MPair) (w : World) (h : PairIn B g v P w) : Calls Tryd.prog 12 #[.pointer (some ⟨g, 0, none⟩), .int .i64 2] w (Makes (seatV P.x) w) := seat_of B g v P 2 w h
/-- the shapes of a safe pair's two states -/
theorem safe_cases {c x : MSeat} (h : safeB c x = true) :
    (c.s = 14 → lOn x c.h = true) ∧ (x.s = 14 → lOn c x.h = true) ∧ ((c.s = 5 ∨ c.s = 6 ∨ c.s = 7) → (x.s = 5 ∨ x.s = 6 ∨ x.s = 7 ∨ x.s = 11 ∨ x.s = 14)) := by
  unfold safeB at h
  simp only [Bool.and_eq_true, Bool.not_eq_true', Bool.and_eq_false_iff, decide_eq_false_iff_not, decide_eq_true_eq, Bool.not_eq_false'] at h
  exact ⟨fun a => h.1.1.resolve_left (fun n => n a), fun a => h.1.2.resolve_left (fun n => n a), fun a => h.2.resolve_left (fun n => n a)⟩

set_option maxRecDepth 100000 in
set_option maxHeartbeats 8000000 in
theorem law_safe (p : Int) (v0 : Value) (ops : List MOp) (ea : Int → Addr) (w : World) (hE : Err5 ea w) (hR : ReadOps w v0 ops) : Calls Tryd.prog 3 #[.int .i64 p, v0] w (Makes (.bool true) w) := by
  obtain ⟨a, cap, rfl, hcells⟩ := hR
  obtain ⟨n, hn⟩ : ∃ n, n = ops.length := ⟨_, rfl⟩
  rw [← hn]
  have HC := Lib.hid hcells; clear hcells
  have HN := Lib.hid hn; clear hn
  by_cases hbig : (200 : Int) < (n : Int)
  · go_enter Tryd.func3, Tryd.ntmps3
    go_wp2_with (go_at_call 9; refine (alive11 ea _ hE).mono ?_; rintro e w1 ⟨rfl, hb1⟩)
    go_ret
    exact ⟨rfl, hb1⟩
  by_cases hp : p = 1 ∨ p = 2
  · go_enter Tryd.func3, Tryd.ntmps3
    go_wp2_with fail
    refine (alive11 ea _ hE).mono ?_
    rintro e w1 ⟨rfl, hb1⟩
    go_wp2_with fail
    refine (newPair_yes p hp w1).mono ?_
    rintro e w2 ⟨g, v, rfl, hP, hb2⟩
    have HP2 := Lib.hid hP; clear hP
    go_wp2_with fail
    go_loopw [26] (fun i wr => ∃ k P v, k ≤ n ∧ i = .int .i64 (k : Nat) ∧ Ok P ∧ PairIn w1.heap.size g v P wr ∧ Below w1.heap.size w1 wr) (fun i _ => n - (intOf i).toNat)
    case atStart => exact ⟨0, newPair p, v, by omega, by go_num, Ok.new hp, HP2.out, hb2⟩
    case round =>
      obtain ⟨k, P, v, hk, rfl, hO, hP, hB⟩ := hrel
      have HP := Lib.hid hP; clear hP
      by_cases hlt : k < n
      · have hlo : k < ops.length := by rw [← HN.out]; exact hlt
        have hB0 : Below w.heap.size w wr := below_then hb1 hB
        obtain ⟨b, off, rfl, hbl, hops⟩ := HC.out (by intro e; rw [e] at hlo; simp at hlo)
        obtain ⟨o, ho⟩ : ∃ o, o = ops[k] := ⟨_, rfl⟩
        have hoa := (hops k hlo).below hB0 hbl
        rw [← ho] at hoa
        obtain ⟨a0, a1, a2, a3, a4⟩ := hoa
        clear hops ho hlo
        have hki : (k : Int) < (n : Int) := by omega
        have hk0 : (0 : Int) ≤ (k : Int) := by omega
        have OK := Lib.hid hO; clear hO
        have hz0 := hB0.size; have hzB := hB.size
        go_wp2_with fail
        refine (ldo_of w1.heap.size g v P o ea _ (hE.below (by go_grown)) (HP.out.rel (by go_grown)) OK.out (by have := hB.size; simp only [World.size_alloc]; omega)).mono ?_
        rintro e w3 ⟨rfl, v2, hP3, hs3, hf3⟩
        have hB3 : Below w1.heap.size w1 w3 := ((hB.alloc hB.size _).trans (hs3.below (HP.out.rel (by go_grown))))
        have HP3 := Lib.hid hP3; clear hP3 hs3 hf3 a0 a1 a2 a3 a4 hB
        obtain ⟨Q, hQ⟩ : ∃ Q, Q = (lDo P o).1 := ⟨_, rfl⟩
        have OK2 : Hid (Ok Q) := by rw [hQ]; exact Lib.hid (OK.out.step o)
        rw [← hQ] at HP3
        clear hQ OK
        obtain ⟨h1, h2, h3⟩ := safe_cases OK2.out.good.safe
        go_wp2_with fail
        refine (seat1_of w1.heap.size g v2 Q _ HP3.out).mono ?_
        rintro e w4 ⟨rfl, hb4⟩
        have hB4 := below_then hB3 hb4
        have HP4 := Lib.hid (HP3.out.rel hb4)
        go_wp2_with fail
        refine (seat2_of w1.heap.size g v2 Q _ HP4.out).mono ?_
        rintro e w5 ⟨rfl, hb5⟩
        have hB5 := below_then hB4 hb5
        have hz5 := hB5.size
        have HP5 := Lib.hid (HP4.out.rel hb5)
        clear HP3 HP4 HP
        obtain ⟨⟨cp, cd, cs, ch⟩, ⟨xp, xd, xs, xh⟩, fl⟩ := Q
        dsimp only [seatV] at h1 h2 h3 ⊢
        have ON1 := Lib.hid h1; have ON2 := Lib.hid h2
        clear h1 h2
        by_cases x14 : xs = 14
        · subst x14
          clear h3
          have O2 := Lib.hid (ON2.out rfl)
          by_cases c14 : cs = 14
          · subst c14
            have O1 := Lib.hid (ON1.out rfl)
            go_wp2_with fail
            refine (on_of ⟨xp, xd, 14, xh⟩ ch _).mono ?_
            rw [O1.out]
            rintro e w6 ⟨rfl, rfl⟩
            go_wp2_with fail
            refine (on_of ⟨cp, cd, 14, ch⟩ xh _).mono ?_
            rw [O2.out]
            rintro e w7 ⟨rfl, rfl⟩
            go_wp2_with fail
            all_goals (go_roundw <;> first | exact ⟨k + 1, _, v2, by omega, by go_num, OK2.out, HP5.out.rel (by go_grown), by go_grown⟩ | (simp [intOf]; omega))
          have d14 : (cs == 14) = false := by simpa using c14
          clear c14
          go_wp2_with fail
          refine (on_of ⟨cp, cd, cs, ch⟩ xh _).mono ?_
          rw [O2.out]
          rintro e w7 ⟨rfl, rfl⟩
          go_wp2_with fail
          all_goals (go_roundw <;> first | exact ⟨k + 1, _, v2, by omega, by go_num, OK2.out, HP5.out.rel (by go_grown), by go_grown⟩ | (simp [intOf]; omega))
        by_cases x5 : xs = 5
        · subst x5
          clear h3
          by_cases c14 : cs = 14
          · subst c14
            have O1 := Lib.hid (ON1.out rfl)
            go_wp2_with fail
            refine (on_of ⟨xp, xd, 5, xh⟩ ch _).mono ?_
            rw [O1.out]
            rintro e w6 ⟨rfl, rfl⟩
            go_wp2_with fail
            all_goals (go_roundw <;> first | exact ⟨k + 1, _, v2, by omega, by go_num, OK2.out, HP5.out.rel (by go_grown), by go_grown⟩ | (simp [intOf]; omega))
          have d14 : (cs == 14) = false := by simpa using c14
          clear c14
          go_wp2_with fail
          all_goals (go_roundw <;> first | exact ⟨k + 1, _, v2, by omega, by go_num, OK2.out, HP5.out.rel (by go_grown), by go_grown⟩ | (simp [intOf]; omega))
        by_cases x6 : xs = 6
        · subst x6
          clear h3
          by_cases c14 : cs = 14
          · subst c14
            have O1 := Lib.hid (ON1.out rfl)
            go_wp2_with fail
            refine (on_of ⟨xp, xd, 6, xh⟩ ch _).mono ?_
            rw [O1.out]
            rintro e w6 ⟨rfl, rfl⟩
            go_wp2_with fail
            all_goals (go_roundw <;> first | exact ⟨k + 1, _, v2, by omega, by go_num, OK2.out, HP5.out.rel (by go_grown), by go_grown⟩ | (simp [intOf]; omega))
          have d14 : (cs == 14) = false := by simpa using c14
          clear c14
          go_wp2_with fail
          all_goals (go_roundw <;> first | exact ⟨k + 1, _, v2, by omega, by go_num, OK2.out, HP5.out.rel (by go_grown), by go_grown⟩ | (simp [intOf]; omega))
        by_cases x7 : xs = 7
        · subst x7
          clear h3
          by_cases c14 : cs = 14
          · subst c14
            have O1 := Lib.hid (ON1.out rfl)
            go_wp2_with fail
            refine (on_of ⟨xp, xd, 7, xh⟩ ch _).mono ?_
            rw [O1.out]
            rintro e w6 ⟨rfl, rfl⟩
            go_wp2_with fail
            all_goals (go_roundw <;> first | exact ⟨k + 1, _, v2, by omega, by go_num, OK2.out, HP5.out.rel (by go_grown), by go_grown⟩ | (simp [intOf]; omega))
          have d14 : (cs == 14) = false := by simpa using c14
          clear c14
          go_wp2_with fail
          all_goals (go_roundw <;> first | exact ⟨k + 1, _, v2, by omega, by go_num, OK2.out, HP5.out.rel (by go_grown), by go_grown⟩ | (simp [intOf]; omega))
        by_cases x11 : xs = 11
        · subst x11
          clear h3
          by_cases c14 : cs = 14
          · subst c14
            have O1 := Lib.hid (ON1.out rfl)
            go_wp2_with fail
            refine (on_of ⟨xp, xd, 11, xh⟩ ch _).mono ?_
            rw [O1.out]
            rintro e w6 ⟨rfl, rfl⟩
            go_wp2_with fail
            all_goals (go_roundw <;> first | exact ⟨k + 1, _, v2, by omega, by go_num, OK2.out, HP5.out.rel (by go_grown), by go_grown⟩ | (simp [intOf]; omega))
          have d14 : (cs == 14) = false := by simpa using c14
          clear c14
          go_wp2_with fail
          all_goals (go_roundw <;> first | exact ⟨k + 1, _, v2, by omega, by go_num, OK2.out, HP5.out.rel (by go_grown), by go_grown⟩ | (simp [intOf]; omega))
        have y14 : (xs == 14) = false := by simpa using x14
        have y5 : (xs == 5) = false := by simpa using x5
        have y6 : (xs == 6) = false := by simpa using x6
        have y7 : (xs == 7) = false := by simpa using x7
        have y11 : (xs == 11) = false := by simpa using x11
        have hc3 : ¬ (cs = 5 ∨ cs = 6 ∨ cs = 7) := fun h => by have := h3 h; omega
        have c5 : (cs == 5) = false := by simp; omega
        have c6 : (cs == 6) = false := by simp; omega
        have c7 : (cs == 7) = false := by simp; omega
        clear hc3 h3 x14 x5 x6 x7 x11
        by_cases c14 : cs = 14
        · subst c14
          clear c5 c6 c7
          have O1 := Lib.hid (ON1.out rfl)
          go_wp2_with fail
          refine (on_of ⟨xp, xd, xs, xh⟩ ch _).mono ?_
          rw [O1.out]
          rintro e w6 ⟨rfl, rfl⟩
          go_wp2_with fail
          all_goals (go_roundw <;> first | exact ⟨k + 1, _, v2, by omega, by go_num, OK2.out, HP5.out.rel (by go_grown), by go_grown⟩ | (simp [intOf]; omega))
        · have d14 : (cs == 14) = false := by simpa using c14
          clear c14
          go_wp2_with fail
          all_goals (go_roundw <;> first | exact ⟨k + 1, _, v2, by omega, by go_num, OK2.out, HP5.out.rel (by go_grown), by go_grown⟩ | (simp [intOf]; omega))
      · obtain rfl : k = n := by omega
        go_wp2_with fail
        go_ret
        exact ⟨rfl, below_then hb1 hB⟩
  · go_enter Tryd.func3, Tryd.ntmps3
    go_wp2_with fail
    refine (alive11 ea _ hE).mono ?_
    rintro e w1 ⟨rfl, hb1⟩
    go_wp2_with fail
    refine (newPair_no p hp (ea 14) w1 (hE.below hb1).e.e14).mono ?_
    rintro e w2 ⟨rfl, hb2⟩
    go_wp2_with fail
    go_ret
    exact ⟨rfl, below_then hb1 hb2⟩
end Go.Proofs.YtkanakhlmmpapaaDoor
