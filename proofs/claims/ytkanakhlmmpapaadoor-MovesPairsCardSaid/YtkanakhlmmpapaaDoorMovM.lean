/- The laws' own functions of moves: an op, the way to an end, the example. -/
import Derived.Test.YtkanakhlmmpapaaDoorRows
import Derived.WalkKit
import Derived.WalkSpells
import Derived.WalkLawsBesides
import Derived.BigQuiet
import Derived.Deep.QuietTactic
import Derived.StillTailTactics
import Derived.Handy
import Derived.Lib.Hide
import Derived.Test.YtkanakhlmmpapaaDoorMovK
import Derived.Test.YtkanakhlmmpapaaDoorMovL
import Derived.Test.YtkanakhlmmpapaaDoorMovStep
set_option linter.unusedSimpArgs false
set_option linter.unusedVariables false
namespace Go.Proofs.YtkanakhlmmpapaaDoor
open Go.RowKit

theorem PairGoes.then_below {B g : Nat} {v : Value} {P : MPair} {w w' w'' : World} (h : PairGoes B g v P w w') (hb : Below w'.heap.size w' w'') : PairGoes B g v P w w'' := by
  obtain ⟨v', h1, h2, h3⟩ := h
  exact ⟨v', h1.rel hb, ⟨hb.os.trans h2.os, hb.tape.trans h2.tape, hb.output.trans h2.output, Nat.le_trans h2.size hb.size, fun k hk hg hr => (hb.block k (Nat.lt_of_lt_of_le hk h2.size)).trans (h2.block k hk hg hr)⟩, h3⟩

theorem pdeliver_of (B g : Nat) (v : Value) (P : MPair) (i : Int) (copies : Bool) (ea : Int → Addr) (w : World) (hE : Err5 ea w) (h : PairIn B g v P w) (hO : Ok P) (hB : B ≤ w.heap.size) :
    Calls Tryd.prog 15 #[.pointer (some ⟨g, 0, none⟩), .int .i64 i, .bool copies] w fun e w' => e = .returned (.tuple #[effV (mPDeliver P i copies).2.1, errOf ea (mPDeliver P i copies).2.2]) ∧ PairGoes B g v (mPDeliver P i copies).1 w w' := by
  have hl : P.fl.length ≤ 1000 := by have := hO.len; omega
  by_cases hc : i < 0 ∨ (P.fl.length : Int) ≤ i ∨ (copies = true ∧ mFull P = true)
  · exact pdeliver_err B g v P i copies ea w hE h hl hc
  · have h1 : ¬ (i < 0 ∨ (P.fl.length : Int) ≤ i) := fun hh => hc (hh.elim .inl (fun h => .inr (.inl h)))
    have h2 : ¬ (copies = true ∧ mFull P = true) := fun hh => hc (.inr (.inr hh))
    obtain ⟨j, rfl⟩ : ∃ j : Nat, i = j := ⟨i.toNat, by omega⟩
    have hj : j < P.fl.length := by omega
    obtain ⟨b, cap, rfl, hcap⟩ := h.some (by omega)
    have hm := hO.good.tells (List.getElem_mem hj)
    obtain ⟨t, k, hm'⟩ : ∃ t k, P.fl[j] = (t, k) := ⟨_, _, rfl⟩
    rw [hm'] at hm
    have hD : mPDeliver P (j : Int) copies = mGive P j t k copies := by
      unfold mPDeliver
      rw [if_neg h1, if_neg h2, Int.toNat_natCast, List.getD_eq_getElem?_getD, List.getElem?_eq_getElem hj, hm']
      rfl
    rw [hD]
    have h0 : (mTell (P.seat t) k).2 = 0 := hm.2
    unfold mGive
    rw [if_neg (by simpa using h0)]
    obtain ⟨e, he⟩ : ∃ e, e = (mTell (P.seat t) k).1 := ⟨_, rfl⟩
    have het : mTell (P.seat t) k = (e, 0) := by rw [he, ← h0]
    rw [← he, show errOf ea 0 = .nilIface from rfl]
    rcases hm.1 with h' | h'
    · have h' : t = 1 := h'
      subst h'
      exact pdeliver1 B g b cap P j k copies e ea w hE h hl hB hj hm' h2 het
    · have h' : t = 2 := h'
      subst h'
      exact pdeliver2 B g b cap P j k copies e ea w hE h hl hB hj hm' h2 het

set_option maxRecDepth 100000 in
set_option maxHeartbeats 2000000 in
theorem newPair_no (p : Int) (hp : ¬ (p = 1 ∨ p = 2)) (a : Addr) (w : World) (he : ErrIs w 13 a) :
    Calls Tryd.prog 10 #[.int .i64 p] w (Makes (.tuple #[.pointer none, errV a]) w) := by
  have h1 : rSide p 1 = false := by simp only [rSide, decide_eq_false_iff_not]; omega
  have N1 := Lib.hid (fun W hW => new_no p 1 a W hW h1)
  have HE := Lib.hid he; clear he
  clear h1 hp
  go_enter Tryd.func10, Tryd.ntmps10
  go_wp2_with fail
  go_loopw [10] (fun i wr => i = .int .i64 0 ∧ Below w.heap.size w wr) (fun i _ => 2 - (intOf i).toNat)
  case atStart => exact ⟨rfl, by go_grown⟩
  case round =>
    obtain ⟨rfl, hB⟩ := hrel
    go_wp2_with (go_at_call 29; refine (N1.out _ (HE.out.below hB)).mono ?_; rintro e w1 ⟨rfl, hb1⟩; have B1 : Below w.heap.size w w1 := below_then hB hb1; have hz1 := B1.size)
    go_ret2
    exact ⟨rfl, by go_grown⟩

set_option maxHeartbeats 1000000 in
theorem on_of (s : MSeat) (how : Int) (w : World) : Calls Tryd.prog 13 #[seatV s, .int .i64 how] w fun e w' => e = .returned (.bool (lOn s how)) ∧ w' = w.alloc (.cells #[.int .i64 s.p, .int .i64 s.d, .int .i64 s.s, .int .i64 s.h] 32) := by
  obtain ⟨p, d, s, h⟩ := s
  dsimp only [seatV]
  obtain ⟨v, hv⟩ : ∃ v, v = lOn ⟨p, d, s, h⟩ how := ⟨_, rfl⟩
  rw [← hv]
  have HV := Lib.hid hv; clear hv
  go_enter Tryd.func13, Tryd.ntmps13
  go_wp2
  all_goals (go_ret; refine ⟨ret_bool ?_, (by first | rfl | (simp only [beq_iff_eq] at *; subst_vars; rfl) | simp [*])⟩; rw [HV.out]; simp only [beq_iff_eq, beq_eq_false_iff_ne, ne_eq] at *; simp [lOn, *]; first | done | (intros; omega) | (rw [Bool.eq_iff_iff]; simp; done) | (rw [Bool.eq_iff_iff]; simp; intros; omega))

theorem fieldS (p d s h : Value) (w : World) : (Instr.field 32 (.agg #[p, d, s, h]) 0).run Tryd.prog w = .ok p w ∧ (Instr.field 32 (.agg #[p, d, s, h]) 1).run Tryd.prog w = .ok d w ∧ (Instr.field 32 (.agg #[p, d, s, h]) 2).run Tryd.prog w = .ok s w ∧ (Instr.field 32 (.agg #[p, d, s, h]) 3).run Tryd.prog w = .ok h w := ⟨by kernel_rfl, by kernel_rfl, by kernel_rfl, by kernel_rfl⟩
theorem pdo_ok (B g : Nat) (v : Value) (P Q : MPair) (d k : Int) (ea : Int → Addr) (w : World) (hE : Err5 ea w) (h : PairIn B g v P w) (hl : P.fl.length ≤ 64) (hB : B ≤ w.heap.size) (hd : mPDo P d k = (Q, 0)) :
    Calls Tryd.prog 17 #[.pointer (some ⟨g, 0, none⟩), .int .i64 d, .int .i64 k] w fun e w' => e = .returned .nilIface ∧ ∃ v', PairIn B g v' Q w' ∧ Below B w w' := by
  have := pdo_of B g v P d k ea w hE h (by omega) hB
  rw [hd] at this
  refine this.mono ?_
  rintro e w' ⟨rfl, v', h1, h2, _⟩
  exact ⟨rfl, v', h1, h2.below h⟩
theorem pdeliver_ok (B g : Nat) (v : Value) (P Q : MPair) (i : Int) (b : Bool) (ef : Eff) (ea : Int → Addr) (w : World) (hE : Err5 ea w) (h : PairIn B g v P w) (hO : Ok P) (hB : B ≤ w.heap.size) (hd : mPDeliver P i b = (Q, ef, 0)) :
    Calls Tryd.prog 15 #[.pointer (some ⟨g, 0, none⟩), .int .i64 i, .bool b] w fun e w' => e = .returned (.tuple #[effV ef, .nilIface]) ∧ ∃ v', PairIn B g v' Q w' ∧ Below B w w' := by
  have := pdeliver_of B g v P i b ea w hE h hO hB
  rw [hd] at this
  refine this.mono ?_
  rintro e w' ⟨rfl, v', h1, h2, _⟩
  exact ⟨rfl, v', h1, h2.below h⟩

set_option maxRecDepth 100000 in
set_option maxHeartbeats 4000000 in
theorem alive11 (ea : Int → Addr) (w : World) (hE : Err5 ea w) : Calls Tryd.prog 9 #[] w (Makes (.bool true) w) := by
  have d1 : mPDo (newPair 1) 2 3 = (⟨⟨1, 1, 1, 0⟩, ⟨1, 2, 5, 0⟩, [(1, 3)]⟩, 0) := by kernel_rfl
  have d2 : mPDeliver ⟨⟨1, 1, 1, 0⟩, ⟨1, 2, 5, 0⟩, [(1, 3)]⟩ 0 false = (⟨⟨1, 1, 5, 0⟩, ⟨1, 2, 5, 0⟩, []⟩, ⟨⟨1, 1, 5, 0⟩, 0, 0, 0, true⟩, 0) := by kernel_rfl
  have d3 : mPDo ⟨⟨1, 1, 5, 0⟩, ⟨1, 2, 5, 0⟩, []⟩ 1 9 = (⟨⟨1, 1, 6, 0⟩, ⟨1, 2, 5, 0⟩, [(2, 9)]⟩, 0) := by kernel_rfl
  have d4 : mPDeliver ⟨⟨1, 1, 6, 0⟩, ⟨1, 2, 5, 0⟩, [(2, 9)]⟩ 0 false = (⟨⟨1, 1, 6, 0⟩, ⟨1, 2, 6, 0⟩, []⟩, ⟨⟨1, 2, 6, 0⟩, 0, 0, 9, true⟩, 0) := by kernel_rfl
  have d5 : mPDo ⟨⟨1, 1, 6, 0⟩, ⟨1, 2, 6, 0⟩, []⟩ 2 7 = (⟨⟨1, 1, 6, 0⟩, ⟨1, 2, 14, 7⟩, [(1, 7)]⟩, 0) := by kernel_rfl
  have d6 : mPDeliver ⟨⟨1, 1, 6, 0⟩, ⟨1, 2, 14, 7⟩, [(1, 7)]⟩ 0 false = (⟨⟨1, 1, 14, 7⟩, ⟨1, 2, 14, 7⟩, []⟩, ⟨⟨1, 1, 14, 7⟩, 0, 0, 0, true⟩, 0) := by kernel_rfl
  have o0 : Ok (newPair 1) := Ok.new (.inl rfl)
  have o1 := o0.do 2 3; rw [d1] at o1
  have o2 := o1.deliver 0 false; rw [d2] at o2
  have o3 := o2.do 1 9; rw [d3] at o3
  have o4 := o3.deliver 0 false; rw [d4] at o4
  have o5 := o4.do 2 7; rw [d5] at o5
  have D1 := Lib.hid d1; have D2 := Lib.hid d2; have D3 := Lib.hid d3; have D4 := Lib.hid d4; have D5 := Lib.hid d5; have D6 := Lib.hid d6
  have O0 := Lib.hid o0; have O1 := Lib.hid o1; have O2 := Lib.hid o2; have O3 := Lib.hid o3; have O4 := Lib.hid o4; have O5 := Lib.hid o5
  clear d1 d2 d3 d4 d5 d6 o0 o1 o2 o3 o4 o5
  have hfh : ∀ (p d s h : Value) (w : World), (Instr.field 32 (.agg #[p, d, s, h]) 3).run Tryd.prog w = .ok h w := fun p d s h w => (fieldS p d s h w).2.2.2
  go_enter Tryd.func9, Tryd.ntmps9
  go_wp2_with fail
  refine (newPair_yes 1 (.inl rfl) w).mono ?_
  rintro e w1 ⟨g, v, rfl, hP, hb1⟩
  have HP1 := Lib.hid hP; clear hP
  go_wp2_with fail
  refine (pdo_ok w.heap.size g v _ _ 2 3 ea w1 (hE.below hb1) HP1.out O0.out.len hb1.size D1.out).mono ?_
  rintro e w2 ⟨rfl, v2, hP, hb2⟩
  have HP2 := Lib.hid hP; clear hP HP1 D1 O0
  have B2 := hb1.trans hb2
  go_wp2_with fail
  refine (pdeliver_ok w.heap.size g v2 _ _ 0 false _ ea w2 (hE.below B2) HP2.out O1.out B2.size D2.out).mono ?_
  rintro e w3 ⟨rfl, v3, hP, hb3⟩
  have HP3 := Lib.hid (hP.rel ((Below.refl _ _).alloc (Nat.le_refl _) (.cells #[.int .i64 1, .int .i64 1, .int .i64 5, .int .i64 0, .int .i64 0, .int .i64 0, .int .i64 0, .bool true] 34))); clear hP HP2 D2 O1
  have B3 := (B2.trans hb3).alloc (B2.trans hb3).size (.cells #[.int .i64 1, .int .i64 1, .int .i64 5, .int .i64 0, .int .i64 0, .int .i64 0, .int .i64 0, .bool true] 34)
  go_wp2_with fail
  refine (pdo_ok w.heap.size g v3 _ _ 1 9 ea _ (hE.below B3) HP3.out O2.out.len B3.size D3.out).mono ?_
  rintro e w4 ⟨rfl, v4, hP, hb4⟩
  have HP4 := Lib.hid hP; clear hP HP3 D3 O2
  have B4 := B3.trans hb4
  go_wp2_with fail
  refine (pdeliver_ok w.heap.size g v4 _ _ 0 false _ ea w4 (hE.below B4) HP4.out O3.out B4.size D4.out).mono ?_
  rintro e w5 ⟨rfl, v5, hP, hb5⟩
  have HP5 := Lib.hid (hP.rel ((Below.refl _ _).alloc (Nat.le_refl _) (.cells #[.int .i64 1, .int .i64 2, .int .i64 6, .int .i64 0, .int .i64 0, .int .i64 0, .int .i64 9, .bool true] 34))); clear hP HP4 D4 O3
  have B5 := (B4.trans hb5).alloc (B4.trans hb5).size (.cells #[.int .i64 1, .int .i64 2, .int .i64 6, .int .i64 0, .int .i64 0, .int .i64 0, .int .i64 9, .bool true] 34)
  go_wp2_with fail
  refine (pdo_ok w.heap.size g v5 _ _ 2 7 ea _ (hE.below B5) HP5.out O4.out.len B5.size D5.out).mono ?_
  rintro e w6 ⟨rfl, v6, hP, hb6⟩
  have HP6 := Lib.hid hP; clear hP HP5 D5 O4
  have B6 := B5.trans hb6
  go_wp2_with fail
  refine (pdeliver_ok w.heap.size g v6 _ _ 0 false _ ea w6 (hE.below B6) HP6.out O5.out B6.size D6.out).mono ?_
  rintro e w7 ⟨rfl, v7, hP, hb7⟩
  have HP7 := Lib.hid (hP.rel ((Below.refl _ _).alloc (Nat.le_refl _) (.cells #[.int .i64 1, .int .i64 1, .int .i64 14, .int .i64 7, .int .i64 0, .int .i64 0, .int .i64 0, .bool true] 34))); clear hP HP6 D6 O5
  have B7 := (B6.trans hb7).alloc (B6.trans hb7).size (.cells #[.int .i64 1, .int .i64 1, .int .i64 14, .int .i64 7, .int .i64 0, .int .i64 0, .int .i64 0, .bool true] 34)
  go_wp2_with fail
  have hS1 : ∀ W, PairIn w.heap.size g v7 ⟨⟨1, 1, 14, 7⟩, ⟨1, 2, 14, 7⟩, []⟩ W → Calls Tryd.prog 12 #[.pointer (some ⟨g, 0, none⟩), .int .i64 1] W (Makes (.agg #[.int .i64 1, .int .i64 1, .int .i64 14, .int .i64 7]) W) := fun W h => seat_of w.heap.size g v7 _ 1 W h
  have hS2 : ∀ W, PairIn w.heap.size g v7 ⟨⟨1, 1, 14, 7⟩, ⟨1, 2, 14, 7⟩, []⟩ W → Calls Tryd.prog 12 #[.pointer (some ⟨g, 0, none⟩), .int .i64 2] W (Makes (.agg #[.int .i64 1, .int .i64 2, .int .i64 14, .int .i64 7]) W) := fun W h => seat_of w.heap.size g v7 _ 2 W h
  refine (hS1 _ HP7.out).mono ?_
  rintro e w8 ⟨rfl, hb8⟩
  have HP8 := Lib.hid (HP7.out.rel hb8)
  have B8 := below_then B7 hb8
  go_wp2_with fail
  refine (hS2 _ HP8.out).mono ?_
  rintro e w9 ⟨rfl, hb9⟩
  have B9 := below_then B8 hb9
  go_wp2_with fail
  go_ret
  exact ⟨rfl, B9⟩
end Go.Proofs.YtkanakhlmmpapaaDoor
