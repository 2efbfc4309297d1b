/- MovesEnd, walked: where the coordinator compensates. -/
import Derived.Test.YtkanakhlmmpapaaDoorRows
import Derived.WalkKit
import Derived.WalkSpells
import Derived.WalkLawsBesides
import Derived.BigQuiet
import Derived.Deep.QuietTactic
import Derived.StillTailTactics
import Derived.Handy
import Derived.Lib.Hide
import Derived.Test.YtkanakhlmmpapaaDoorLawEnd
set_option linter.unusedSimpArgs false
set_option linter.unusedVariables false
namespace Go.Proofs.YtkanakhlmmpapaaDoor
open Go.RowKit

set_option maxRecDepth 100000 in
set_option maxHeartbeats 32000000 in
theorem law_end_false (p : Int) (v0 : Value) (ops : List MOp) (ea : Int → Addr) (w : World) (hE : Err5 ea w) (hR : ReadOps w v0 ops) : Calls Tryd.prog 5 #[.int .i64 p, v0, .bool false] w (Makes (.bool true) w) := by
  obtain ⟨a, cap, rfl, hcells⟩ := hR
  obtain ⟨n, hn⟩ : ∃ n, n = ops.length := ⟨_, rfl⟩
  rw [← hn]
  have HC := Lib.hid hcells; clear hcells
  have HN := Lib.hid hn; clear hn
  by_cases hbig : (200 : Int) < (n : Int)
  · go_enter Tryd.func5, Tryd.ntmps5
    go_wp2_with (go_at_call 9; refine (alive11 ea _ hE).mono ?_; rintro e w1 ⟨rfl, hb1⟩)
    go_ret
    exact ⟨rfl, hb1⟩
  by_cases hp : p = 1 ∨ p = 2
  · go_enter Tryd.func5, Tryd.ntmps5
    go_wp2_with fail
    refine (alive11 ea _ hE).mono ?_
    rintro e w1 ⟨rfl, hb1⟩
    go_wp2_with fail
    refine (newPair_yes p hp w1).mono ?_
    rintro e w2 ⟨g, v, rfl, hP, hb2⟩
    have HP2 := Lib.hid hP; clear hP
    go_wp2_with fail
    go_loopw [29] (fun i wr => ∃ k P v, k ≤ n ∧ i = .int .i64 (k : Nat) ∧ Ok P ∧ PairIn w1.heap.size g v P wr ∧ Below w1.heap.size w1 wr) (fun i _ => n - (intOf i).toNat)
    case atStart => exact ⟨0, newPair p, v, by omega, by go_num, Ok.new hp, HP2.out, hb2⟩
    case round =>
      obtain ⟨k, P, v, hk, rfl, hO, hP, hB⟩ := hrel
      have HPr := Lib.hid hP; clear hP
      have OK := Lib.hid hO; clear hO
      have hB0 : Below w.heap.size w wr := below_then hb1 hB
      by_cases hlt : k < n
      · have hlo : k < ops.length := by rw [← HN.out]; exact hlt
        obtain ⟨b, off, rfl, hbl, hops⟩ := HC.out (by intro e; rw [e] at hlo; simp at hlo)
        obtain ⟨o, ho⟩ : ∃ o, o = ops[k] := ⟨_, rfl⟩
        have hoa := (hops k hlo).below hB0 hbl
        rw [← ho] at hoa
        obtain ⟨a0, a1, a2, a3, a4⟩ := hoa
        clear hops ho hlo
        have hki : (k : Int) < (n : Int) := by omega
        have hk0 : (0 : Int) ≤ (k : Int) := by omega
        have hz0 := hB0.size; have hzB := hB.size
        go_wp2_with fail
        refine (ldo_of w1.heap.size g v P o ea _ (hE.below (by go_grown)) (HPr.out.rel (by go_grown)) OK.out (by simp only [World.size_alloc]; omega)).mono ?_
        rintro e w7 ⟨rfl, v2, hP3, hs3, hf3⟩
        have hB3 : Below w1.heap.size w1 w7 := ((hB.alloc hB.size _).trans (hs3.below (HPr.out.rel (by go_grown))))
        have HP3 := Lib.hid hP3; clear hP3 hs3 hf3 a0 a1 a2 a3 a4 hB
        have OK2 := Lib.hid (OK.out.step o)
        go_wp2_with fail
        all_goals (go_roundw <;> first | exact ⟨k + 1, _, v2, by omega, by go_num, OK2.out, HP3.out, hB3⟩ | (simp [intOf]; omega))
      · obtain rfl : k = n := by omega
        go_wp2_with fail
        go_loopw [37] (fun i ws => ∃ r P v, r ≤ 6 ∧ i = .int .i64 (r : Nat) ∧ Ok P ∧ PairIn w1.heap.size g v P ws ∧ Below w1.heap.size w1 ws ∧ EndAt P false r) (fun i _ => 6 - (intOf i).toNat)
        case atStart => exact ⟨0, P, v, by omega, by go_num, OK.out, HPr.out, hB, trivial⟩
        case round =>
        clear HPr OK hB hB0 P v HP2 hb2
        obtain ⟨r, P, v, hr, rfl, hO, hP, hB, hEnd⟩ := hrel
        have HPr := Lib.hid hP; clear hP
        have OK := Lib.hid hO; clear hO
        have HEnd := Lib.hid hEnd; clear hEnd
        have hB0 : Below w.heap.size w wr := below_then hb1 hB
        by_cases hr6 : r < 6
        case neg =>
          obtain rfl : r = 6 := by omega
          obtain ⟨s1, s2, s3⟩ := HEnd.out.done
          clear HEnd
          obtain ⟨⟨cp, cd, cs, ch⟩, ⟨xp, xd, xs, xh⟩, fl⟩ := P
          dsimp only at s1 s2 s3
          subst s1 s2 s3
          have f2 : ∀ (p d s h : Value) (w : World), (Instr.field 32 (.agg #[p, d, s, h]) 2).run Tryd.prog w = .ok s w := fun p d s h w => (fieldS p d s h w).2.2.1
          have f3 : ∀ (p d s h : Value) (w : World), (Instr.field 32 (.agg #[p, d, s, h]) 3).run Tryd.prog w = .ok h w := fun p d s h w => (fieldS p d s h w).2.2.2
          go_wp2_with fail
          refine (seat1_of w1.heap.size g v _ _ HPr.out).mono ?_
          dsimp only [seatV]
          rintro e wa ⟨rfl, hba⟩
          have Pa := Lib.hid (HPr.out.rel hba)
          have Ba := below_then hB0 hba
          go_wp2_with fail
          refine (seat2_of w1.heap.size g v _ _ Pa.out).mono ?_
          dsimp only [seatV]
          rintro e wb ⟨rfl, hbb⟩
          have Pb := Lib.hid (Pa.out.rel hbb)
          have Bb := below_then Ba hbb
          go_wp2_with fail
          refine (seat1_of w1.heap.size g v _ _ Pb.out).mono ?_
          dsimp only [seatV]
          rintro e wc ⟨rfl, hbc⟩
          have Pc := Lib.hid (Pb.out.rel hbc)
          have Bc := below_then Bb hbc
          go_wp2_with fail
          refine (seat2_of w1.heap.size g v _ _ Pc.out).mono ?_
          dsimp only [seatV]
          rintro e wd ⟨rfl, hbd⟩
          have Bd := below_then Bc hbd
          go_wp2_with fail
          go_ret
          exact ⟨ret_bool (by simp), Bd⟩
        have hr6' : (r : Int) < 6 := by omega
        go_wp2_with fail
        go_loopg [12] (mu P.fl) (fun k s12 ws => ∃ Q vq j, Q = itN j P ∧ Ok Q ∧ PairIn w1.heap.size g vq Q ws ∧ Below w1.heap.size w1 ws ∧ mu Q.fl ≤ k)
        case atStart => exact ⟨P, v, 0, rfl, OK.out, HPr.out, hB, Nat.le_refl _⟩
        case round =>
        clear HPr OK hB hB0 v
        obtain ⟨Q, vq, j, hQj, hOQ, hPQ, hBQ, hmu⟩ := hrel
        have HPQ := Lib.hid hPQ; clear hPQ
        have HOQ := Lib.hid hOQ; clear hOQ
        have HQj := Lib.hid hQj; clear hQj
        have HMu := Lib.hid hmu; clear hmu
        have hlen : Q.fl.length ≤ 1000 := by have := HOQ.out.len; omega
        have hF := Lib.hid (fun W h => flight_of w1.heap.size g vq Q W h hlen)
        clear hlen
        obtain ⟨m, hm⟩ : ∃ m, m = Q.fl.length := ⟨_, rfl⟩
        rw [← hm] at hF
        by_cases hm0 : m = 0
        case neg =>
          have hpos : (0 : Int) < (m : Int) := by omega
          obtain ⟨m0, rest, hfl⟩ : ∃ m0 rest, Q.fl = m0 :: rest := by
            cases h : Q.fl with
            | nil => rw [h] at hm; simp at hm; exact absurd hm hm0
            | cons a b => exact ⟨a, b, rfl⟩
          have h1 := HOQ.out.first hfl
          have hne : ¬ (Q.fl.isEmpty = true) := by rw [hfl]; simp
          have hD := Lib.hid (fun W hE hP hB => by have := pdeliver_of w1.heap.size g vq Q 0 false ea W hE hP HOQ.out hB; rw [h1.1] at this; exact this : ∀ W, Err5 ea W → PairIn w1.heap.size g vq Q W → w1.heap.size ≤ W.heap.size → Calls Tryd.prog 15 #[.pointer (some ⟨g, 0, none⟩), .int .i64 0, .bool false] W fun e w' => e = .returned (.tuple #[effV (mPDeliver Q 0 false).2.1, .nilIface]) ∧ PairGoes w1.heap.size g vq (mPDeliver Q 0 false).1 W w')
          obtain ⟨ef, hef⟩ : ∃ ef, ef = (mPDeliver Q 0 false).2.1 := ⟨_, rfl⟩
          obtain ⟨Q2, hQ2⟩ : ∃ Q2, Q2 = (mPDeliver Q 0 false).1 := ⟨_, rfl⟩
          have HO2 : Hid (Ok Q2) := by rw [hQ2]; exact Lib.hid (HOQ.out.deliver 0 false)
          have HJ2 : Hid (Q2 = itN (j + 1) P) := by
            rw [itN_succ, ← HQj.out, iterS, if_neg hne]; exact Lib.hid hQ2
          have HM2 : Hid (mu Q2.fl < gk) := by rw [hQ2]; exact Lib.hid (Nat.lt_of_lt_of_le h1.2 HMu.out)
          simp only [← hef, ← hQ2] at hD
          clear hef hQ2 h1 hne hfl hm hm0
          dsimp only [effV] at hD
          go_wp2_with fail
          refine (hF.out _ HPQ.out).mono ?_
          rintro e wa ⟨va, rfl, hoa, hba⟩
          obtain ⟨aa, ca, rfl⟩ := own_slice hoa
          clear hoa
          have Ba := below_then hBQ hba
          go_wp2_with fail
          refine (hD.out _ ((hE.below hb1).below Ba) (HPQ.out.rel hba) Ba.size).mono ?_
          rintro e wb ⟨rfl, vb, hPb, hsb, _⟩
          have Bb := Ba.trans (hsb.below (HPQ.out.rel hba))
          have Pb := Lib.hid hPb; clear hPb hsb
          have hzb := Bb.size; have hgb := Pb.out.blk.lt
          go_wp2_with fail
          go_roundg (mu Q2.fl)
          case measure => exact HM2.out
          case rel => exact ⟨Q2, vb, j + 1, HJ2.out, HO2.out, Pb.out.rel (by go_grown), Bb.alloc Bb.size _, Nat.le_refl _⟩
        subst hm0
        have HQ0 : Hid (Q.fl = []) := Lib.hid (List.eq_nil_of_length_eq_zero hm.symm)
        clear hm
        go_wp2_with fail
        refine (hF.out _ HPQ.out).mono ?_
        rintro e wz ⟨vz, rfl, hoz, hbz⟩
        obtain ⟨az, cz, rfl⟩ := own_slice hoz
        have HPQ := Lib.hid (HPQ.out.rel hbz)
        have hBQ := below_then hBQ hbz
        obtain ⟨wk0, hwk⟩ : ∃ wk0, wk0 = mWork Q.x := ⟨_, rfl⟩
        have HWk := Lib.hid (fun W hW => by have := work_of Q.x ea W hW; rw [← hwk] at this; exact this : ∀ W, Err3 ea W → Calls Tryd.prog 16 #[seatV Q.x] W (Makes (.int .i64 wk0) W))
        clear hoz hF
        by_cases n2 : wk0 = 2
        · subst n2
          have hans : answer Q = (mPDo Q 2 3).1 := by unfold answer; rw [← hwk]; rfl
          have HAns := Lib.hid hans; clear hans hwk
          go_wp2_with fail
          refine (seat2_of w1.heap.size g vq Q _ HPQ.out).mono ?_
          rintro e wa ⟨rfl, hba⟩
          have Ba' := below_then hBQ hba
          have Ba := Ba'.alloc Ba'.size (.cells #[.int .i64 Q.x.p, .int .i64 Q.x.d, .int .i64 Q.x.s, .int .i64 Q.x.h] 32)
          go_wp2_with fail
          refine (HWk.out _ ((hE.below hb1).below Ba).e).mono ?_
          rintro e wb ⟨rfl, hbb⟩
          have Bb := below_then Ba hbb
          have Pb := Lib.hid (HPQ.out.rel (below_then ((below_then (Below.refl _ _) hba).alloc hba.size _) hbb))
          go_wp2_with fail
          refine (pdo_w w1.heap.size g _ Q 2 3 ea _ ((hE.below hb1).below Bb) Pb.out HOQ.out Bb.size).mono ?_
          rintro e wc2 ⟨rfl, vc, hPc, hbc⟩
          have Bc := Bb.trans hbc
          have Pc := Lib.hid hPc; clear hPc
          have Oc := Lib.hid (HOQ.out.do 2 3)
          obtain ⟨dn, hdn⟩ : ∃ dn, (mPDo (mPDo Q 2 3).1 1 11).2 = dn := ⟨_, rfl⟩
          have HDn := Lib.hid hdn; clear hdn
          by_cases hd0 : dn = 0
          · subst hd0
            have D0 := Lib.hid (show errOf ea (mPDo (mPDo Q 2 3).1 1 11).2 = .nilIface by rw [HDn.out]; rfl)
            go_wp2_with fail
            refine (pdo_w w1.heap.size g _ (mPDo Q 2 3).1 1 11 ea _ ((hE.below hb1).below Bc) Pc.out Oc.out Bc.size).mono ?_
            rw [D0.out]
            rintro e wd ⟨rfl, vd, hPd, hbd⟩
            have Bd := Bc.trans hbd
            have Pd := Lib.hid hPd; clear hPd
            have Od := Lib.hid (Oc.out.do 1 11)
            have hdec : decides (mPDo Q 2 3).1 11 = (mPDo (mPDo Q 2 3).1 1 11).1 := by unfold decides; rw [if_neg (by rw [HDn.out]; simp)]
            rw [← hdec] at Pd Od
            clear hdec
            go_wp2_with fail
            refine (pagain_w w1.heap.size g _ (decides (mPDo Q 2 3).1 11) 1 ea _ ((hE.below hb1).below Bd) Pd.out Od.out Bd.size).mono ?_
            rintro e wf ⟨rfl, vf, hPf, hbf⟩
            have Bf := Bd.trans hbf
            have Pf := Lib.hid hPf; clear hPf
            have Of := Lib.hid (Od.out.again 1)
            go_wp2_with fail
            refine (pagain_w w1.heap.size g _ (mPAgain (decides (mPDo Q 2 3).1 11) 1).1 2 ea _ ((hE.below hb1).below Bf) Pf.out Of.out Bf.size).mono ?_
            rintro e wg ⟨rfl, vg, hPg, hbg⟩
            have Bg := Bf.trans hbg
            have Pg := Lib.hid hPg; clear hPg
            have Og := Lib.hid (Of.out.again 2)
            go_wp2_with fail
            have hfin : endRound Q (endKind false) = (mPAgain (mPAgain (decides (mPDo Q 2 3).1 11) 1).1 2).1 := by unfold endRound; rw [HAns.out, show (endKind false) = 11 from rfl]
            rw [← hfin] at Pg Og
            clear hfin
            have HNx := Lib.hid (HEnd.out.next HOQ.out HQj.out HQ0.out hr6)
            all_goals (go_roundw <;> first | exact ⟨r + 1, endRound Q (endKind false), vg, by omega, by go_num, Og.out, Pg.out, Bg, HNx.out⟩ | (simp [intOf]; omega))
          · have HD0 := Lib.hid hd0
            have D1 := Lib.hid (show errOf ea (mPDo (mPDo Q 2 3).1 1 11).2 = errV (ea dn) by rw [HDn.out, errOf, if_neg hd0])
            clear hd0
            go_wp2_with fail
            refine (pdo_w w1.heap.size g _ (mPDo Q 2 3).1 1 11 ea _ ((hE.below hb1).below Bc) Pc.out Oc.out Bc.size).mono ?_
            rw [D1.out]
            rintro e wd ⟨rfl, vd, hPd, hbd⟩
            have Bd := Bc.trans hbd
            have Pd := Lib.hid hPd; clear hPd
            have Od := Lib.hid (Oc.out.do 1 11)
            go_wp2_with fail
            refine (pdo_w w1.heap.size g _ (mPDo (mPDo Q 2 3).1 1 11).1 1 10 ea _ ((hE.below hb1).below Bd) Pd.out Od.out Bd.size).mono ?_
            rintro e we ⟨rfl, ve, hPe, hbe⟩
            have Be := Bd.trans hbe
            have Pe := Lib.hid hPe; clear hPe
            have Oe := Lib.hid (Od.out.do 1 10)
            have hdec : decides (mPDo Q 2 3).1 11 = (mPDo (mPDo (mPDo Q 2 3).1 1 11).1 1 10).1 := by unfold decides; rw [if_pos (by rw [HDn.out]; exact HD0.out)]
            rw [← hdec] at Pe Oe
            clear hdec
            go_wp2_with fail
            refine (pagain_w w1.heap.size g _ (decides (mPDo Q 2 3).1 11) 1 ea _ ((hE.below hb1).below Be) Pe.out Oe.out Be.size).mono ?_
            rintro e wf ⟨rfl, vf, hPf, hbf⟩
            have Bf := Be.trans hbf
            have Pf := Lib.hid hPf; clear hPf
            have Of := Lib.hid (Oe.out.again 1)
            go_wp2_with fail
            refine (pagain_w w1.heap.size g _ (mPAgain (decides (mPDo Q 2 3).1 11) 1).1 2 ea _ ((hE.below hb1).below Bf) Pf.out Of.out Bf.size).mono ?_
            rintro e wg ⟨rfl, vg, hPg, hbg⟩
            have Bg := Bf.trans hbg
            have Pg := Lib.hid hPg; clear hPg
            have Og := Lib.hid (Of.out.again 2)
            go_wp2_with fail
            have hfin : endRound Q (endKind false) = (mPAgain (mPAgain (decides (mPDo Q 2 3).1 11) 1).1 2).1 := by unfold endRound; rw [HAns.out, show (endKind false) = 11 from rfl]
            rw [← hfin] at Pg Og
            clear hfin
            have HNx := Lib.hid (HEnd.out.next HOQ.out HQj.out HQ0.out hr6)
            all_goals (go_roundw <;> first | exact ⟨r + 1, endRound Q (endKind false), vg, by omega, by go_num, Og.out, Pg.out, Bg, HNx.out⟩ | (simp [intOf]; omega))
        by_cases n9 : wk0 = 9
        · subst n9
          have hans : answer Q = (mPDo Q 2 7).1 := by unfold answer; rw [← hwk]; rfl
          have HAns := Lib.hid hans; clear hans hwk
          go_wp2_with fail
          refine (seat2_of w1.heap.size g vq Q _ HPQ.out).mono ?_
          rintro e wa ⟨rfl, hba⟩
          have Ba' := below_then hBQ hba
          have Ba := Ba'.alloc Ba'.size (.cells #[.int .i64 Q.x.p, .int .i64 Q.x.d, .int .i64 Q.x.s, .int .i64 Q.x.h] 32)
          go_wp2_with fail
          refine (HWk.out _ ((hE.below hb1).below Ba).e).mono ?_
          rintro e wb ⟨rfl, hbb⟩
          have Bb := below_then Ba hbb
          have Pb := Lib.hid (HPQ.out.rel (below_then ((below_then (Below.refl _ _) hba).alloc hba.size _) hbb))
          go_wp2_with fail
          refine (pdo_w w1.heap.size g _ Q 2 7 ea _ ((hE.below hb1).below Bb) Pb.out HOQ.out Bb.size).mono ?_
          rintro e wc2 ⟨rfl, vc, hPc, hbc⟩
          have Bc := Bb.trans hbc
          have Pc := Lib.hid hPc; clear hPc
          have Oc := Lib.hid (HOQ.out.do 2 7)
          obtain ⟨dn, hdn⟩ : ∃ dn, (mPDo (mPDo Q 2 7).1 1 11).2 = dn := ⟨_, rfl⟩
          have HDn := Lib.hid hdn; clear hdn
          by_cases hd0 : dn = 0
          · subst hd0
            have D0 := Lib.hid (show errOf ea (mPDo (mPDo Q 2 7).1 1 11).2 = .nilIface by rw [HDn.out]; rfl)
            go_wp2_with fail
            refine (pdo_w w1.heap.size g _ (mPDo Q 2 7).1 1 11 ea _ ((hE.below hb1).below Bc) Pc.out Oc.out Bc.size).mono ?_
            rw [D0.out]
            rintro e wd ⟨rfl, vd, hPd, hbd⟩
            have Bd := Bc.trans hbd
            have Pd := Lib.hid hPd; clear hPd
            have Od := Lib.hid (Oc.out.do 1 11)
            have hdec : decides (mPDo Q 2 7).1 11 = (mPDo (mPDo Q 2 7).1 1 11).1 := by unfold decides; rw [if_neg (by rw [HDn.out]; simp)]
            rw [← hdec] at Pd Od
            clear hdec
            go_wp2_with fail
            refine (pagain_w w1.heap.size g _ (decides (mPDo Q 2 7).1 11) 1 ea _ ((hE.below hb1).below Bd) Pd.out Od.out Bd.size).mono ?_
            rintro e wf ⟨rfl, vf, hPf, hbf⟩
            have Bf := Bd.trans hbf
            have Pf := Lib.hid hPf; clear hPf
            have Of := Lib.hid (Od.out.again 1)
            go_wp2_with fail
            refine (pagain_w w1.heap.size g _ (mPAgain (decides (mPDo Q 2 7).1 11) 1).1 2 ea _ ((hE.below hb1).below Bf) Pf.out Of.out Bf.size).mono ?_
            rintro e wg ⟨rfl, vg, hPg, hbg⟩
            have Bg := Bf.trans hbg
            have Pg := Lib.hid hPg; clear hPg
            have Og := Lib.hid (Of.out.again 2)
            go_wp2_with fail
            have hfin : endRound Q (endKind false) = (mPAgain (mPAgain (decides (mPDo Q 2 7).1 11) 1).1 2).1 := by unfold endRound; rw [HAns.out, show (endKind false) = 11 from rfl]
            rw [← hfin] at Pg Og
            clear hfin
            have HNx := Lib.hid (HEnd.out.next HOQ.out HQj.out HQ0.out hr6)
            all_goals (go_roundw <;> first | exact ⟨r + 1, endRound Q (endKind false), vg, by omega, by go_num, Og.out, Pg.out, Bg, HNx.out⟩ | (simp [intOf]; omega))
          · have HD0 := Lib.hid hd0
            have D1 := Lib.hid (show errOf ea (mPDo (mPDo Q 2 7).1 1 11).2 = errV (ea dn) by rw [HDn.out, errOf, if_neg hd0])
            clear hd0
            go_wp2_with fail
            refine (pdo_w w1.heap.size g _ (mPDo Q 2 7).1 1 11 ea _ ((hE.below hb1).below Bc) Pc.out Oc.out Bc.size).mono ?_
            rw [D1.out]
            rintro e wd ⟨rfl, vd, hPd, hbd⟩
            have Bd := Bc.trans hbd
            have Pd := Lib.hid hPd; clear hPd
            have Od := Lib.hid (Oc.out.do 1 11)
            go_wp2_with fail
            refine (pdo_w w1.heap.size g _ (mPDo (mPDo Q 2 7).1 1 11).1 1 10 ea _ ((hE.below hb1).below Bd) Pd.out Od.out Bd.size).mono ?_
            rintro e we ⟨rfl, ve, hPe, hbe⟩
            have Be := Bd.trans hbe
            have Pe := Lib.hid hPe; clear hPe
            have Oe := Lib.hid (Od.out.do 1 10)
            have hdec : decides (mPDo Q 2 7).1 11 = (mPDo (mPDo (mPDo Q 2 7).1 1 11).1 1 10).1 := by unfold decides; rw [if_pos (by rw [HDn.out]; exact HD0.out)]
            rw [← hdec] at Pe Oe
            clear hdec
            go_wp2_with fail
            refine (pagain_w w1.heap.size g _ (decides (mPDo Q 2 7).1 11) 1 ea _ ((hE.below hb1).below Be) Pe.out Oe.out Be.size).mono ?_
            rintro e wf ⟨rfl, vf, hPf, hbf⟩
            have Bf := Be.trans hbf
            have Pf := Lib.hid hPf; clear hPf
            have Of := Lib.hid (Oe.out.again 1)
            go_wp2_with fail
            refine (pagain_w w1.heap.size g _ (mPAgain (decides (mPDo Q 2 7).1 11) 1).1 2 ea _ ((hE.below hb1).below Bf) Pf.out Of.out Bf.size).mono ?_
            rintro e wg ⟨rfl, vg, hPg, hbg⟩
            have Bg := Bf.trans hbg
            have Pg := Lib.hid hPg; clear hPg
            have Og := Lib.hid (Of.out.again 2)
            go_wp2_with fail
            have hfin : endRound Q (endKind false) = (mPAgain (mPAgain (decides (mPDo Q 2 7).1 11) 1).1 2).1 := by unfold endRound; rw [HAns.out, show (endKind false) = 11 from rfl]
            rw [← hfin] at Pg Og
            clear hfin
            have HNx := Lib.hid (HEnd.out.next HOQ.out HQj.out HQ0.out hr6)
            all_goals (go_roundw <;> first | exact ⟨r + 1, endRound Q (endKind false), vg, by omega, by go_num, Og.out, Pg.out, Bg, HNx.out⟩ | (simp [intOf]; omega))
        by_cases n10 : wk0 = 10
        · subst n10
          have hans : answer Q = (mPDo Q 2 6).1 := by unfold answer; rw [← hwk]; rfl
          have HAns := Lib.hid hans; clear hans hwk
          go_wp2_with fail
          refine (seat2_of w1.heap.size g vq Q _ HPQ.out).mono ?_
          rintro e wa ⟨rfl, hba⟩
          have Ba' := below_then hBQ hba
          have Ba := Ba'.alloc Ba'.size (.cells #[.int .i64 Q.x.p, .int .i64 Q.x.d, .int .i64 Q.x.s, .int .i64 Q.x.h] 32)
          go_wp2_with fail
          refine (HWk.out _ ((hE.below hb1).below Ba).e).mono ?_
          rintro e wb ⟨rfl, hbb⟩
          have Bb := below_then Ba hbb
          have Pb := Lib.hid (HPQ.out.rel (below_then ((below_then (Below.refl _ _) hba).alloc hba.size _) hbb))
          go_wp2_with fail
          refine (pdo_w w1.heap.size g _ Q 2 6 ea _ ((hE.below hb1).below Bb) Pb.out HOQ.out Bb.size).mono ?_
          rintro e wc2 ⟨rfl, vc, hPc, hbc⟩
          have Bc := Bb.trans hbc
          have Pc := Lib.hid hPc; clear hPc
          have Oc := Lib.hid (HOQ.out.do 2 6)
          obtain ⟨dn, hdn⟩ : ∃ dn, (mPDo (mPDo Q 2 6).1 1 11).2 = dn := ⟨_, rfl⟩
          have HDn := Lib.hid hdn; clear hdn
          by_cases hd0 : dn = 0
          · subst hd0
            have D0 := Lib.hid (show errOf ea (mPDo (mPDo Q 2 6).1 1 11).2 = .nilIface by rw [HDn.out]; rfl)
            go_wp2_with fail
            refine (pdo_w w1.heap.size g _ (mPDo Q 2 6).1 1 11 ea _ ((hE.below hb1).below Bc) Pc.out Oc.out Bc.size).mono ?_
            rw [D0.out]
            rintro e wd ⟨rfl, vd, hPd, hbd⟩
            have Bd := Bc.trans hbd
            have Pd := Lib.hid hPd; clear hPd
            have Od := Lib.hid (Oc.out.do 1 11)
            have hdec : decides (mPDo Q 2 6).1 11 = (mPDo (mPDo Q 2 6).1 1 11).1 := by unfold decides; rw [if_neg (by rw [HDn.out]; simp)]
            rw [← hdec] at Pd Od
            clear hdec
            go_wp2_with fail
            refine (pagain_w w1.heap.size g _ (decides (mPDo Q 2 6).1 11) 1 ea _ ((hE.below hb1).below Bd) Pd.out Od.out Bd.size).mono ?_
            rintro e wf ⟨rfl, vf, hPf, hbf⟩
            have Bf := Bd.trans hbf
            have Pf := Lib.hid hPf; clear hPf
            have Of := Lib.hid (Od.out.again 1)
            go_wp2_with fail
            refine (pagain_w w1.heap.size g _ (mPAgain (decides (mPDo Q 2 6).1 11) 1).1 2 ea _ ((hE.below hb1).below Bf) Pf.out Of.out Bf.size).mono ?_
            rintro e wg ⟨rfl, vg, hPg, hbg⟩
            have Bg := Bf.trans hbg
            have Pg := Lib.hid hPg; clear hPg
            have Og := Lib.hid (Of.out.again 2)
            go_wp2_with fail
            have hfin : endRound Q (endKind false) = (mPAgain (mPAgain (decides (mPDo Q 2 6).1 11) 1).1 2).1 := by unfold endRound; rw [HAns.out, show (endKind false) = 11 from rfl]
            rw [← hfin] at Pg Og
            clear hfin
            have HNx := Lib.hid (HEnd.out.next HOQ.out HQj.out HQ0.out hr6)
            all_goals (go_roundw <;> first | exact ⟨r + 1, endRound Q (endKind false), vg, by omega, by go_num, Og.out, Pg.out, Bg, HNx.out⟩ | (simp [intOf]; omega))
          · have HD0 := Lib.hid hd0
            have D1 := Lib.hid (show errOf ea (mPDo (mPDo Q 2 6).1 1 11).2 = errV (ea dn) by rw [HDn.out, errOf, if_neg hd0])
            clear hd0
            go_wp2_with fail
            refine (pdo_w w1.heap.size g _ (mPDo Q 2 6).1 1 11 ea _ ((hE.below hb1).below Bc) Pc.out Oc.out Bc.size).mono ?_
            rw [D1.out]
            rintro e wd ⟨rfl, vd, hPd, hbd⟩
            have Bd := Bc.trans hbd
            have Pd := Lib.hid hPd; clear hPd
            have Od := Lib.hid (Oc.out.do 1 11)
            go_wp2_with fail
            refine (pdo_w w1.heap.size g _ (mPDo (mPDo Q 2 6).1 1 11).1 1 10 ea _ ((hE.below hb1).below Bd) Pd.out Od.out Bd.size).mono ?_
            rintro e we ⟨rfl, ve, hPe, hbe⟩
            have Be := Bd.trans hbe
            have Pe := Lib.hid hPe; clear hPe
            have Oe := Lib.hid (Od.out.do 1 10)
            have hdec : decides (mPDo Q 2 6).1 11 = (mPDo (mPDo (mPDo Q 2 6).1 1 11).1 1 10).1 := by unfold decides; rw [if_pos (by rw [HDn.out]; exact HD0.out)]
            rw [← hdec] at Pe Oe
            clear hdec
            go_wp2_with fail
            refine (pagain_w w1.heap.size g _ (decides (mPDo Q 2 6).1 11) 1 ea _ ((hE.below hb1).below Be) Pe.out Oe.out Be.size).mono ?_
            rintro e wf ⟨rfl, vf, hPf, hbf⟩
            have Bf := Be.trans hbf
            have Pf := Lib.hid hPf; clear hPf
            have Of := Lib.hid (Oe.out.again 1)
            go_wp2_with fail
            refine (pagain_w w1.heap.size g _ (mPAgain (decides (mPDo Q 2 6).1 11) 1).1 2 ea _ ((hE.below hb1).below Bf) Pf.out Of.out Bf.size).mono ?_
            rintro e wg ⟨rfl, vg, hPg, hbg⟩
            have Bg := Bf.trans hbg
            have Pg := Lib.hid hPg; clear hPg
            have Og := Lib.hid (Of.out.again 2)
            go_wp2_with fail
            have hfin : endRound Q (endKind false) = (mPAgain (mPAgain (decides (mPDo Q 2 6).1 11) 1).1 2).1 := by unfold endRound; rw [HAns.out, show (endKind false) = 11 from rfl]
            rw [← hfin] at Pg Og
            clear hfin
            have HNx := Lib.hid (HEnd.out.next HOQ.out HQj.out HQ0.out hr6)
            all_goals (go_roundw <;> first | exact ⟨r + 1, endRound Q (endKind false), vg, by omega, by go_num, Og.out, Pg.out, Bg, HNx.out⟩ | (simp [intOf]; omega))
        by_cases n11 : wk0 = 11
        · subst n11
          have hans : answer Q = (mPDo Q 2 8).1 := by unfold answer; rw [← hwk]; rfl
          have HAns := Lib.hid hans; clear hans hwk
          go_wp2_with fail
          refine (seat2_of w1.heap.size g vq Q _ HPQ.out).mono ?_
          rintro e wa ⟨rfl, hba⟩
          have Ba' := below_then hBQ hba
          have Ba := Ba'.alloc Ba'.size (.cells #[.int .i64 Q.x.p, .int .i64 Q.x.d, .int .i64 Q.x.s, .int .i64 Q.x.h] 32)
          go_wp2_with fail
          refine (HWk.out _ ((hE.below hb1).below Ba).e).mono ?_
          rintro e wb ⟨rfl, hbb⟩
          have Bb := below_then Ba hbb
          have Pb := Lib.hid (HPQ.out.rel (below_then ((below_then (Below.refl _ _) hba).alloc hba.size _) hbb))
          go_wp2_with fail
          refine (pdo_w w1.heap.size g _ Q 2 8 ea _ ((hE.below hb1).below Bb) Pb.out HOQ.out Bb.size).mono ?_
          rintro e wc2 ⟨rfl, vc, hPc, hbc⟩
          have Bc := Bb.trans hbc
          have Pc := Lib.hid hPc; clear hPc
          have Oc := Lib.hid (HOQ.out.do 2 8)
          obtain ⟨dn, hdn⟩ : ∃ dn, (mPDo (mPDo Q 2 8).1 1 11).2 = dn := ⟨_, rfl⟩
          have HDn := Lib.hid hdn; clear hdn
          by_cases hd0 : dn = 0
          · subst hd0
            have D0 := Lib.hid (show errOf ea (mPDo (mPDo Q 2 8).1 1 11).2 = .nilIface by rw [HDn.out]; rfl)
            go_wp2_with fail
            refine (pdo_w w1.heap.size g _ (mPDo Q 2 8).1 1 11 ea _ ((hE.below hb1).below Bc) Pc.out Oc.out Bc.size).mono ?_
            rw [D0.out]
            rintro e wd ⟨rfl, vd, hPd, hbd⟩
            have Bd := Bc.trans hbd
            have Pd := Lib.hid hPd; clear hPd
            have Od := Lib.hid (Oc.out.do 1 11)
            have hdec : decides (mPDo Q 2 8).1 11 = (mPDo (mPDo Q 2 8).1 1 11).1 := by unfold decides; rw [if_neg (by rw [HDn.out]; simp)]
            rw [← hdec] at Pd Od
            clear hdec
            go_wp2_with fail
            refine (pagain_w w1.heap.size g _ (decides (mPDo Q 2 8).1 11) 1 ea _ ((hE.below hb1).below Bd) Pd.out Od.out Bd.size).mono ?_
            rintro e wf ⟨rfl, vf, hPf, hbf⟩
            have Bf := Bd.trans hbf
            have Pf := Lib.hid hPf; clear hPf
            have Of := Lib.hid (Od.out.again 1)
            go_wp2_with fail
            refine (pagain_w w1.heap.size g _ (mPAgain (decides (mPDo Q 2 8).1 11) 1).1 2 ea _ ((hE.below hb1).below Bf) Pf.out Of.out Bf.size).mono ?_
            rintro e wg ⟨rfl, vg, hPg, hbg⟩
            have Bg := Bf.trans hbg
            have Pg := Lib.hid hPg; clear hPg
            have Og := Lib.hid (Of.out.again 2)
            go_wp2_with fail
            have hfin : endRound Q (endKind false) = (mPAgain (mPAgain (decides (mPDo Q 2 8).1 11) 1).1 2).1 := by unfold endRound; rw [HAns.out, show (endKind false) = 11 from rfl]
            rw [← hfin] at Pg Og
            clear hfin
            have HNx := Lib.hid (HEnd.out.next HOQ.out HQj.out HQ0.out hr6)
            all_goals (go_roundw <;> first | exact ⟨r + 1, endRound Q (endKind false), vg, by omega, by go_num, Og.out, Pg.out, Bg, HNx.out⟩ | (simp [intOf]; omega))
          · have HD0 := Lib.hid hd0
            have D1 := Lib.hid (show errOf ea (mPDo (mPDo Q 2 8).1 1 11).2 = errV (ea dn) by rw [HDn.out, errOf, if_neg hd0])
            clear hd0
            go_wp2_with fail
            refine (pdo_w w1.heap.size g _ (mPDo Q 2 8).1 1 11 ea _ ((hE.below hb1).below Bc) Pc.out Oc.out Bc.size).mono ?_
            rw [D1.out]
            rintro e wd ⟨rfl, vd, hPd, hbd⟩
            have Bd := Bc.trans hbd
            have Pd := Lib.hid hPd; clear hPd
            have Od := Lib.hid (Oc.out.do 1 11)
            go_wp2_with fail
            refine (pdo_w w1.heap.size g _ (mPDo (mPDo Q 2 8).1 1 11).1 1 10 ea _ ((hE.below hb1).below Bd) Pd.out Od.out Bd.size).mono ?_
            rintro e we ⟨rfl, ve, hPe, hbe⟩
            have Be := Bd.trans hbe
            have Pe := Lib.hid hPe; clear hPe
            have Oe := Lib.hid (Od.out.do 1 10)
            have hdec : decides (mPDo Q 2 8).1 11 = (mPDo (mPDo (mPDo Q 2 8).1 1 11).1 1 10).1 := by unfold decides; rw [if_pos (by rw [HDn.out]; exact HD0.out)]
            rw [← hdec] at Pe Oe
            clear hdec
            go_wp2_with fail
            refine (pagain_w w1.heap.size g _ (decides (mPDo Q 2 8).1 11) 1 ea _ ((hE.below hb1).below Be) Pe.out Oe.out Be.size).mono ?_
            rintro e wf ⟨rfl, vf, hPf, hbf⟩
            have Bf := Be.trans hbf
            have Pf := Lib.hid hPf; clear hPf
            have Of := Lib.hid (Oe.out.again 1)
            go_wp2_with fail
            refine (pagain_w w1.heap.size g _ (mPAgain (decides (mPDo Q 2 8).1 11) 1).1 2 ea _ ((hE.below hb1).below Bf) Pf.out Of.out Bf.size).mono ?_
            rintro e wg ⟨rfl, vg, hPg, hbg⟩
            have Bg := Bf.trans hbg
            have Pg := Lib.hid hPg; clear hPg
            have Og := Lib.hid (Of.out.again 2)
            go_wp2_with fail
            have hfin : endRound Q (endKind false) = (mPAgain (mPAgain (decides (mPDo Q 2 8).1 11) 1).1 2).1 := by unfold endRound; rw [HAns.out, show (endKind false) = 11 from rfl]
            rw [← hfin] at Pg Og
            clear hfin
            have HNx := Lib.hid (HEnd.out.next HOQ.out HQj.out HQ0.out hr6)
            all_goals (go_roundw <;> first | exact ⟨r + 1, endRound Q (endKind false), vg, by omega, by go_num, Og.out, Pg.out, Bg, HNx.out⟩ | (simp [intOf]; omega))
        have hans : answer Q = Q := by unfold answer; rw [← hwk]; rw [if_neg n2, if_neg n9, if_neg n10, if_neg n11]
        have HAns := Lib.hid hans; clear hans hwk
        have z2 : (wk0 == 2) = false := by simpa using n2
        have z9 : (wk0 == 9) = false := by simpa using n9
        have z10 : (wk0 == 10) = false := by simpa using n10
        have z11 : (wk0 == 11) = false := by simpa using n11
        clear n2 n9 n10 n11
        go_wp2_with fail
        refine (seat2_of w1.heap.size g vq Q _ HPQ.out).mono ?_
        rintro e wa ⟨rfl, hba⟩
        have Ba' := below_then hBQ hba
        have Ba := Ba'.alloc Ba'.size (.cells #[.int .i64 Q.x.p, .int .i64 Q.x.d, .int .i64 Q.x.s, .int .i64 Q.x.h] 32)
        go_wp2_with fail
        refine (HWk.out _ ((hE.below hb1).below Ba).e).mono ?_
        rintro e wb ⟨rfl, hbb⟩
        have Bb := below_then Ba hbb
        have Pb := Lib.hid (HPQ.out.rel (below_then ((below_then (Below.refl _ _) hba).alloc hba.size _) hbb))
        have Oc := HOQ
        obtain ⟨dn, hdn⟩ : ∃ dn, (mPDo Q 1 11).2 = dn := ⟨_, rfl⟩
        have HDn := Lib.hid hdn; clear hdn
        by_cases hd0 : dn = 0
        · subst hd0
          have D0 := Lib.hid (show errOf ea (mPDo Q 1 11).2 = .nilIface by rw [HDn.out]; rfl)
          go_wp2_with fail
          refine (pdo_w w1.heap.size g _ Q 1 11 ea _ ((hE.below hb1).below Bb) Pb.out Oc.out Bb.size).mono ?_
          rw [D0.out]
          rintro e wd ⟨rfl, vd, hPd, hbd⟩
          have Bd := Bb.trans hbd
          have Pd := Lib.hid hPd; clear hPd
          have Od := Lib.hid (Oc.out.do 1 11)
          have hdec : decides Q 11 = (mPDo Q 1 11).1 := by unfold decides; rw [if_neg (by rw [HDn.out]; simp)]
          rw [← hdec] at Pd Od
          clear hdec
          go_wp2_with fail
          refine (pagain_w w1.heap.size g _ (decides Q 11) 1 ea _ ((hE.below hb1).below Bd) Pd.out Od.out Bd.size).mono ?_
          rintro e wf ⟨rfl, vf, hPf, hbf⟩
          have Bf := Bd.trans hbf
          have Pf := Lib.hid hPf; clear hPf
          have Of := Lib.hid (Od.out.again 1)
          go_wp2_with fail
          refine (pagain_w w1.heap.size g _ (mPAgain (decides Q 11) 1).1 2 ea _ ((hE.below hb1).below Bf) Pf.out Of.out Bf.size).mono ?_
          rintro e wg ⟨rfl, vg, hPg, hbg⟩
          have Bg := Bf.trans hbg
          have Pg := Lib.hid hPg; clear hPg
          have Og := Lib.hid (Of.out.again 2)
          go_wp2_with fail
          have hfin : endRound Q (endKind false) = (mPAgain (mPAgain (decides Q 11) 1).1 2).1 := by unfold endRound; rw [HAns.out, show (endKind false) = 11 from rfl]
          rw [← hfin] at Pg Og
          clear hfin
          have HNx := Lib.hid (HEnd.out.next HOQ.out HQj.out HQ0.out hr6)
          all_goals (go_roundw <;> first | exact ⟨r + 1, endRound Q (endKind false), vg, by omega, by go_num, Og.out, Pg.out, Bg, HNx.out⟩ | (simp [intOf]; omega))
        · have HD0 := Lib.hid hd0
          have D1 := Lib.hid (show errOf ea (mPDo Q 1 11).2 = errV (ea dn) by rw [HDn.out, errOf, if_neg hd0])
          clear hd0
          go_wp2_with fail
          refine (pdo_w w1.heap.size g _ Q 1 11 ea _ ((hE.below hb1).below Bb) Pb.out Oc.out Bb.size).mono ?_
          rw [D1.out]
          rintro e wd ⟨rfl, vd, hPd, hbd⟩
          have Bd := Bb.trans hbd
          have Pd := Lib.hid hPd; clear hPd
          have Od := Lib.hid (Oc.out.do 1 11)
          go_wp2_with fail
          refine (pdo_w w1.heap.size g _ (mPDo Q 1 11).1 1 10 ea _ ((hE.below hb1).below Bd) Pd.out Od.out Bd.size).mono ?_
          rintro e we ⟨rfl, ve, hPe, hbe⟩
          have Be := Bd.trans hbe
          have Pe := Lib.hid hPe; clear hPe
          have Oe := Lib.hid (Od.out.do 1 10)
          have hdec : decides Q 11 = (mPDo (mPDo Q 1 11).1 1 10).1 := by unfold decides; rw [if_pos (by rw [HDn.out]; exact HD0.out)]
          rw [← hdec] at Pe Oe
          clear hdec
          go_wp2_with fail
          refine (pagain_w w1.heap.size g _ (decides Q 11) 1 ea _ ((hE.below hb1).below Be) Pe.out Oe.out Be.size).mono ?_
          rintro e wf ⟨rfl, vf, hPf, hbf⟩
          have Bf := Be.trans hbf
          have Pf := Lib.hid hPf; clear hPf
          have Of := Lib.hid (Oe.out.again 1)
          go_wp2_with fail
          refine (pagain_w w1.heap.size g _ (mPAgain (decides Q 11) 1).1 2 ea _ ((hE.below hb1).below Bf) Pf.out Of.out Bf.size).mono ?_
          rintro e wg ⟨rfl, vg, hPg, hbg⟩
          have Bg := Bf.trans hbg
          have Pg := Lib.hid hPg; clear hPg
          have Og := Lib.hid (Of.out.again 2)
          go_wp2_with fail
          have hfin : endRound Q (endKind false) = (mPAgain (mPAgain (decides Q 11) 1).1 2).1 := by unfold endRound; rw [HAns.out, show (endKind false) = 11 from rfl]
          rw [← hfin] at Pg Og
          clear hfin
          have HNx := Lib.hid (HEnd.out.next HOQ.out HQj.out HQ0.out hr6)
          all_goals (go_roundw <;> first | exact ⟨r + 1, endRound Q (endKind false), vg, by omega, by go_num, Og.out, Pg.out, Bg, HNx.out⟩ | (simp [intOf]; omega))
  · go_enter Tryd.func5, Tryd.ntmps5
    go_wp2_with fail
    refine (alive11 ea _ hE).mono ?_
    rintro e w1 ⟨rfl, hb1⟩
    go_wp2_with fail
    refine (newPair_no p hp (ea 14) w1 (hE.below hb1).e.e14).mono ?_
    rintro e w2 ⟨rfl, hb2⟩
    go_wp2_with fail
    go_ret
    exact ⟨rfl, below_then hb1 hb2⟩
end Go.Proofs.YtkanakhlmmpapaaDoor
