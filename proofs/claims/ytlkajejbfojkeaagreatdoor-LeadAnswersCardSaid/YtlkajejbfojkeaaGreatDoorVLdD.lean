/- LdD -/
import Derived.Test.YtlkajejbfojkeaaGreatDoorVLdBToStepM
set_option linter.unusedSimpArgs false
set_option linter.unusedVariables false
set_option maxRecDepth 100000
set_option maxHeartbeats 16000000
namespace Go.Proofs.YtlkajejbfojkeaaGreatDoor
open Go.RowKit
attribute [local go_sem] store_float
theorem lreg1_of (b : Nat) (mk fr tq man maq mrg mpt mpr mco : Int) (W : World) (r : SReg) (h : Blk W b #[mk, fr, tq, man, maq, mrg, mpt, mpr, mco]) : Calls Tryz.prog 240 #[.agg #[r.n, r.p, r.seat.p, r.seat.d, r.seat.s, r.seat.h], .pointer (some ⟨b, 0, none⟩)] W (Makes (.bool (decide (r.n = fr ∧ r.p = mpt))) W) := by
 obtain ⟨rn, rp, ⟨sp, sd, ss, sh⟩⟩ := r
 dsimp only
 have hlt := h.lt
 have q := h.cell
 have c1 : W.cell? ⟨b, 1, none⟩ = some (.int .i64 fr) := q 1
 have c6 : W.cell? ⟨b, 6, none⟩ = some (.int .i64 mpt) := q 6
 have hne : ¬ W.heap.size = b := by omega
 clear q h
 by_cases h1 : rn = fr
 · have e1 : (rn == fr) = true := by simpa using h1
   by_cases h2 : rp = mpt
   · have e2 : (rp == mpt) = true := by simpa using h2
     rw [decide_eq_true ⟨h1, h2⟩]
     clear h1 h2
     go_enter Tryz.func240, Tryz.ntmps240
     go_wp2_with fail
     go_ret
     exact ⟨rfl, by go_grown⟩
   · have e2 : (rp == mpt) = false := by simpa using h2
     rw [decide_eq_false (fun x => h2 x.2)]
     clear h1 h2
     go_enter Tryz.func240, Tryz.ntmps240
     go_wp2_with fail
     go_ret
     exact ⟨rfl, by go_grown⟩
 · have e1 : (rn == fr) = false := by simpa using h1
   rw [decide_eq_false (fun x => h1 x.1)]
   clear h1
   go_enter Tryz.func240, Tryz.ntmps240
   go_wp2_with fail
   go_ret
   exact ⟨rfl, by go_grown⟩
theorem indexR_lreg (b : Nat) (B : Nat) (l : List SReg) (q : SReg → Bool) (v : Value) (w : World) (hrow : w.ownsRow B 55 6 v l.length (regsL l)) (hl : l.length ≤ 1000)
    (hp : ∀ (W : World) (r : SReg), Below w.heap.size w W → Calls Tryz.prog 240 #[.agg #[r.n, r.p, r.seat.p, r.seat.d, r.seat.s, r.seat.h], .pointer (some ⟨b, 0, none⟩)] W (Makes (.bool (q r)) W)) :
    Calls Tryz.prog 239 #[v, .func (.func 240) #[] #[.pointer (some ⟨b, 0, none⟩)]] w (Makes (.int .i64 (oix (l.findIdx? q))) w) := by
 obtain ⟨a, cap, rfl, _, hr⟩ := reg_row hrow
 have HR := qq hr; have HP := qq hp
 clear hr hp hrow
 obtain ⟨n, hn⟩ : ∃ n, n = l.length := ⟨_, rfl⟩
 rw [← hn] at hl HR ⊢
 have HN := qq hn; clear hn
 go_enter Tryz.func239, Tryz.ntmps239
 go_wp2_with fail
 go_loopw [8] (fun i wr => ∃ k : Nat, k ≤ n ∧ i = .int .i64 (k : Nat) ∧ Hid (∀ (j : Nat) (h : j < l.length), j < k → q l[j] = false) ∧ Below w.heap.size w wr) (fun i _ => n - (intOf i).toNat)
 case atStart => exact ⟨0, by omega, by go_num, qq (fun j _ h => absurd h (by omega)), Below.refl _ _⟩
 case round =>
  obtain ⟨k, hk, rfl, HBE, hB⟩ := hrel
  by_cases hlt : k < n
  · have hks : k < l.length := by rw [← HN.out]; exact hlt
    obtain ⟨g, rfl, hg, hfz, hcell⟩ := HR.out (by omega)
    obtain ⟨r, hrk⟩ : ∃ r, r = l[k] := ⟨_, rfl⟩
    have hat := (hcell k r (by rw [hrk]; exact List.getElem?_eq_getElem hks)).below hB hg
    obtain ⟨c0, c1, c2, c3, c4, c5⟩ := hat
    have hki : (k : Int) < (n : Int) := by omega
    have hk0 : (0 : Int) ≤ (k : Int) := by omega
    have hc := fun W hW => HP.out W r hW
    obtain ⟨t, ht⟩ : ∃ t, t = q r := ⟨_, rfl⟩
    rw [← ht] at hc
    rw [hrk] at ht
    have HT := qq ht; have HC := qq hc
    clear ht hc hcell hfz hrk
    obtain ⟨rn, rp, sp, sd, ss, sh⟩ := r
    dsimp only at c0 c1 c2 c3 c4 c5 HC
    go_wp2_with fail
    refine (HC.out _ (below_then hB (by go_grown))).mono ?_
    rintro e w1 ⟨rfl, hb1⟩
    have hB1 : Below w.heap.size w w1 := below_then hB (below_then (by go_grown) hb1)
    cases t with
    | true =>
     go_wp2_with fail
     go_ret
     exact ⟨by rw [find_hit hks HBE.out HT.out.symm]; rfl, hB1⟩
    | false =>
     go_wp2_with fail
     all_goals (go_roundw <;> first | exact ⟨k + 1, by omega, by go_num, qq (fun j h hj => by
         rcases Nat.lt_or_eq_of_le (Nat.le_of_lt_succ hj) with h1 | h1
         · exact HBE.out j h h1
         · subst h1; exact HT.out.symm), hB1⟩ | (simp [intOf]; omega))
  · obtain rfl : k = n := by omega
    go_wp2_with fail
    go_ret
    exact ⟨by rw [find_miss (fun j h => HBE.out j h (by rw [HN.out]; exact h))]; rfl, hB⟩
theorem lregister_none (L : SLoc) (S : Sto) (mk fr tq man maq mrg mpt mpr mco : Int) (now : Nat) (ea : Int → Addr) (w : World) (hE : EnvS ea w) (h : StoreAt L S w) (hG : StoGood S) (hn64 : F64 now) (hg : lGet S man maq = none) : Calls Tryz.prog 161 #[.pointer (some ⟨L.sb, 0, none⟩), .agg #[mk, fr, tq, man, maq, mrg, mpt, mpr, mco], flV now] w (ResR ⟨[], [ans ⟨mk, fr, tq, man, maq, mrg, mpt, mpr, mco⟩ 19 5], 0⟩ w) := by
 have HF := qq (fun W hW => Find_no L S man maq W hW hG hg)
 have H := qq h
 clear hE h hG hg
 go_enter Tryz.func161, Tryz.ntmps161
 go_wp2_with fail
 refine (HF.out _ (H.out.below (by go_grown))).mono ?_
 rintro e w1 ⟨rfl, hb1⟩
 have HM := qq ((((Blk.fresh w #[mk, fr, tq, man, maq, mrg, mpt, mpr, mco] 81 _ rfl).alloc (.cells #[.slice none 0 0, .slice none 0 0, .int .i64 0] 87)).below hb1).alloc (.cells #[.int .i64 0, .int .i64 0, .int .i64 0, .int .i64 0, .float .f64 0, .int .i64 0, .int .i64 0, .slice none 0 0] 51))
 have HV := qq (((Blk.fresh (w.alloc (.cells #[mk, fr, tq, man, maq, mrg, mpt, mpr, mco] 81)) #[.slice none 0 0, .slice none 0 0, .int .i64 0] 87 (w.heap.size + 1) (by simp)).below hb1).alloc (.cells #[.int .i64 0, .int .i64 0, .int .i64 0, .int .i64 0, .float .f64 0, .int .i64 0, .int .i64 0, .slice none 0 0] 51))
 have HB := qq ((below_then (show Below w.heap.size w _ by go_grown) hb1).alloc (by have := hb1.size; simp at this; omega) (.cells #[.int .i64 0, .int .i64 0, .int .i64 0, .int .i64 0, .float .f64 0, .int .i64 0, .int .i64 0, .slice none 0 0] 51))
 clear hb1
 have qm := HM.out.cell
 go_wp2_with fail
 refine ((lanswer_of ⟨mk, fr, tq, man, maq, mrg, mpt, mpr, mco⟩ 19 5 _)).mono ?_
 rintro e w5 ⟨a5, c5, b5, d5, rfl, hR5, hb5⟩
 have B5 : Below w.heap.size w w5 := below_then HB.out hb5
 have hV5 := HV.out.below hb5
 have qv := hV5.cell; have fv := hV5.free; have lv := hV5.lt
 have lz := HV.out.lt
 clear qm hV5
 go_wp2_with fail
 exact bodyPost_ret (v := .agg #[.slice a5 0 c5, .slice b5 1 d5, .int .i64 0]) (by simp [results, Tryz.results161, go_sem, qv, fv, lv, Nat.ne_of_lt lv]) rfl ⟨a5, c5, b5, d5, rfl, (hR5.put3 (w.heap.size + 1) (by first | omega | (simp; done) | (simp; omega)) _ _ _).mono (by first | omega | (simp; done) | (simp; omega)), by go_grown⟩
theorem lregister_other (L : SLoc) (S : Sto) (mk fr tq man maq mrg mpt mpr mco : Int) (now : Nat) (ea : Int → Addr) (w : World) (hE : EnvS ea w) (h : StoreAt L S w) (hG : StoGood S) (hn64 : F64 now) (i : Nat) (a : SAct) (hg : lGet S man maq = some (i, a)) (j : Nat) (r : SReg) (hi : a.regs.findIdx? (fun r => decide (r.n = fr ∧ r.p = mpt)) = some j) (hr : a.regs[j]? = some r) (hp : r.seat.p ≠ mpr) : Calls Tryz.prog 161 #[.pointer (some ⟨L.sb, 0, none⟩), .agg #[mk, fr, tq, man, maq, mrg, mpt, mpr, mco], flV now] w (ResR ⟨[], [ans ⟨mk, fr, tq, man, maq, mrg, mpt, mpr, mco⟩ 19 2], 0⟩ w) := by
 have HF := qq (fun W hW => Find_yes L S man maq i a W hW hG hg)
 have H := qq h; have HE := qq hE
 have hA := hG.act a (lGet_some hg).2.2.1
 have h6 := hA.len
 have HIX := qq (show oix (a.regs.findIdx? (fun r => decide (r.n = fr ∧ r.p = mpt))) = (j : Int) by rw [hi]; rfl)
 obtain ⟨rn, rp, ⟨sp, sd, ss, sh⟩⟩ := r
 have HGR := qq hr
 dsimp only at hp
 have dp1 : (sp != mpr) = true := by simpa using hp
 clear hp hi hr
 obtain ⟨an, aq, oc, dp, ex, pa, de, rs⟩ := a
 unfold ActOut at HF
 dsimp only [actC] at *
 obtain ⟨n, hn⟩ : ∃ n, n = rs.length := ⟨_, rfl⟩
 rw [← hn] at HF h6
 have HN := qq hn
 clear hE h hG hg hA hn hn64
 go_enter Tryz.func161, Tryz.ntmps161
 go_wp2_with fail
 refine (HF.out _ (H.out.below (by go_grown))).mono ?_
 rintro e w1 ⟨v', rfl, ho, hb1⟩
 obtain ⟨va, vc, rfl, hlen, hrow⟩ := reg_row ho
 have B1 : Below w.heap.size w w1 := below_then (by go_grown) hb1
 have HM := qq ((((Blk.fresh w #[mk, fr, tq, man, maq, mrg, mpt, mpr, mco] 81 _ rfl).alloc (.cells #[.slice none 0 0, .slice none 0 0, .int .i64 0] 87)).below hb1).alloc (.cells #[an, aq, oc, dp, .float .f64 ex, pa, de, .slice va n vc] 51))
 have HV := qq (((Blk.fresh (w.alloc (.cells #[mk, fr, tq, man, maq, mrg, mpt, mpr, mco] 81)) #[.slice none 0 0, .slice none 0 0, .int .i64 0] 87 (w.heap.size + 1) (by simp)).below hb1).alloc (.cells #[an, aq, oc, dp, .float .f64 ex, pa, de, .slice va n vc] 51))
 have HA := qq (Blk.fresh w1 #[an, aq, oc, dp, .float .f64 ex, pa, de, .slice va n vc] 51 _ rfl)
 have HRW := qq hrow
 have HO := qq (show (w1.alloc (.cells #[an, aq, oc, dp, .float .f64 ex, pa, de, .slice va n vc] 51)).ownsRow 0 55 6 (.slice va rs.length vc) rs.length (regsL rs) by rw [← HN.out]; exact row_base (ho.alloc _) (Nat.zero_le _))
 have hz1 : w.heap.size + 1 < w1.heap.size := by have := hb1.size; simp at this; omega
 have hIx := indexR_lreg w.heap.size 0 rs (fun r => decide (r.n = fr ∧ r.p = mpt)) (.slice va rs.length vc) _ HO.out (by rw [← HN.out]; omega) (fun W r hW => lreg1_of w.heap.size mk fr tq man maq mrg mpt mpr mco W r (HM.out.below hW))
 rw [HIX.out, ← HN.out] at hIx
 have HIx := qq hIx
 clear hb1 ho hlen hrow hIx
 go_wp2_with fail
 refine HIx.out.mono ?_
 rintro e w2 ⟨rfl, hb2⟩
 replace HM := qq (HM.out.below hb2); replace HV := qq (HV.out.below hb2); replace HA := qq (HA.out.below hb2)
 have B2 : Below w.heap.size w w2 := below_then (B1.alloc B1.size _) hb2
 have hb12 : Below w1.heap.size w1 w2 := below_then (by go_grown) hb2
 have HB := qq B2
 clear hb2 HIx
 have hjl : j < n := by rw [HN.out]; exact (List.getElem?_eq_some_iff.1 HGR.out).1
 obtain ⟨g, rfl, hgl, hfz, hcell⟩ := HRW.out (by omega)
 have hat := (hcell j ⟨rn, rp, ⟨sp, sd, ss, sh⟩⟩ HGR.out).below hb12 hgl
 obtain ⟨c0, c1, c2, c3, c4, c5⟩ := hat
 dsimp only at c0 c1 c2 c3 c4 c5
 have hj0 : (0 : Int) ≤ (j : Int) := by omega
 have hj1 : (j : Int) < (n : Int) := by omega
 have d0 : decide ((0 : Int) ≤ (j : Int)) = true := decide_eq_true hj0
 have qm := HM.out.cell; have qa := HA.out.cell
 have la := HA.out.lt; have lm := HM.out.lt
 go_wp2_with fail
 go_quiet (fail)
 have HM := qq (HM.out.below (Go.Joins.below_draws w2.heap.size w2 nq)); have HV := qq (HV.out.below (Go.Joins.below_draws w2.heap.size w2 nq)); have HB := qq (below_then HB.out (Go.Joins.below_draws w2.heap.size w2 nq))
 clear qm qa c0 c1 c2 c3 c4 c5
 have qm := HM.out.cell
 go_wp2_with fail
 refine ((lanswer_of ⟨mk, fr, tq, man, maq, mrg, mpt, mpr, mco⟩ 19 2 _)).mono ?_
 rintro e w5 ⟨a5, c5, b5, d5, rfl, hR5, hb5⟩
 have B5 : Below w.heap.size w w5 := below_then HB.out hb5
 have hV5 := HV.out.below hb5
 have qv := hV5.cell; have fv := hV5.free; have lv := hV5.lt
 have lz := HV.out.lt
 clear qm hV5
 go_wp2_with fail
 exact bodyPost_ret (v := .agg #[.slice a5 0 c5, .slice b5 1 d5, .int .i64 0]) (by simp [results, Tryz.results161, go_sem, qv, fv, lv, Nat.ne_of_lt lv]) rfl ⟨a5, c5, b5, d5, rfl, (hR5.put3 (w.heap.size + 1) (by first | omega | (simp; done) | (simp; omega)) _ _ _).mono (by first | omega | (simp; done) | (simp; omega)), by go_grown⟩
theorem lregister_back (L : SLoc) (S : Sto) (mk fr tq man maq mrg mpt mpr mco : Int) (now : Nat) (ea : Int → Addr) (w : World) (hE : EnvS ea w) (h : StoreAt L S w) (hG : StoGood S) (hn64 : F64 now) (i : Nat) (a : SAct) (hg : lGet S man maq = some (i, a)) (j : Nat) (r : SReg) (hi : a.regs.findIdx? (fun r => decide (r.n = fr ∧ r.p = mpt)) = some j) (hr : a.regs[j]? = some r) (hp : r.seat.p = mpr) : Calls Tryz.prog 161 #[.pointer (some ⟨L.sb, 0, none⟩), .agg #[mk, fr, tq, man, maq, mrg, mpt, mpr, mco], flV now] w (ResR ⟨[], [lBack ⟨mk, fr, tq, man, maq, mrg, mpt, mpr, mco⟩ (j : Int) mpr], 0⟩ w) := by
 have HF := qq (fun W hW => Find_yes L S man maq i a W hW hG hg)
 have H := qq h; have HE := qq hE
 have hA := hG.act a (lGet_some hg).2.2.1
 have h6 := hA.len
 have HIX := qq (show oix (a.regs.findIdx? (fun r => decide (r.n = fr ∧ r.p = mpt))) = (j : Int) by rw [hi]; rfl)
 obtain ⟨rn, rp, ⟨sp, sd, ss, sh⟩⟩ := r
 have HGR := qq hr
 dsimp only at hp
 have dp1 : (sp != mpr) = false := by simpa using hp
 clear hp hi hr
 obtain ⟨an, aq, oc, dp, ex, pa, de, rs⟩ := a
 unfold ActOut at HF
 dsimp only [actC] at *
 obtain ⟨n, hn⟩ : ∃ n, n = rs.length := ⟨_, rfl⟩
 rw [← hn] at HF h6
 have HN := qq hn
 clear hE h hG hg hA hn hn64
 go_enter Tryz.func161, Tryz.ntmps161
 go_wp2_with fail
 refine (HF.out _ (H.out.below (by go_grown))).mono ?_
 rintro e w1 ⟨v', rfl, ho, hb1⟩
 obtain ⟨va, vc, rfl, hlen, hrow⟩ := reg_row ho
 have B1 : Below w.heap.size w w1 := below_then (by go_grown) hb1
 have HM := qq ((((Blk.fresh w #[mk, fr, tq, man, maq, mrg, mpt, mpr, mco] 81 _ rfl).alloc (.cells #[.slice none 0 0, .slice none 0 0, .int .i64 0] 87)).below hb1).alloc (.cells #[an, aq, oc, dp, .float .f64 ex, pa, de, .slice va n vc] 51))
 have HV := qq (((Blk.fresh (w.alloc (.cells #[mk, fr, tq, man, maq, mrg, mpt, mpr, mco] 81)) #[.slice none 0 0, .slice none 0 0, .int .i64 0] 87 (w.heap.size + 1) (by simp)).below hb1).alloc (.cells #[an, aq, oc, dp, .float .f64 ex, pa, de, .slice va n vc] 51))
 have HA := qq (Blk.fresh w1 #[an, aq, oc, dp, .float .f64 ex, pa, de, .slice va n vc] 51 _ rfl)
 have HRW := qq hrow
 have HO := qq (show (w1.alloc (.cells #[an, aq, oc, dp, .float .f64 ex, pa, de, .slice va n vc] 51)).ownsRow 0 55 6 (.slice va rs.length vc) rs.length (regsL rs) by rw [← HN.out]; exact row_base (ho.alloc _) (Nat.zero_le _))
 have hz1 : w.heap.size + 1 < w1.heap.size := by have := hb1.size; simp at this; omega
 have hIx := indexR_lreg w.heap.size 0 rs (fun r => decide (r.n = fr ∧ r.p = mpt)) (.slice va rs.length vc) _ HO.out (by rw [← HN.out]; omega) (fun W r hW => lreg1_of w.heap.size mk fr tq man maq mrg mpt mpr mco W r (HM.out.below hW))
 rw [HIX.out, ← HN.out] at hIx
 have HIx := qq hIx
 clear hb1 ho hlen hrow hIx
 go_wp2_with fail
 refine HIx.out.mono ?_
 rintro e w2 ⟨rfl, hb2⟩
 replace HM := qq (HM.out.below hb2); replace HV := qq (HV.out.below hb2); replace HA := qq (HA.out.below hb2)
 have B2 : Below w.heap.size w w2 := below_then (B1.alloc B1.size _) hb2
 have hb12 : Below w1.heap.size w1 w2 := below_then (by go_grown) hb2
 have HB := qq B2
 clear hb2 HIx
 have hjl : j < n := by rw [HN.out]; exact (List.getElem?_eq_some_iff.1 HGR.out).1
 obtain ⟨g, rfl, hgl, hfz, hcell⟩ := HRW.out (by omega)
 have hat := (hcell j ⟨rn, rp, ⟨sp, sd, ss, sh⟩⟩ HGR.out).below hb12 hgl
 obtain ⟨c0, c1, c2, c3, c4, c5⟩ := hat
 dsimp only at c0 c1 c2 c3 c4 c5
 have hj0 : (0 : Int) ≤ (j : Int) := by omega
 have hj1 : (j : Int) < (n : Int) := by omega
 have d0 : decide ((0 : Int) ≤ (j : Int)) = true := decide_eq_true hj0
 have qm := HM.out.cell; have qa := HA.out.cell
 have la := HA.out.lt; have lm := HM.out.lt
 go_wp2_with fail
 go_quiet (fail)
 have HM := qq (HM.out.below (Go.Joins.below_draws w2.heap.size w2 nq)); have HV := qq (HV.out.below (Go.Joins.below_draws w2.heap.size w2 nq)); have HB := qq (below_then HB.out (Go.Joins.below_draws w2.heap.size w2 nq))
 clear qm qa c0 c1 c2 c3 c4 c5
 have qm := HM.out.cell
 go_wp2_with fail
 refine (lback_of ⟨mk, fr, tq, man, maq, mrg, mpt, mpr, mco⟩ (j : Int) mpr _).mono ?_
 rintro e w5 ⟨rfl, hb5⟩
 dsimp only [lBack, msgV, msgA]
 have B5 : Below w.heap.size w w5 := below_then HB.out hb5
 have hV5 := HV.out.below hb5
 have qv := hV5.cell; have fv := hV5.free; have lv := hV5.lt
 have lw : w.heap.size < w5.heap.size := by omega
 clear qm hV5 hb5
 go_wp2_with fail
 refine bodyPost_ret (v := .agg #[.slice none 0 0, .slice (some ⟨w5.heap.size, 0, none⟩) 1 1, .int .i64 0]) ?_ rfl ⟨none, 0, some ⟨w5.heap.size, 0, none⟩, 1, rfl, ⟨read_nil, ?_, no_block, one_block B5.size⟩, ?_⟩ <;> first | (simp [results, Tryz.results161, go_sem, qv, fv, lv, Nat.ne_of_lt lv, lw]; done) | (refine read_mone ?_; (repeat' first | exact Blk.fresh _ _ _ _ rfl | exact Blk.fresh _ _ _ _ (by simp) | refine Blk.alloc ?_ _ | refine Blk.drew ?_ | refine Blk.other ?_ ?_ _ | (simp; done) | omega | (dsimp only; omega)); done) | (go_grown; done)
theorem lregister_shut (L : SLoc) (S : Sto) (mk fr tq man maq mrg mpt mpr mco : Int) (now : Nat) (ea : Int → Addr) (w : World) (hE : EnvS ea w) (h : StoreAt L S w) (hG : StoGood S) (hn64 : F64 now) (i : Nat) (a : SAct) (hg : lGet S man maq = some (i, a)) (hi : a.regs.findIdx? (fun r => decide (r.n = fr ∧ r.p = mpt)) = none) (ht : lTakes S a now = false) : Calls Tryz.prog 161 #[.pointer (some ⟨L.sb, 0, none⟩), .agg #[mk, fr, tq, man, maq, mrg, mpt, mpr, mco], flV now] w (ResR ⟨[], [ans ⟨mk, fr, tq, man, maq, mrg, mpt, mpr, mco⟩ 19 4], 0⟩ w) := by
 have HF := qq (fun W hW => Find_yes L S man maq i a W hW hG hg)
 have H := qq h; have HE := qq hE
 have hA := hG.act a (lGet_some hg).2.2.1
 have h6 := hA.len
 have HIX := qq (show oix (a.regs.findIdx? (fun r => decide (r.n = fr ∧ r.p = mpt))) = -1 by rw [hi]; rfl)
 have hex : F64 a.ex := by have := (ctxOk_ex hA.ctx).1; unfold fdelay at this; unfold F64; simp at this; omega
 have HTk := qq (fun va vc W h1 h2 => (show Calls Tryz.prog 167 #[.pointer (some ⟨L.sb, 0, none⟩), .agg (actC a (.slice va a.regs.length vc)), flV now] W (Makes (.bool false) W) by have := ltakes_of L S a va vc now ea W h1 h2 hG hex hn64 ⟨hA.pa.1, by have := hA.pa.2; have := hG.parts; omega⟩; rw [ht] at this; exact this))
 clear hi ht hex
 obtain ⟨an, aq, oc, dp, ex, pa, de, rs⟩ := a
 unfold ActOut at HF
 dsimp only [actC] at *
 obtain ⟨n, hn⟩ : ∃ n, n = rs.length := ⟨_, rfl⟩
 rw [← hn] at HF h6 HTk
 have HN := qq hn
 clear hE h hG hg hA hn hn64
 go_enter Tryz.func161, Tryz.ntmps161
 go_wp2_with fail
 refine (HF.out _ (H.out.below (by go_grown))).mono ?_
 rintro e w1 ⟨v', rfl, ho, hb1⟩
 obtain ⟨va, vc, rfl, hlen, hrow⟩ := reg_row ho
 have B1 : Below w.heap.size w w1 := below_then (by go_grown) hb1
 have HM := qq ((((Blk.fresh w #[mk, fr, tq, man, maq, mrg, mpt, mpr, mco] 81 _ rfl).alloc (.cells #[.slice none 0 0, .slice none 0 0, .int .i64 0] 87)).below hb1).alloc (.cells #[an, aq, oc, dp, .float .f64 ex, pa, de, .slice va n vc] 51))
 have HV := qq (((Blk.fresh (w.alloc (.cells #[mk, fr, tq, man, maq, mrg, mpt, mpr, mco] 81)) #[.slice none 0 0, .slice none 0 0, .int .i64 0] 87 (w.heap.size + 1) (by simp)).below hb1).alloc (.cells #[an, aq, oc, dp, .float .f64 ex, pa, de, .slice va n vc] 51))
 have HA := qq (Blk.fresh w1 #[an, aq, oc, dp, .float .f64 ex, pa, de, .slice va n vc] 51 _ rfl)
 have HRW := qq hrow
 have HO := qq (show (w1.alloc (.cells #[an, aq, oc, dp, .float .f64 ex, pa, de, .slice va n vc] 51)).ownsRow 0 55 6 (.slice va rs.length vc) rs.length (regsL rs) by rw [← HN.out]; exact row_base (ho.alloc _) (Nat.zero_le _))
 have hz1 : w.heap.size + 1 < w1.heap.size := by have := hb1.size; simp at this; omega
 have hIx := indexR_lreg w.heap.size 0 rs (fun r => decide (r.n = fr ∧ r.p = mpt)) (.slice va rs.length vc) _ HO.out (by rw [← HN.out]; omega) (fun W r hW => lreg1_of w.heap.size mk fr tq man maq mrg mpt mpr mco W r (HM.out.below hW))
 rw [HIX.out, ← HN.out] at hIx
 have HIx := qq hIx
 clear hb1 ho hlen hrow hIx
 go_wp2_with fail
 refine HIx.out.mono ?_
 rintro e w2 ⟨rfl, hb2⟩
 replace HM := qq (HM.out.below hb2); replace HV := qq (HV.out.below hb2); replace HA := qq (HA.out.below hb2)
 have B2 : Below w.heap.size w w2 := below_then (B1.alloc B1.size _) hb2
 have hb12 : Below w1.heap.size w1 w2 := below_then (by go_grown) hb2
 have HB := qq B2
 clear hb2 HIx
 have d0 : decide ((0 : Int) ≤ -1) = false := by decide
 have qm := HM.out.cell; have qa := HA.out.cell
 have la := HA.out.lt; have lm := HM.out.lt
 go_wp2_with fail
 go_quiet (fail)
 generalize hw3 : w2.drewN nq = w3 at *
 have hb3 : Below w2.heap.size w2 w3 := by rw [← hw3]; exact Go.Joins.below_draws w2.heap.size w2 nq
 have HM := qq (HM.out.below hb3); have HV := qq (HV.out.below hb3); have HA := qq (HA.out.below hb3); have HB := qq (below_then HB.out hb3)
 clear qm qa hw3 hb3
 have qa := HA.out.cell
 go_wp2_with fail
 clear qa
 refine (HTk.out _ _ _ (HE.out.below HB.out) (H.out.below HB.out)).mono ?_
 rintro e w4 ⟨rfl, hb4⟩
 have HM := qq (HM.out.below hb4); have HV := qq (HV.out.below hb4); have HA := qq (HA.out.below hb4); have HB := qq (below_then HB.out hb4)
 clear hb4
 have qm := HM.out.cell
 go_wp2_with fail
 refine ((lanswer_of ⟨mk, fr, tq, man, maq, mrg, mpt, mpr, mco⟩ 19 4 _)).mono ?_
 rintro e w5 ⟨a5, c5, b5, d5, rfl, hR5, hb5⟩
 have B5 : Below w.heap.size w w5 := below_then HB.out hb5
 have hV5 := HV.out.below hb5
 have qv := hV5.cell; have fv := hV5.free; have lv := hV5.lt
 have lz := HV.out.lt
 clear qm hV5
 go_wp2_with fail
 exact bodyPost_ret (v := .agg #[.slice a5 0 c5, .slice b5 1 d5, .int .i64 0]) (by simp [results, Tryz.results161, go_sem, qv, fv, lv, Nat.ne_of_lt lv]) rfl ⟨a5, c5, b5, d5, rfl, (hR5.put3 (w.heap.size + 1) (by first | omega | (simp; done) | (simp; omega)) _ _ _).mono (by first | omega | (simp; done) | (simp; omega)), by go_grown⟩
end Go.Proofs.YtlkajejbfojkeaaGreatDoor
