/- LdE -/
import Derived.Test.YtlkajejbfojkeaaGreatDoorVLdD
set_option linter.unusedSimpArgs false
set_option linter.unusedVariables false
set_option maxRecDepth 100000
set_option maxHeartbeats 16000000
namespace Go.Proofs.YtlkajejbfojkeaaGreatDoor
open Go.RowKit
attribute [local go_sem] store_float
theorem lregister_new (L : SLoc) (S : Sto) (mk fr tq man maq mrg mpt mpr mco : Int) (now : Nat) (ea : Int → Addr) (w : World) (hE : EnvS ea w) (h : StoreAt L S w) (hG : StoGood S) (hn64 : F64 now) (i : Nat) (a : SAct) (hg : lGet S man maq = some (i, a)) (hi : a.regs.findIdx? (fun r => decide (r.n = fr ∧ r.p = mpt)) = none) (ht : lTakes S a now = true) : Calls Tryz.prog 161 #[.pointer (some ⟨L.sb, 0, none⟩), .agg #[mk, fr, tq, man, maq, mrg, mpt, mpr, mco], flV now] w (ResR ⟨[fEnrol man maq a.regs.length fr mpt mpr], [lBack ⟨mk, fr, tq, man, maq, mrg, mpt, mpr, mco⟩ (a.regs.length : Nat) mpr], 0⟩ w) := by
 have HF := qq (fun W hW => Find_yes L S man maq i a W hW hG hg)
 have H := qq h; have HE := qq hE
 have hA := hG.act a (lGet_some hg).2.2.1
 have h6 := hA.len
 have HIX := qq (show oix (a.regs.findIdx? (fun r => decide (r.n = fr ∧ r.p = mpt))) = -1 by rw [hi]; rfl)
 have hex : F64 a.ex := by have := (ctxOk_ex hA.ctx).1; unfold fdelay at this; unfold F64; simp at this; omega
 have HTk := qq (fun va vc W h1 h2 => (show Calls Tryz.prog 167 #[.pointer (some ⟨L.sb, 0, none⟩), .agg (actC a (.slice va a.regs.length vc)), flV now] W (Makes (.bool true) W) by have := ltakes_of L S a va vc now ea W h1 h2 hG hex hn64 ⟨hA.pa.1, by have := hA.pa.2; have := hG.parts; omega⟩; rw [ht] at this; exact this))
 clear hi ht hex
 obtain ⟨an, aq, oc, dp, ex, pa, de, rs⟩ := a
 unfold ActOut at HF
 dsimp only [actC] at *
 obtain ⟨n, hn⟩ : ∃ n, n = rs.length := ⟨_, rfl⟩
 rw [← hn] at HF h6 HTk ⊢
 have HN := qq hn
 clear hE h hG hg hA hn hn64
 go_enter Tryz.func161, Tryz.ntmps161
 go_wp2_with fail
 refine (HF.out _ (H.out.below (by go_grown))).mono ?_
 rintro e w1 ⟨v', rfl, ho, hb1⟩
 obtain ⟨va, vc, rfl, hlen, hrow⟩ := reg_row ho
 have B1 : Below w.heap.size w w1 := below_then (by go_grown) hb1
 have HM := qq ((((Blk.fresh w #[mk, fr, tq, man, maq, mrg, mpt, mpr, mco] 81 _ rfl).alloc (.cells #[.slice none 0 0, .slice none 0 0, .int .i64 0] 87)).below hb1).alloc (.cells #[an, aq, oc, dp, .float .f64 ex, pa, de, .slice va n vc] 51))
 have HV := qq (((Blk.fresh (w.alloc (.cells #[mk, fr, tq, man, maq, mrg, mpt, mpr, mco] 81)) #[.slice none 0 0, .slice none 0 0, .int .i64 0] 87 (w.heap.size + 1) (by simp)).below hb1).alloc (.cells #[an, aq, oc, dp, .float .f64 ex, pa, de, .slice va n vc] 51))
 have HA := qq (Blk.fresh w1 #[an, aq, oc, dp, .float .f64 ex, pa, de, .slice va n vc] 51 _ rfl)
 have HRW := qq hrow
 have HO := qq (show (w1.alloc (.cells #[an, aq, oc, dp, .float .f64 ex, pa, de, .slice va n vc] 51)).ownsRow 0 55 6 (.slice va rs.length vc) rs.length (regsL rs) by rw [← HN.out]; exact row_base (ho.alloc _) (Nat.zero_le _))
 have hz1 : w.heap.size + 1 < w1.heap.size := by have := hb1.size; simp at this; omega
 have hIx := indexR_lreg w.heap.size 0 rs (fun r => decide (r.n = fr ∧ r.p = mpt)) (.slice va rs.length vc) _ HO.out (by rw [← HN.out]; omega) (fun W r hW => lreg1_of w.heap.size mk fr tq man maq mrg mpt mpr mco W r (HM.out.below hW))
 rw [HIX.out, ← HN.out] at hIx
 have HIx := qq hIx
 clear hb1 ho hlen hrow hIx
 go_wp2_with fail
 refine HIx.out.mono ?_
 rintro e w2 ⟨rfl, hb2⟩
 replace HM := qq (HM.out.below hb2); replace HV := qq (HV.out.below hb2); replace HA := qq (HA.out.below hb2)
 have B2 : Below w.heap.size w w2 := below_then (B1.alloc B1.size _) hb2
 have hb12 : Below w1.heap.size w1 w2 := below_then (by go_grown) hb2
 have HB := qq B2
 clear hb2 HIx
 have d0 : decide ((0 : Int) ≤ -1) = false := by decide
 have qm := HM.out.cell; have qa := HA.out.cell
 have la := HA.out.lt; have lm := HM.out.lt
 go_wp2_with fail
 go_quiet (fail)
 generalize hw3 : w2.drewN nq = w3 at *
 have hb3 : Below w2.heap.size w2 w3 := by rw [← hw3]; exact Go.Joins.below_draws w2.heap.size w2 nq
 have HM := qq (HM.out.below hb3); have HV := qq (HV.out.below hb3); have HA := qq (HA.out.below hb3); have HB := qq (below_then HB.out hb3)
 clear qm qa hw3 hb3
 have qa := HA.out.cell
 go_wp2_with fail
 clear qa
 refine (HTk.out _ _ _ (HE.out.below HB.out) (H.out.below HB.out)).mono ?_
 rintro e w4 ⟨rfl, hb4⟩
 have HM := qq (HM.out.below hb4); have HV := qq (HV.out.below hb4); have HA := qq (HA.out.below hb4); have HB := qq (below_then HB.out hb4)
 clear hb4
 have o4HM := HM.out.lt; have o4HV := HV.out.lt; have o4HA := HA.out.lt
 obtain ⟨lHM, qHM, fHM⟩ := HM.out
 obtain ⟨lHV, qHV, fHV⟩ := HV.out
 obtain ⟨lHA, qHA, fHA⟩ := HA.out
 go_wp2_with fail
 clear qHM fHM lHM qHV fHV lHV qHA fHA lHA
 refine reg_start (fun w' => Blk w' _ _ ∧ Blk w' _ _ ∧ Blk w' _ _ ∧ Below w.heap.size w w') (by kernel_rfl) ⟨(HM.out.alloc _).drew, (HV.out.alloc _).drew, (Blk.fresh _ _ _ (w4.heap.size) (by simp)).drew, (bel_drew (bel_alloc HB.out _))⟩ ?_
 rintro w5 hHeld
 obtain ⟨HM', HV', K4', HB'⟩ := id hHeld
 have HM := qq HM'; have HV := qq HV'; have K4 := qq K4'; have HB := qq HB'; clear HM' HV' K4' HB'
 have z5 := HB.out.size
 refine takeM (d := some 75) 0 rfl rfl hHeld (fun w' hS' => by have qA := hS'.2.2.1.cell; clear hS'; go_simp; (try rfl)) ?_
 simp only [puts]
 refine takeM (d := some 77) 2 rfl rfl hHeld (fun w' hS' => by have qA := hS'.1.cell; clear hS'; go_simp; (try rfl)) ?_
 simp only [puts]
 refine takeM (d := some 78) 3 rfl rfl hHeld (fun w' _ => by go_simp; (try rfl)) ?_
 simp only [puts]
 refine takeM (d := some 79) 4 rfl rfl hHeld (fun w' _ => by go_simp; (try rfl)) ?_
 simp only [puts]
 refine takeM (d := some 80) 5 rfl rfl hHeld (fun w' hS' => by have qA := hS'.1.cell; clear hS'; go_simp; (try rfl)) ?_
 simp only [puts]
 refine two_M 1 6 (by kernel_rfl) ?_ ?_
 · skip
   have o5HM := HM.out.lt; have o5HV := HV.out.lt; have o5K4 := K4.out.lt
   refine new_S (d := some 76) 1 (.slice (some ⟨w5.heap.size, 0, none⟩) 1 1) #[.int .i64 2, .int .i64 man, .int .i64 maq, .int .i64 n, .int .i64 fr, .int .i64 mpt, .int .i64 mpr, .int .i64 0, .int .i64 0, .int .i64 0, .int .i64 0, .int .i64 0, .int .i64 0, .float .f64 0] 39 rfl rfl (by go_simp) ⟨(HM.out.alloc _), (HV.out.alloc _), (K4.out.alloc _), (bel_alloc HB.out _)⟩ ?_
   clear hHeld
   rintro w6 hHeld
   obtain ⟨⟨HM', HV', K4', HB'⟩, K5', RK5'⟩ := id hHeld
   have HM := qq HM'; have HV := qq HV'; have K4 := qq K4'; have HB := qq HB'; have K5 := qq K5'; have RK5 := qq RK5'; clear HM' HV' K4' HB' K5' RK5'
   have z6 := HB.out.size
   have y6 := RK5.out.size
   simp only [puts]
   refine one_M 6 (by kernel_rfl) ?_
   refine wpOp_call (d := some 81) 6 241 _ _ [.agg #[mk, fr, tq, man, maq, mrg, mpt, mpr, mco], .int .i64 n, .int .i64 mpr] rfl rfl rfl (enters_of Tryz.func241 (by kernel_rfl) rfl) (by rfl) (by rfl) ?_
   refine (lback_of ⟨mk, fr, tq, man, maq, mrg, mpt, mpr, mco⟩ (n : Nat) mpr _).mono ?_
   rintro e w7 ⟨rfl, hb7⟩
   clear hHeld
   have RK5 := qq (below_then RK5.out hb7)
   have HM := qq (HM.out.below hb7)
   have HV := qq (HV.out.below hb7)
   have K4 := qq (K4.out.below hb7)
   have K5 := qq (K5.out.below hb7)
   have HB := qq (below_then HB.out hb7)
   have z7 := HB.out.size
   clear hb7
   (try dsimp only [lBack, msgV, msgA])
   refine ret_S ⟨⟨HM.out, HV.out, K4.out, HB.out⟩, K5.out, RK5.out⟩ (fun hHeld => ?_)
   simp only [puts]
   refine one_M 7 (by kernel_rfl) ?_
   have o6HM := HM.out.lt; have o6HV := HV.out.lt; have o6K4 := K4.out.lt; have o6K5 := K5.out.lt
   refine new_S (d := some 82) 7 (.slice (some ⟨w7.heap.size, 0, none⟩) 1 1) #[.int .i64 18, .int .i64 tq, .int .i64 fr, .int .i64 man, .int .i64 maq, .int .i64 n, .int .i64 mpt, .int .i64 mpr, .int .i64 0] 81 rfl rfl (by go_simp) ⟨⟨(HM.out.alloc _), (HV.out.alloc _), (K4.out.alloc _), (bel_alloc HB.out _)⟩, (K5.out.alloc _), (bel_alloc RK5.out _)⟩ ?_
   clear hHeld
   rintro w8 hHeld
   obtain ⟨⟨⟨HM', HV', K4', HB'⟩, K5', RK5'⟩, K6', RK6'⟩ := id hHeld
   have HM := qq HM'; have HV := qq HV'; have K4 := qq K4'; have HB := qq HB'; have K5 := qq K5'; have K6 := qq K6'; have RK5 := qq RK5'; have RK6 := qq RK6'; clear HM' HV' K4' HB' K5' K6' RK5' RK6'
   have z8 := HB.out.size
   have y8 := RK6.out.size
   simp only [puts]
   refine takeM (d := some 83) 8 rfl rfl hHeld (fun w' _ => by go_simp; (try rfl)) ?_
   simp only [puts]
   obtain ⟨lHM, qHM, fHM⟩ := HM.out
   obtain ⟨lHV, qHV, fHV⟩ := HV.out
   obtain ⟨lK4, qK4, fK4⟩ := K4.out
   obtain ⟨lK5, qK5, fK5⟩ := K5.out
   obtain ⟨lK6, qK6, fK6⟩ := K6.out
   refine last_S 9 (((w8.setCell ⟨w.heap.size + 1, 0, none⟩ (.slice (some ⟨w5.heap.size, 0, none⟩) 1 1)).setCell ⟨w.heap.size + 1, 1, none⟩ (.slice (some ⟨w7.heap.size, 0, none⟩) 1 1)).setCell ⟨w.heap.size + 1, 2, none⟩ (.int .i64 0)) rfl rfl (by go_simp) ?_
   clear hHeld
   clear qHM fHM lHM qHV fHV lHV qK4 fK4 lK4 qK5 fK5 lK5 qK6 fK6 lK6
   (try simp only [puts])
   have qv := HV.out.cell; have fv := HV.out.free; have lv := HV.out.lt
   go_wp2_with fail
   exact bodyPost_ret (v := .agg #[.slice (some ⟨w5.heap.size, 0, none⟩) 1 1, .slice (some ⟨w7.heap.size, 0, none⟩) 1 1, .int .i64 0]) (by simp [results, Tryz.results161, go_sem, qv, fv]) rfl ⟨some ⟨w5.heap.size, 0, none⟩, 1, some ⟨w7.heap.size, 0, none⟩, 1, rfl, ⟨read_fone (((K5.out.other (p := ⟨w.heap.size + 1, 0, none⟩) (by (try dsimp only); omega) (.slice (some ⟨w5.heap.size, 0, none⟩) 1 1)).other (p := ⟨w.heap.size + 1, 1, none⟩) (by (try dsimp only); omega) (.slice (some ⟨w7.heap.size, 0, none⟩) 1 1)).other (p := ⟨w.heap.size + 1, 2, none⟩) (by (try dsimp only); omega) (.int .i64 0)), read_mone (((K6.out.other (p := ⟨w.heap.size + 1, 0, none⟩) (by (try dsimp only); omega) (.slice (some ⟨w5.heap.size, 0, none⟩) 1 1)).other (p := ⟨w.heap.size + 1, 1, none⟩) (by (try dsimp only); omega) (.slice (some ⟨w7.heap.size, 0, none⟩) 1 1)).other (p := ⟨w.heap.size + 1, 2, none⟩) (by (try dsimp only); omega) (.int .i64 0)), one_block (by first | omega | (simp; done) | (simp; omega)), one_block (by first | omega | (simp; done) | (simp; omega))⟩, (bel_set (bel_set (bel_set HB.out (p := ⟨w.heap.size + 1, 0, none⟩) (by (try dsimp only); omega) _) (p := ⟨w.heap.size + 1, 1, none⟩) (by (try dsimp only); omega) _) (p := ⟨w.heap.size + 1, 2, none⟩) (by (try dsimp only); omega) _)⟩
 · skip
   refine wpOp_call (d := some 81) 6 241 _ _ [.agg #[mk, fr, tq, man, maq, mrg, mpt, mpr, mco], .int .i64 n, .int .i64 mpr] rfl rfl rfl (enters_of Tryz.func241 (by kernel_rfl) rfl) (by rfl) (by rfl) ?_
   refine (lback_of ⟨mk, fr, tq, man, maq, mrg, mpt, mpr, mco⟩ (n : Nat) mpr _).mono ?_
   rintro e w6 ⟨rfl, hb6⟩
   clear hHeld
   have HM := qq (HM.out.below hb6)
   have HV := qq (HV.out.below hb6)
   have K4 := qq (K4.out.below hb6)
   have HB := qq (below_then HB.out hb6)
   have z6 := HB.out.size
   clear hb6
   (try dsimp only [lBack, msgV, msgA])
   refine ret_S ⟨HM.out, HV.out, K4.out, HB.out⟩ (fun hHeld => ?_)
   simp only [puts]
   refine two_M 1 7 (by kernel_rfl) ?_ ?_
   · skip
     have o5HM := HM.out.lt; have o5HV := HV.out.lt; have o5K4 := K4.out.lt
     refine new_S (d := some 76) 1 (.slice (some ⟨w6.heap.size, 0, none⟩) 1 1) #[.int .i64 2, .int .i64 man, .int .i64 maq, .int .i64 n, .int .i64 fr, .int .i64 mpt, .int .i64 mpr, .int .i64 0, .int .i64 0, .int .i64 0, .int .i64 0, .int .i64 0, .int .i64 0, .float .f64 0] 39 rfl rfl (by go_simp) ⟨(HM.out.alloc _), (HV.out.alloc _), (K4.out.alloc _), (bel_alloc HB.out _)⟩ ?_
     clear hHeld
     rintro w7 hHeld
     obtain ⟨⟨HM', HV', K4', HB'⟩, K5', RK5'⟩ := id hHeld
     have HM := qq HM'; have HV := qq HV'; have K4 := qq K4'; have HB := qq HB'; have K5 := qq K5'; have RK5 := qq RK5'; clear HM' HV' K4' HB' K5' RK5'
     have z7 := HB.out.size
     have y7 := RK5.out.size
     simp only [puts]
     refine one_M 7 (by kernel_rfl) ?_
     have o6HM := HM.out.lt; have o6HV := HV.out.lt; have o6K4 := K4.out.lt; have o6K5 := K5.out.lt
     refine new_S (d := some 82) 7 (.slice (some ⟨w7.heap.size, 0, none⟩) 1 1) #[.int .i64 18, .int .i64 tq, .int .i64 fr, .int .i64 man, .int .i64 maq, .int .i64 n, .int .i64 mpt, .int .i64 mpr, .int .i64 0] 81 rfl rfl (by go_simp) ⟨⟨(HM.out.alloc _), (HV.out.alloc _), (K4.out.alloc _), (bel_alloc HB.out _)⟩, (K5.out.alloc _), (bel_alloc RK5.out _)⟩ ?_
     clear hHeld
     rintro w8 hHeld
     obtain ⟨⟨⟨HM', HV', K4', HB'⟩, K5', RK5'⟩, K6', RK6'⟩ := id hHeld
     have HM := qq HM'; have HV := qq HV'; have K4 := qq K4'; have HB := qq HB'; have K5 := qq K5'; have K6 := qq K6'; have RK5 := qq RK5'; have RK6 := qq RK6'; clear HM' HV' K4' HB' K5' K6' RK5' RK6'
     have z8 := HB.out.size
     have y8 := RK6.out.size
     simp only [puts]
     refine takeM (d := some 83) 8 rfl rfl hHeld (fun w' _ => by go_simp; (try rfl)) ?_
     simp only [puts]
     obtain ⟨lHM, qHM, fHM⟩ := HM.out
     obtain ⟨lHV, qHV, fHV⟩ := HV.out
     obtain ⟨lK4, qK4, fK4⟩ := K4.out
     obtain ⟨lK5, qK5, fK5⟩ := K5.out
     obtain ⟨lK6, qK6, fK6⟩ := K6.out
     refine last_S 9 (((w8.setCell ⟨w.heap.size + 1, 0, none⟩ (.slice (some ⟨w6.heap.size, 0, none⟩) 1 1)).setCell ⟨w.heap.size + 1, 1, none⟩ (.slice (some ⟨w7.heap.size, 0, none⟩) 1 1)).setCell ⟨w.heap.size + 1, 2, none⟩ (.int .i64 0)) rfl rfl (by go_simp) ?_
     clear hHeld
     clear qHM fHM lHM qHV fHV lHV qK4 fK4 lK4 qK5 fK5 lK5 qK6 fK6 lK6
     (try simp only [puts])
     have qv := HV.out.cell; have fv := HV.out.free; have lv := HV.out.lt
     go_wp2_with fail
     exact bodyPost_ret (v := .agg #[.slice (some ⟨w6.heap.size, 0, none⟩) 1 1, .slice (some ⟨w7.heap.size, 0, none⟩) 1 1, .int .i64 0]) (by simp [results, Tryz.results161, go_sem, qv, fv]) rfl ⟨some ⟨w6.heap.size, 0, none⟩, 1, some ⟨w7.heap.size, 0, none⟩, 1, rfl, ⟨read_fone (((K5.out.other (p := ⟨w.heap.size + 1, 0, none⟩) (by (try dsimp only); omega) (.slice (some ⟨w6.heap.size, 0, none⟩) 1 1)).other (p := ⟨w.heap.size + 1, 1, none⟩) (by (try dsimp only); omega) (.slice (some ⟨w7.heap.size, 0, none⟩) 1 1)).other (p := ⟨w.heap.size + 1, 2, none⟩) (by (try dsimp only); omega) (.int .i64 0)), read_mone (((K6.out.other (p := ⟨w.heap.size + 1, 0, none⟩) (by (try dsimp only); omega) (.slice (some ⟨w6.heap.size, 0, none⟩) 1 1)).other (p := ⟨w.heap.size + 1, 1, none⟩) (by (try dsimp only); omega) (.slice (some ⟨w7.heap.size, 0, none⟩) 1 1)).other (p := ⟨w.heap.size + 1, 2, none⟩) (by (try dsimp only); omega) (.int .i64 0)), one_block (by first | omega | (simp; done) | (simp; omega)), one_block (by first | omega | (simp; done) | (simp; omega))⟩, (bel_set (bel_set (bel_set HB.out (p := ⟨w.heap.size + 1, 0, none⟩) (by (try dsimp only); omega) _) (p := ⟨w.heap.size + 1, 1, none⟩) (by (try dsimp only); omega) _) (p := ⟨w.heap.size + 1, 2, none⟩) (by (try dsimp only); omega) _)⟩
   · skip
     have o5HM := HM.out.lt; have o5HV := HV.out.lt; have o5K4 := K4.out.lt
     refine new_S (d := some 82) 7 (.slice (some ⟨w6.heap.size, 0, none⟩) 1 1) #[.int .i64 18, .int .i64 tq, .int .i64 fr, .int .i64 man, .int .i64 maq, .int .i64 n, .int .i64 mpt, .int .i64 mpr, .int .i64 0] 81 rfl rfl (by go_simp) ⟨(HM.out.alloc _), (HV.out.alloc _), (K4.out.alloc _), (bel_alloc HB.out _)⟩ ?_
     clear hHeld
     rintro w7 hHeld
     obtain ⟨⟨HM', HV', K4', HB'⟩, K5', RK5'⟩ := id hHeld
     have HM := qq HM'; have HV := qq HV'; have K4 := qq K4'; have HB := qq HB'; have K5 := qq K5'; have RK5 := qq RK5'; clear HM' HV' K4' HB' K5' RK5'
     have z7 := HB.out.size
     have y7 := RK5.out.size
     simp only [puts]
     refine one_M 1 (by kernel_rfl) ?_
     have o6HM := HM.out.lt; have o6HV := HV.out.lt; have o6K4 := K4.out.lt; have o6K5 := K5.out.lt
     refine new_S (d := some 76) 1 (.slice (some ⟨w7.heap.size, 0, none⟩) 1 1) #[.int .i64 2, .int .i64 man, .int .i64 maq, .int .i64 n, .int .i64 fr, .int .i64 mpt, .int .i64 mpr, .int .i64 0, .int .i64 0, .int .i64 0, .int .i64 0, .int .i64 0, .int .i64 0, .float .f64 0] 39 rfl rfl (by go_simp) ⟨⟨(HM.out.alloc _), (HV.out.alloc _), (K4.out.alloc _), (bel_alloc HB.out _)⟩, (K5.out.alloc _), (bel_alloc RK5.out _)⟩ ?_
     clear hHeld
     rintro w8 hHeld
     obtain ⟨⟨⟨HM', HV', K4', HB'⟩, K5', RK5'⟩, K6', RK6'⟩ := id hHeld
     have HM := qq HM'; have HV := qq HV'; have K4 := qq K4'; have HB := qq HB'; have K5 := qq K5'; have K6 := qq K6'; have RK5 := qq RK5'; have RK6 := qq RK6'; clear HM' HV' K4' HB' K5' K6' RK5' RK6'
     have z8 := HB.out.size
     have y8 := RK6.out.size
     simp only [puts]
     refine takeM (d := some 83) 8 rfl rfl hHeld (fun w' _ => by go_simp; (try rfl)) ?_
     simp only [puts]
     obtain ⟨lHM, qHM, fHM⟩ := HM.out
     obtain ⟨lHV, qHV, fHV⟩ := HV.out
     obtain ⟨lK4, qK4, fK4⟩ := K4.out
     obtain ⟨lK5, qK5, fK5⟩ := K5.out
     obtain ⟨lK6, qK6, fK6⟩ := K6.out
     refine last_S 9 (((w8.setCell ⟨w.heap.size + 1, 0, none⟩ (.slice (some ⟨w7.heap.size, 0, none⟩) 1 1)).setCell ⟨w.heap.size + 1, 1, none⟩ (.slice (some ⟨w6.heap.size, 0, none⟩) 1 1)).setCell ⟨w.heap.size + 1, 2, none⟩ (.int .i64 0)) rfl rfl (by go_simp) ?_
     clear hHeld
     clear qHM fHM lHM qHV fHV lHV qK4 fK4 lK4 qK5 fK5 lK5 qK6 fK6 lK6
     (try simp only [puts])
     have qv := HV.out.cell; have fv := HV.out.free; have lv := HV.out.lt
     go_wp2_with fail
     exact bodyPost_ret (v := .agg #[.slice (some ⟨w7.heap.size, 0, none⟩) 1 1, .slice (some ⟨w6.heap.size, 0, none⟩) 1 1, .int .i64 0]) (by simp [results, Tryz.results161, go_sem, qv, fv]) rfl ⟨some ⟨w7.heap.size, 0, none⟩, 1, some ⟨w6.heap.size, 0, none⟩, 1, rfl, ⟨read_fone (((K6.out.other (p := ⟨w.heap.size + 1, 0, none⟩) (by (try dsimp only); omega) (.slice (some ⟨w7.heap.size, 0, none⟩) 1 1)).other (p := ⟨w.heap.size + 1, 1, none⟩) (by (try dsimp only); omega) (.slice (some ⟨w6.heap.size, 0, none⟩) 1 1)).other (p := ⟨w.heap.size + 1, 2, none⟩) (by (try dsimp only); omega) (.int .i64 0)), read_mone (((K5.out.other (p := ⟨w.heap.size + 1, 0, none⟩) (by (try dsimp only); omega) (.slice (some ⟨w7.heap.size, 0, none⟩) 1 1)).other (p := ⟨w.heap.size + 1, 1, none⟩) (by (try dsimp only); omega) (.slice (some ⟨w6.heap.size, 0, none⟩) 1 1)).other (p := ⟨w.heap.size + 1, 2, none⟩) (by (try dsimp only); omega) (.int .i64 0)), one_block (by first | omega | (simp; done) | (simp; omega)), one_block (by first | omega | (simp; done) | (simp; omega))⟩, (bel_set (bel_set (bel_set HB.out (p := ⟨w.heap.size + 1, 0, none⟩) (by (try dsimp only); omega) _) (p := ⟨w.heap.size + 1, 1, none⟩) (by (try dsimp only); omega) _) (p := ⟨w.heap.size + 1, 2, none⟩) (by (try dsimp only); omega) _)⟩
theorem lregister_of (L : SLoc) (S : Sto) (m : SMsg) (now : Nat) (ea : Int → Addr) (w : World) (hE : EnvS ea w) (h : StoreAt L S w) (hG : StoGood S) (hn64 : F64 now) : Calls Tryz.prog 161 #[.pointer (some ⟨L.sb, 0, none⟩), msgV m, flV now] w (ResR (lRegister S m now) w) := by
 obtain ⟨mk, fr, tq, man, maq, mrg, mpt, mpr, mco⟩ := m
 unfold lRegister
 dsimp only
 cases hg : lGet S man maq with
 | none => exact lregister_none L S mk fr tq man maq mrg mpt mpr mco now ea w hE h hG hn64 hg
 | some x =>
  obtain ⟨i, a⟩ := x
  dsimp only
  cases hi : a.regs.findIdx? (fun r => decide (r.n = fr ∧ r.p = mpt)) with
  | none =>
   dsimp only
   cases ht : lTakes S a now with
   | true => rw [if_pos rfl]; exact lregister_new L S mk fr tq man maq mrg mpt mpr mco now ea w hE h hG hn64 i a hg hi ht
   | false => rw [if_neg (by simp)]; exact lregister_shut L S mk fr tq man maq mrg mpt mpr mco now ea w hE h hG hn64 i a hg hi ht
  | some j =>
   dsimp only
   obtain ⟨hj, _⟩ := List.findIdx?_eq_some_iff_getElem.1 hi
   have hr : a.regs[j]? = some a.regs[j] := List.getElem?_eq_getElem hj
   rw [hr]
   dsimp only
   by_cases hp : a.regs[j].seat.p = mpr
   · rw [if_neg (by simp [hp])]; exact lregister_back L S mk fr tq man maq mrg mpt mpr mco now ea w hE h hG hn64 i a hg j _ hi hr hp
   · rw [if_pos hp]; exact lregister_other L S mk fr tq man maq mrg mpt mpr mco now ea w hE h hG hn64 i a hg j _ hi hr hp
end Go.Proofs.YtlkajejbfojkeaaGreatDoor
