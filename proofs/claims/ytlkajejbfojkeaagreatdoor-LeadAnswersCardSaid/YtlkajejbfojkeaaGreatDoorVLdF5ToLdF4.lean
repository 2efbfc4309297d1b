/- LdF5, LdF4 -/
import Derived.Test.YtlkajejbfojkeaaGreatDoorVLdF
import Derived.Test.YtlkajejbfojkeaaGreatDoorVLdF2
import Derived.Test.YtlkajejbfojkeaaGreatDoorVLdF3
set_option linter.unusedSimpArgs false
set_option linter.unusedVariables false
set_option maxRecDepth 100000
set_option maxHeartbeats 16000000
namespace Go.Proofs.YtlkajejbfojkeaaGreatDoor
open Go.RowKit
attribute [local go_sem] store_float
theorem lup_late (rn rp sp sd ss sh an aq oc dp : Int) (ex : Nat) (pa de : Int) (va : Option Addr) (vn vc : Nat) (nd rg : Int) (mk fr tq man maq mrg mpt mpr mco : Int) (ep ed es eh sd' ft wk : Int) (lp ld ls lh lsd lwk : Int) (w : World) (hT : ∀ W, Below w.heap.size w W → Calls Tryz.prog 219 #[.agg #[sp, sd, ss, sh], .int .i64 mk] W (Makes (.tuple #[.agg #[ep, ed, es, eh, sd', ft, wk, .bool true], .nilIface]) W))
    (hD : ∀ W, Below w.heap.size w W → Calls Tryz.prog 143 #[.agg #[ep, ed, es, eh], .int .i64 11] W (Makes (.tuple #[.agg #[lp, ld, ls, lh, lsd, .int .i64 0, lwk, .bool true], .nilIface]) W)) (h5 : (es == 5) = true) (h2 : (de == 2) = true) (h6 : (lsd != 0) = true) :
    Calls Tryz.prog 166 #[.agg #[rn, rp, sp, sd, ss, sh, an, aq, oc, dp, .float .f64 ex, pa, de, .slice va vn vc, nd, rg], .agg #[mk, fr, tq, man, maq, mrg, mpt, mpr, mco]] w (ResR ⟨[fSeat an aq rg ls lh], [⟨lsd, nd, rn, an, aq, rg, rp, 0, 0⟩], 0⟩ w) := by
 have HT := qq hT; have HD := qq hD
 clear hT hD
 go_enter Tryz.func166, Tryz.ntmps166
 go_wp2_with fail
 refine (HT.out _ (bel_alloc (bel_alloc (bel_alloc (Below.refl w.heap.size w) _) _) _)).mono ?_
 rintro e w1 ⟨rfl, hb1⟩
 have K1 := qq ((((Blk.fresh _ _ _ (w.heap.size) (by simp)).alloc _).alloc _).below hb1)
 have K2 := qq (((Blk.fresh _ _ _ (w.heap.size + 1) (by simp)).alloc _).below hb1)
 have K3 := qq ((Blk.fresh _ _ _ (w.heap.size + 1 + 1) (by simp)).below hb1)
 have HB := qq (below_then (bel_alloc (bel_alloc (bel_alloc (Below.refl w.heap.size w) _) _) _) hb1)
 have z1 := HB.out.size
 clear hb1
 have o4K1 := K1.out.lt; have o4K2 := K2.out.lt; have o4K3 := K3.out.lt
 obtain ⟨lK1, qK1, fK1⟩ := K1.out
 obtain ⟨lK2, qK2, fK2⟩ := K2.out
 obtain ⟨lK3, qK3, fK3⟩ := K3.out
 go_wp2_with fail
 clear qK1 fK1 lK1 qK2 fK2 lK2 qK3 fK3 lK3
 refine (HD.out _ (bel_alloc HB.out _)).mono ?_
 rintro e w2 ⟨rfl, hb2⟩
 have K1 := qq ((K1.out.alloc _).below hb2)
 have K3 := qq ((K3.out.alloc _).below hb2)
 have K4 := qq ((Blk.fresh _ _ _ (w1.heap.size) (by simp)).below hb2)
 have HB := qq (below_then (bel_alloc HB.out _) hb2)
 have z2 := HB.out.size
 clear hb2
 have o5K1 := K1.out.lt; have o5K3 := K3.out.lt; have o5K4 := K4.out.lt
 obtain ⟨lK1, qK1, fK1⟩ := K1.out
 obtain ⟨lK3, qK3, fK3⟩ := K3.out
 obtain ⟨lK4, qK4, fK4⟩ := K4.out
 go_wp2_with fail
 clear qK1 fK1 lK1 qK3 fK3 lK3 qK4 fK4 lK4
 refine reg_start (fun w' => Blk w' _ _ ∧ Blk w' _ _ ∧ Blk w' _ _ ∧ Blk w' _ _ ∧ Below w.heap.size w w') (by kernel_rfl) ⟨((((((((((K1.out.other (p := ⟨w1.heap.size, 0, none⟩) (by (try dsimp only); omega) _).other (p := ⟨w1.heap.size, 1, none⟩) (by (try dsimp only); omega) _).other (p := ⟨w1.heap.size, 2, none⟩) (by (try dsimp only); omega) _).other (p := ⟨w1.heap.size, 3, none⟩) (by (try dsimp only); omega) _).other (p := ⟨w1.heap.size, 4, none⟩) (by (try dsimp only); omega) _).other (p := ⟨w1.heap.size, 5, none⟩) (by (try dsimp only); omega) _).other (p := ⟨w1.heap.size, 6, none⟩) (by (try dsimp only); omega) _).other (p := ⟨w1.heap.size, 7, none⟩) (by (try dsimp only); omega) _).alloc _).alloc _).drew, ((((((((((K3.out.other (p := ⟨w1.heap.size, 0, none⟩) (by (try dsimp only); omega) _).other (p := ⟨w1.heap.size, 1, none⟩) (by (try dsimp only); omega) _).other (p := ⟨w1.heap.size, 2, none⟩) (by (try dsimp only); omega) _).other (p := ⟨w1.heap.size, 3, none⟩) (by (try dsimp only); omega) _).other (p := ⟨w1.heap.size, 4, none⟩) (by (try dsimp only); omega) _).other (p := ⟨w1.heap.size, 5, none⟩) (by (try dsimp only); omega) _).other (p := ⟨w1.heap.size, 6, none⟩) (by (try dsimp only); omega) _).other (p := ⟨w1.heap.size, 7, none⟩) (by (try dsimp only); omega) _).alloc _).alloc _).drew, ((((((((((K4.out.set' 0 (by simp) _).set' 1 (by simp) _).set' 2 (by simp) _).set' 3 (by simp) _).set' 4 (by simp) _).set' 5 (by simp) _).set' 6 (by simp) _).set' 7 (by simp) _).alloc _).alloc _).drew, (Blk.fresh _ _ _ (w2.heap.size + 1) (by simp)).drew, (bel_drew (bel_alloc (bel_alloc (bel_set (bel_set (bel_set (bel_set (bel_set (bel_set (bel_set (bel_set HB.out (p := ⟨w1.heap.size, 0, none⟩) (by (try dsimp only); omega) _) (p := ⟨w1.heap.size, 1, none⟩) (by (try dsimp only); omega) _) (p := ⟨w1.heap.size, 2, none⟩) (by (try dsimp only); omega) _) (p := ⟨w1.heap.size, 3, none⟩) (by (try dsimp only); omega) _) (p := ⟨w1.heap.size, 4, none⟩) (by (try dsimp only); omega) _) (p := ⟨w1.heap.size, 5, none⟩) (by (try dsimp only); omega) _) (p := ⟨w1.heap.size, 6, none⟩) (by (try dsimp only); omega) _) (p := ⟨w1.heap.size, 7, none⟩) (by (try dsimp only); omega) _) _) _))⟩ ?_
 rintro w3 hHeld
 obtain ⟨K1', K3', K4', K6', HB'⟩ := id hHeld
 have K1 := qq K1'; have K3 := qq K3'; have K4 := qq K4'; have K6 := qq K6'; have HB := qq HB'; clear K1' K3' K4' K6' HB'
 have z3 := HB.out.size
 refine takeM (d := some 47) 0 rfl rfl hHeld (fun w' _ => by go_simp; (try rfl)) ?_
 simp only [puts]
 refine takeM (d := some 48) 1 rfl rfl hHeld (fun w' hS' => by have qA := hS'.2.2.2.1.cell; clear hS'; go_simp; (try rfl)) ?_
 simp only [puts]
 refine takeM (d := some 49) 2 rfl rfl hHeld (fun w' hS' => by have qA := hS'.1.cell; clear hS'; go_simp; (try rfl)) ?_
 simp only [puts]
 refine takeM (d := some 50) 3 rfl rfl hHeld (fun w' _ => by go_simp; (try rfl)) ?_
 simp only [puts]
 refine takeM (d := some 51) 4 rfl rfl hHeld (fun w' hS' => by have qA := hS'.2.2.1.cell; clear hS'; go_simp; (try rfl)) ?_
 simp only [puts]
 refine one_M 5 (by kernel_rfl) ?_
 refine wpOp_call (d := some 52) 5 172 _ _ [.agg #[rn, rp, sp, sd, ss, sh, an, aq, oc, dp, .float .f64 ex, pa, de, .slice va vn vc, nd, rg], .agg #[lp, ld, ls, lh]] rfl rfl rfl (enters_of Tryz.func172 (by kernel_rfl) rfl) (by rfl) (by rfl) ?_
 refine (lseated_of rn rp sp sd ss sh an aq oc dp ex pa de va vn vc nd rg lp ld ls lh _).mono ?_
 rintro e w4 ⟨rfl, hb4⟩
 clear hHeld
 have K1 := qq (K1.out.below hb4)
 have K3 := qq (K3.out.below hb4)
 have K4 := qq (K4.out.below hb4)
 have K6 := qq (K6.out.below hb4)
 have HB := qq (below_then HB.out hb4)
 have z4 := HB.out.size
 clear hb4
 (try dsimp only [factV, factC, fSeat])
 refine ret_S ⟨K1.out, K3.out, K4.out, K6.out, HB.out⟩ (fun hHeld => ?_)
 simp only [puts]
 refine one_M 6 (by kernel_rfl) ?_
 have o7K1 := K1.out.lt; have o7K3 := K3.out.lt; have o7K4 := K4.out.lt; have o7K6 := K6.out.lt
 refine new_S (d := some 53) 6 (.slice (some ⟨w4.heap.size, 0, none⟩) 1 1) #[.int .i64 3, .int .i64 an, .int .i64 aq, .int .i64 rg, .int .i64 0, .int .i64 0, .int .i64 0, .int .i64 0, .int .i64 0, .int .i64 0, .int .i64 ls, .int .i64 lh, .int .i64 0, .float .f64 0] 39 rfl rfl (by go_simp) ⟨(K1.out.alloc _), (K3.out.alloc _), (K4.out.alloc _), (K6.out.alloc _), (bel_alloc HB.out _)⟩ ?_
 clear hHeld
 rintro w5 hHeld
 obtain ⟨⟨K1', K3', K4', K6', HB'⟩, K7', RK7'⟩ := id hHeld
 have K1 := qq K1'; have K3 := qq K3'; have K4 := qq K4'; have K6 := qq K6'; have HB := qq HB'; have K7 := qq K7'; have RK7 := qq RK7'; clear K1' K3' K4' K6' HB' K7' RK7'
 have z5 := HB.out.size
 have y5 := RK7.out.size
 simp only [puts]
 refine one_M 7 (by kernel_rfl) ?_
 refine app_M (d := some 54) 7 (.tmp 48) (.tmp 53) 22 rfl 39 14 112 [.int .i64 3, .int .i64 an, .int .i64 aq, .int .i64 rg, .int .i64 0, .int .i64 0, .int .i64 0, .int .i64 0, .int .i64 0, .int .i64 0, .int .i64 ls, .int .i64 lh, .int .i64 0, .float .f64 0] _ _ _ (by rfl) (by kernel_rfl) (by kernel_rfl) (by rfl) (by rfl) (by rfl) (lit_cells K7.out) (by simp [Value.oneCell']) ⟨by decide, rfl⟩ (by decide) (fun w' hb6 => ⟨⟨(K1.out.below hb6), (K3.out.below hb6), (K4.out.below hb6), (K6.out.below hb6), (below_then HB.out hb6)⟩, (K7.out.below hb6), (below_then RK7.out hb6)⟩) ?_
 clear hHeld
 rintro gA77 cA77 w6 hHeld
 obtain ⟨⟨⟨K1', K3', K4', K6', HB'⟩, K7', RK7'⟩, A77', RA77'⟩ := id hHeld
 have K1 := qq K1'; have K3 := qq K3'; have K4 := qq K4'; have K6 := qq K6'; have HB := qq HB'; have K7 := qq K7'; have A77 := qq A77'; have RK7 := qq RK7'; have RA77 := qq RA77'; clear K1' K3' K4' K6' HB' K7' A77' RK7' RA77'
 have z6 := HB.out.size
 have y6 := RA77.out.size
 simp only [puts]
 refine takeM (d := some 55) 8 rfl rfl hHeld (fun w' _ => by go_simp; (try rfl)) ?_
 simp only [puts]
 obtain ⟨lK1, qK1, fK1⟩ := K1.out
 obtain ⟨lK3, qK3, fK3⟩ := K3.out
 obtain ⟨lK4, qK4, fK4⟩ := K4.out
 obtain ⟨lK6, qK6, fK6⟩ := K6.out
 obtain ⟨lK7, qK7, fK7⟩ := K7.out
 refine last_S 9 (w6.setCell ⟨w2.heap.size + 1, 0, none⟩ (.slice gA77 1 cA77)) rfl rfl (by go_simp) ?_
 clear hHeld
 clear qK1 fK1 lK1 qK3 fK3 lK3 qK4 fK4 lK4 qK6 fK6 lK6 qK7 fK7 lK7
 (try simp only [puts])
 obtain ⟨lK1, qK1, fK1⟩ := K1.out
 obtain ⟨lK3, qK3, fK3⟩ := K3.out
 obtain ⟨lK4, qK4, fK4⟩ := K4.out
 obtain ⟨lK6, qK6, fK6⟩ := K6.out
 obtain ⟨lK7, qK7, fK7⟩ := K7.out
 go_wp2_with fail
 clear qK1 fK1 lK1 qK3 fK3 lK3 qK4 fK4 lK4 qK6 fK6 lK6 qK7 fK7 lK7
 refine reg_start (fun w' => Blk w' _ _ ∧ Blk w' _ _ ∧ Blk w' _ _ ∧ Blk w' _ _ ∧ World.ownsRow w' _ _ _ _ _ _ ∧ Below w.heap.size w w') (by kernel_rfl) ⟨(K1.out.other (p := ⟨w2.heap.size + 1, 0, none⟩) (by (try dsimp only); omega) _).drew, (K3.out.other (p := ⟨w2.heap.size + 1, 0, none⟩) (by (try dsimp only); omega) _).drew, (K4.out.other (p := ⟨w2.heap.size + 1, 0, none⟩) (by (try dsimp only); omega) _).drew, (K6.out.set' 0 (by simp) _).drew, (row_dr (row_st A77.out (p := ⟨w2.heap.size + 1, 0, none⟩) (by (try dsimp only); omega) _)), (bel_drew (bel_set HB.out (p := ⟨w2.heap.size + 1, 0, none⟩) (by (try dsimp only); omega) _))⟩ ?_
 rintro w7 hHeld
 obtain ⟨K1', K3', K4', K6', A77', HB'⟩ := id hHeld
 have K1 := qq K1'; have K3 := qq K3'; have K4 := qq K4'; have K6 := qq K6'; have A77 := qq A77'; have HB := qq HB'; clear K1' K3' K4' K6' A77' HB'
 have z7 := HB.out.size
 refine takeM (d := some 59) 0 rfl rfl hHeld (fun w' _ => by go_simp; (try rfl)) ?_
 simp only [puts]
 refine takeM (d := some 60) 1 rfl rfl hHeld (fun w' hS' => by have qA := hS'.2.2.2.1.cell; clear hS'; go_simp; (try rfl)) ?_
 simp only [puts]
 refine takeM (d := some 61) 2 rfl rfl hHeld (fun w' hS' => by have qA := hS'.1.cell; clear hS'; go_simp; (try rfl)) ?_
 simp only [puts]
 refine takeM (d := some 62) 3 rfl rfl hHeld (fun w' _ => by go_simp; (try rfl)) ?_
 simp only [puts]
 refine takeM (d := some 63) 4 rfl rfl hHeld (fun w' hS' => by have qA := hS'.2.2.1.cell; clear hS'; go_simp; (try rfl)) ?_
 simp only [puts]
 refine one_M 5 (by kernel_rfl) ?_
 refine wpOp_call (d := some 64) 5 168 _ _ [.agg #[rn, rp, sp, sd, ss, sh, an, aq, oc, dp, .float .f64 ex, pa, de, .slice va vn vc, nd, rg], .int .i64 lsd] rfl rfl rfl (enters_of Tryz.func168 (by kernel_rfl) rfl) (by rfl) (by rfl) ?_
 refine (lmsg_of rn rp sp sd ss sh an aq oc dp ex pa de va vn vc nd rg lsd _).mono ?_
 rintro e w8 ⟨rfl, hb8⟩
 clear hHeld
 have K1 := qq (K1.out.below hb8)
 have K3 := qq (K3.out.below hb8)
 have K4 := qq (K4.out.below hb8)
 have K6 := qq (K6.out.below hb8)
 have A77 := qq (row_be A77.out hb8)
 have HB := qq (below_then HB.out hb8)
 have z8 := HB.out.size
 clear hb8
 (try dsimp only [msgV, msgA])
 refine ret_S ⟨K1.out, K3.out, K4.out, K6.out, A77.out, HB.out⟩ (fun hHeld => ?_)
 simp only [puts]
 refine one_M 6 (by kernel_rfl) ?_
 have o8K1 := K1.out.lt; have o8K3 := K3.out.lt; have o8K4 := K4.out.lt; have o8K6 := K6.out.lt
 refine new_S (d := some 65) 6 (.slice (some ⟨w8.heap.size, 0, none⟩) 1 1) #[.int .i64 lsd, .int .i64 nd, .int .i64 rn, .int .i64 an, .int .i64 aq, .int .i64 rg, .int .i64 rp, .int .i64 0, .int .i64 0] 81 rfl rfl (by go_simp) ⟨(K1.out.alloc _), (K3.out.alloc _), (K4.out.alloc _), (K6.out.alloc _), (row_al A77.out _), (bel_alloc HB.out _)⟩ ?_
 clear hHeld
 rintro w9 hHeld
 obtain ⟨⟨K1', K3', K4', K6', A77', HB'⟩, K8', RK8'⟩ := id hHeld
 have K1 := qq K1'; have K3 := qq K3'; have K4 := qq K4'; have K6 := qq K6'; have A77 := qq A77'; have HB := qq HB'; have K8 := qq K8'; have RK8 := qq RK8'; clear K1' K3' K4' K6' A77' HB' K8' RK8'
 have z9 := HB.out.size
 have y9 := RK8.out.size
 simp only [puts]
 refine one_M 7 (by kernel_rfl) ?_
 refine app_M (d := some 66) 7 (.tmp 60) (.tmp 65) 85 rfl 81 9 72 [.int .i64 lsd, .int .i64 nd, .int .i64 rn, .int .i64 an, .int .i64 aq, .int .i64 rg, .int .i64 rp, .int .i64 0, .int .i64 0] _ _ _ (by rfl) (by kernel_rfl) (by kernel_rfl) (by rfl) (by rfl) (by rfl) (lit_cells K8.out) (by simp [Value.oneCell']) ⟨by decide, rfl⟩ (by decide) (fun w' hb10 => ⟨⟨(K1.out.below hb10), (K3.out.below hb10), (K4.out.below hb10), (K6.out.below hb10), (row_be A77.out hb10), (below_then HB.out hb10)⟩, (K8.out.below hb10), (below_then RK8.out hb10)⟩) ?_
 clear hHeld
 rintro gA87 cA87 w10 hHeld
 obtain ⟨⟨⟨K1', K3', K4', K6', A77', HB'⟩, K8', RK8'⟩, A87', RA87'⟩ := id hHeld
 have K1 := qq K1'; have K3 := qq K3'; have K4 := qq K4'; have K6 := qq K6'; have A77 := qq A77'; have HB := qq HB'; have K8 := qq K8'; have A87 := qq A87'; have RK8 := qq RK8'; have RA87 := qq RA87'; clear K1' K3' K4' K6' A77' HB' K8' A87' RK8' RA87'
 have z10 := HB.out.size
 have y10 := RA87.out.size
 simp only [puts]
 refine takeM (d := some 67) 8 rfl rfl hHeld (fun w' _ => by go_simp; (try rfl)) ?_
 simp only [puts]
 obtain ⟨lK1, qK1, fK1⟩ := K1.out
 obtain ⟨lK3, qK3, fK3⟩ := K3.out
 obtain ⟨lK4, qK4, fK4⟩ := K4.out
 obtain ⟨lK6, qK6, fK6⟩ := K6.out
 obtain ⟨lK8, qK8, fK8⟩ := K8.out
 refine last_S 9 (w10.setCell ⟨w2.heap.size + 1, 1, none⟩ (.slice gA87 1 cA87)) rfl rfl (by go_simp) ?_
 clear hHeld
 clear qK1 fK1 lK1 qK3 fK3 lK3 qK4 fK4 lK4 qK6 fK6 lK6 qK8 fK8 lK8
 (try simp only [puts])
 obtain ⟨lK1, qK1, fK1⟩ := K1.out
 obtain ⟨lK3, qK3, fK3⟩ := K3.out
 obtain ⟨lK4, qK4, fK4⟩ := K4.out
 obtain ⟨lK6, qK6, fK6⟩ := K6.out
 obtain ⟨lK8, qK8, fK8⟩ := K8.out
 go_wp2_with fail
 have hV0 := ((((K3.out.other (p := ⟨w2.heap.size + 1, 1, none⟩) (by (try dsimp only); omega) (.slice gA87 1 cA87)).set' 0 (by simp) (.slice gA77 1 cA77)).set' 1 (by simp) (.slice gA87 1 cA87)).set' 2 (by simp) (.int .i64 0))
 have hVq0 := hV0.cell; have hVf0 := hV0.free
 refine bodyPost_ret (v := .agg #[.slice gA77 1 cA77, .slice gA87 1 cA87, .int .i64 0]) (by simp [results, Tryz.results166, go_sem, hVq0, hVf0]) rfl ?_
 clear qK1 fK1 lK1 qK3 fK3 lK3 qK4 fK4 lK4 qK6 fK6 lK6 qK8 fK8 lK8
 exact ⟨gA77, cA77, gA87, cA87, rfl, ⟨(read_row (fs := [fSeat an aq rg ls lh]) (row_st (row_st (row_st (row_st A77.out (p := ⟨w2.heap.size + 1, 1, none⟩) (by (try dsimp only); omega) (.slice gA87 1 cA87)) (p := ⟨w.heap.size + 1 + 1, 0, none⟩) (by (try dsimp only); omega) (.slice gA77 1 cA77)) (p := ⟨w.heap.size + 1 + 1, 1, none⟩) (by (try dsimp only); omega) (.slice gA87 1 cA87)) (p := ⟨w.heap.size + 1 + 1, 2, none⟩) (by (try dsimp only); omega) (.int .i64 0))).1, (read_mrow (ms := [⟨lsd, nd, rn, an, aq, rg, rp, 0, 0⟩]) (row_st (row_st (row_st (row_st A87.out (p := ⟨w2.heap.size + 1, 1, none⟩) (by (try dsimp only); omega) (.slice gA87 1 cA87)) (p := ⟨w.heap.size + 1 + 1, 0, none⟩) (by (try dsimp only); omega) (.slice gA77 1 cA77)) (p := ⟨w.heap.size + 1 + 1, 1, none⟩) (by (try dsimp only); omega) (.slice gA87 1 cA87)) (p := ⟨w.heap.size + 1 + 1, 2, none⟩) (by (try dsimp only); omega) (.int .i64 0))), (fun k hk => Nat.le_trans (by first | omega | (simp; done) | (simp; omega)) (row_sb A77.out k hk)), (fun k hk => Nat.le_trans (by first | omega | (simp; done) | (simp; omega)) (row_sb A87.out k hk))⟩, (bel_set (bel_set (bel_set (bel_set HB.out (p := ⟨w2.heap.size + 1, 1, none⟩) (by (try dsimp only); omega) _) (p := ⟨w.heap.size + 1 + 1, 0, none⟩) (by (try dsimp only); omega) _) (p := ⟨w.heap.size + 1 + 1, 1, none⟩) (by (try dsimp only); omega) _) (p := ⟨w.heap.size + 1 + 1, 2, none⟩) (by (try dsimp only); omega) _)⟩
def upMore (x : MSeat) (k : Int) : Bool :=
 (mTell x k).2 == 0 && decide ((mTell x k).1.send = 0 ∨ (mTell x k).1.fault = 0) &&
 (if (mTell x k).1.ch = true ∧ (mTell x k).1.seat.s = 5 then (mDo (mTell x k).1.seat 11).2 == 0 && (mDo (mTell x k).1.seat 11).1.ch && (mDo (mTell x k).1.seat 11).1.send != 0 && (mDo (mTell x k).1.seat 11).1.fault == 0 else true)
theorem upMore_all : (seatList.all fun x => x.d == 2 || !mRight x || ([1, 3, 4, 5, 6, 7, 8] : List Int).all fun k => upMore x k) = true := by decide +kernel
theorem upMore_in {x : MSeat} {k : Int} (h : mRight x = true) (hd : x.d = 1) (hk : isUp k = true) : upMore x k = true := by
 have h1 := List.all_eq_true.1 upMore_all x (seat_mem h)
 rw [h, hd] at h1
 have hkm : k ∈ ([1, 3, 4, 5, 6, 7, 8] : List Int) := by
  have : k = 1 ∨ 3 ≤ k ∧ k ≤ 8 := by simpa [isUp] using hk
  simp; omega
 exact List.all_eq_true.1 (show (([1, 3, 4, 5, 6, 7, 8] : List Int).all fun k => upMore x k) = true by simpa using h1) k hkm
theorem lup_of (S : Sto) (a : SAct) (r : SReg) (mk fr tq man maq mrg mpt mpr mco : Int) (va : Option Addr) (vn vc : Nat) (nd : Int) (hnd : nd = S.node) (ea : Int → Addr) (w : World) (hE : EnvS ea w) (hr : mRight r.seat = true) (hd : r.seat.d = 1) (hk : isUp mk = true) :
    Calls Tryz.prog 166 #[.agg #[r.n, r.p, r.seat.p, r.seat.d, r.seat.s, r.seat.h, a.an, a.aq, a.oc, a.dp, .float .f64 a.ex, a.pa, a.de, .slice va vn vc, nd, mrg], .agg #[mk, fr, tq, man, maq, mrg, mpt, mpr, mco]] w (ResR (lUp S a r ⟨mk, fr, tq, man, maq, mrg, mpt, mpr, mco⟩) w) := by
 subst hnd
 have hm := upMore_in hr hd hk
 unfold upMore at hm
 simp only [Bool.and_eq_true, beq_iff_eq, decide_eq_true_eq] at hm
 obtain ⟨⟨m1, m2⟩, m3⟩ := hm
 have hT : ∀ W, Below w.heap.size w W → _ := fun W hW => tell_of r.seat mk ea W (hE.below hW).err3
 rw [m1] at hT
 rw [show errOf ea 0 = .nilIface from rfl] at hT
 unfold lUp
 rw [if_neg (by simpa using m1)]
 by_cases hl : (mTell r.seat mk).1.ch = true ∧ (mTell r.seat mk).1.seat.s = 5 ∧ a.de = 2
 · have he : lEff r.seat a.de mk = (mDo (mTell r.seat mk).1.seat 11).1 := if_pos hl
   rw [if_pos ⟨hl.1, hl.2.1⟩] at m3
   simp only [Bool.and_eq_true, beq_iff_eq, bne_iff_ne, ne_eq] at m3
   obtain ⟨⟨⟨d1, d2⟩, d3⟩, d4⟩ := m3
   have hD : ∀ W, Below w.heap.size w W → _ := fun W hW => do_of (mTell r.seat mk).1.seat 11 ea W (hE.below hW).err3 (hE.e.e9.below hW)
   rw [d1] at hD
   rw [show errOf ea 0 = .nilIface from rfl] at hD
   dsimp only [effV, seatV] at hT hD
   rw [hl.1] at hT
   rw [d2, d4] at hD
   rw [he]
   simp only [d2, if_true, d3, ne_eq, not_false_eq_true, d4, not_true_eq_false, if_false, List.append_nil, lMsg]
   exact lup_late r.n r.p r.seat.p r.seat.d r.seat.s r.seat.h a.an a.aq a.oc a.dp a.ex a.pa a.de va vn vc S.node mrg mk fr tq man maq mrg mpt mpr mco (mTell r.seat mk).1.seat.p (mTell r.seat mk).1.seat.d (mTell r.seat mk).1.seat.s (mTell r.seat mk).1.seat.h (mTell r.seat mk).1.send (mTell r.seat mk).1.fault (mTell r.seat mk).1.work (mDo (mTell r.seat mk).1.seat 11).1.seat.p (mDo (mTell r.seat mk).1.seat 11).1.seat.d (mDo (mTell r.seat mk).1.seat 11).1.seat.s (mDo (mTell r.seat mk).1.seat 11).1.seat.h (mDo (mTell r.seat mk).1.seat 11).1.send (mDo (mTell r.seat mk).1.seat 11).1.work w hT hD (by simpa using hl.2.1) (by simpa using hl.2.2) (by simpa using d3)
 · have he : lEff r.seat a.de mk = (mTell r.seat mk).1 := if_neg hl
   rw [he]
   dsimp only [effV, seatV] at hT
   cases hc : (mTell r.seat mk).1.ch with
   | false =>
    rw [hc] at hT
    by_cases hs : (mTell r.seat mk).1.send = 0
    · by_cases hf : (mTell r.seat mk).1.fault = 0
      · simp only [hc, Bool.false_eq_true, if_false, hs, ne_eq, not_true_eq_false, hf, List.append_nil]
        exact lup_n0 r.n r.p r.seat.p r.seat.d r.seat.s r.seat.h a.an a.aq a.oc a.dp a.ex a.pa a.de va vn vc S.node mrg mk fr tq man maq mrg mpt mpr mco (mTell r.seat mk).1.seat.p (mTell r.seat mk).1.seat.d (mTell r.seat mk).1.seat.s (mTell r.seat mk).1.seat.h (mTell r.seat mk).1.send (mTell r.seat mk).1.fault (mTell r.seat mk).1.work w hT (by simp [hs]) (by simp [hf])
      · simp only [hc, Bool.false_eq_true, if_false, hs, ne_eq, not_true_eq_false, hf, not_false_eq_true, if_true, List.nil_append]
        exact lup_n2 r.n r.p r.seat.p r.seat.d r.seat.s r.seat.h a.an a.aq a.oc a.dp a.ex a.pa a.de va vn vc S.node mrg mk fr tq man maq mrg mpt mpr mco (mTell r.seat mk).1.seat.p (mTell r.seat mk).1.seat.d (mTell r.seat mk).1.seat.s (mTell r.seat mk).1.seat.h (mTell r.seat mk).1.send (mTell r.seat mk).1.fault (mTell r.seat mk).1.work w hT (by simp [hs]) (by simp [hf])
    · have hf := m2.resolve_left hs
      simp only [hc, Bool.false_eq_true, if_false, hs, ne_eq, not_false_eq_true, if_true, hf, not_true_eq_false, List.append_nil, lMsg]
      exact lup_n1 r.n r.p r.seat.p r.seat.d r.seat.s r.seat.h a.an a.aq a.oc a.dp a.ex a.pa a.de va vn vc S.node mrg mk fr tq man maq mrg mpt mpr mco (mTell r.seat mk).1.seat.p (mTell r.seat mk).1.seat.d (mTell r.seat mk).1.seat.s (mTell r.seat mk).1.seat.h (mTell r.seat mk).1.send (mTell r.seat mk).1.fault (mTell r.seat mk).1.work w hT (by simp [hs]) (by simp [hf])
   | true =>
    rw [hc] at hT
    have h52 : ((mTell r.seat mk).1.seat.s == 5) = false ∨ ((mTell r.seat mk).1.seat.s == 5) = true ∧ (a.de == 2) = false := by
     by_cases h5 : (mTell r.seat mk).1.seat.s = 5
     · exact .inr ⟨by simpa using h5, by simpa using fun h2 => hl ⟨hc, h5, h2⟩⟩
     · exact .inl (by simpa using h5)
    by_cases hs : (mTell r.seat mk).1.send = 0
    · by_cases hf : (mTell r.seat mk).1.fault = 0
      · simp only [hc, if_true, hs, ne_eq, not_true_eq_false, hf, List.append_nil, if_false]
        exact lup_c0 r.n r.p r.seat.p r.seat.d r.seat.s r.seat.h a.an a.aq a.oc a.dp a.ex a.pa a.de va vn vc S.node mrg mk fr tq man maq mrg mpt mpr mco (mTell r.seat mk).1.seat.p (mTell r.seat mk).1.seat.d (mTell r.seat mk).1.seat.s (mTell r.seat mk).1.seat.h (mTell r.seat mk).1.send (mTell r.seat mk).1.fault (mTell r.seat mk).1.work w hT h52 (by simp [hs]) (by simp [hf])
      · simp only [hc, if_true, hs, ne_eq, not_true_eq_false, hf, not_false_eq_true, if_false, List.nil_append]
        exact lup_c2 r.n r.p r.seat.p r.seat.d r.seat.s r.seat.h a.an a.aq a.oc a.dp a.ex a.pa a.de va vn vc S.node mrg mk fr tq man maq mrg mpt mpr mco (mTell r.seat mk).1.seat.p (mTell r.seat mk).1.seat.d (mTell r.seat mk).1.seat.s (mTell r.seat mk).1.seat.h (mTell r.seat mk).1.send (mTell r.seat mk).1.fault (mTell r.seat mk).1.work w hT h52 (by simp [hs]) (by simp [hf])
    · have hf := m2.resolve_left hs
      simp only [hc, if_true, hs, ne_eq, not_false_eq_true, hf, not_true_eq_false, List.append_nil, if_false, lMsg]
      exact lup_c1 r.n r.p r.seat.p r.seat.d r.seat.s r.seat.h a.an a.aq a.oc a.dp a.ex a.pa a.de va vn vc S.node mrg mk fr tq man maq mrg mpt mpr mco (mTell r.seat mk).1.seat.p (mTell r.seat mk).1.seat.d (mTell r.seat mk).1.seat.s (mTell r.seat mk).1.seat.h (mTell r.seat mk).1.send (mTell r.seat mk).1.fault (mTell r.seat mk).1.work w hT h52 (by simp [hs]) (by simp [hf])
end Go.Proofs.YtlkajejbfojkeaaGreatDoor
