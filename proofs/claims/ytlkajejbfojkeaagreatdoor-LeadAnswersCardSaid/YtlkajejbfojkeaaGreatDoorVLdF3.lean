/- LdF3 -/
import Derived.Test.YtlkajejbfojkeaaGreatDoorVLdBToStepM
set_option linter.unusedSimpArgs false
set_option linter.unusedVariables false
set_option maxRecDepth 100000
set_option maxHeartbeats 16000000
namespace Go.Proofs.YtlkajejbfojkeaaGreatDoor
open Go.RowKit
attribute [local go_sem] store_float
theorem lup_c1 (rn rp sp sd ss sh an aq oc dp : Int) (ex : Nat) (pa de : Int) (va : Option Addr) (vn vc : Nat) (nd rg : Int) (mk fr tq man maq mrg mpt mpr mco : Int) (ep ed es eh sd' ft wk : Int) (w : World) (hT : ∀ W, Below w.heap.size w W → Calls Tryz.prog 219 #[.agg #[sp, sd, ss, sh], .int .i64 mk] W (Makes (.tuple #[.agg #[ep, ed, es, eh, sd', ft, wk, .bool true], .nilIface]) W)) (h52 : (es == 5) = false ∨ (es == 5) = true ∧ (de == 2) = false) (h6 : (sd' != 0) = true) (h7 : (ft != 0) = false) :
    Calls Tryz.prog 166 #[.agg #[rn, rp, sp, sd, ss, sh, an, aq, oc, dp, .float .f64 ex, pa, de, .slice va vn vc, nd, rg], .agg #[mk, fr, tq, man, maq, mrg, mpt, mpr, mco]] w (ResR ⟨[fSeat an aq rg es eh], [⟨sd', nd, rn, an, aq, rg, rp, 0, 0⟩], 0⟩ w) := by
 have HT := qq hT
 clear hT
 rcases h52 with h5 | ⟨h5, h2⟩
 all_goals
  go_enter Tryz.func166, Tryz.ntmps166
  go_wp2_with fail
  refine (HT.out _ (bel_alloc (bel_alloc (bel_alloc (Below.refl w.heap.size w) _) _) _)).mono ?_
  rintro e w1 ⟨rfl, hb1⟩
  have K1 := qq ((((Blk.fresh _ _ _ (w.heap.size) (by simp)).alloc _).alloc _).below hb1)
  have K2 := qq (((Blk.fresh _ _ _ (w.heap.size + 1) (by simp)).alloc _).below hb1)
  have K3 := qq ((Blk.fresh _ _ _ (w.heap.size + 1 + 1) (by simp)).below hb1)
  have HB := qq (below_then (bel_alloc (bel_alloc (bel_alloc (Below.refl w.heap.size w) _) _) _) hb1)
  have z1 := HB.out.size
  clear hb1
  have o4K1 := K1.out.lt; have o4K2 := K2.out.lt; have o4K3 := K3.out.lt
  obtain ⟨lK1, qK1, fK1⟩ := K1.out
  obtain ⟨lK2, qK2, fK2⟩ := K2.out
  obtain ⟨lK3, qK3, fK3⟩ := K3.out
  go_wp2_with fail
  clear qK1 fK1 lK1 qK2 fK2 lK2 qK3 fK3 lK3
  refine reg_start (fun w' => Blk w' _ _ ∧ Blk w' _ _ ∧ Blk w' _ _ ∧ Blk w' _ _ ∧ Below w.heap.size w w') (by kernel_rfl) ⟨((K1.out.alloc _).alloc _).drew, ((K3.out.alloc _).alloc _).drew, ((Blk.fresh _ _ _ (w1.heap.size) (by simp)).alloc _).drew, (Blk.fresh _ _ _ (w1.heap.size + 1) (by simp)).drew, (bel_drew (bel_alloc (bel_alloc HB.out _) _))⟩ ?_
  rintro w2 hHeld
  obtain ⟨K1', K3', K4', K5', HB'⟩ := id hHeld
  have K1 := qq K1'; have K3 := qq K3'; have K4 := qq K4'; have K5 := qq K5'; have HB := qq HB'; clear K1' K3' K4' K5' HB'
  have z2 := HB.out.size
  refine takeM (d := some 47) 0 rfl rfl hHeld (fun w' _ => by go_simp; (try rfl)) ?_
  simp only [puts]
  refine takeM (d := some 48) 1 rfl rfl hHeld (fun w' hS' => by have qA := hS'.2.2.2.1.cell; clear hS'; go_simp; (try rfl)) ?_
  simp only [puts]
  refine takeM (d := some 49) 2 rfl rfl hHeld (fun w' hS' => by have qA := hS'.1.cell; clear hS'; go_simp; (try rfl)) ?_
  simp only [puts]
  refine takeM (d := some 50) 3 rfl rfl hHeld (fun w' _ => by go_simp; (try rfl)) ?_
  simp only [puts]
  refine takeM (d := some 51) 4 rfl rfl hHeld (fun w' hS' => by have qA := hS'.2.2.1.cell; clear hS'; go_simp; (try rfl)) ?_
  simp only [puts]
  refine one_M 5 (by kernel_rfl) ?_
  refine wpOp_call (d := some 52) 5 172 _ _ [.agg #[rn, rp, sp, sd, ss, sh, an, aq, oc, dp, .float .f64 ex, pa, de, .slice va vn vc, nd, rg], .agg #[ep, ed, es, eh]] rfl rfl rfl (enters_of Tryz.func172 (by kernel_rfl) rfl) (by rfl) (by rfl) ?_
  refine (lseated_of rn rp sp sd ss sh an aq oc dp ex pa de va vn vc nd rg ep ed es eh _).mono ?_
  rintro e w3 ⟨rfl, hb3⟩
  clear hHeld
  have K1 := qq (K1.out.below hb3)
  have K3 := qq (K3.out.below hb3)
  have K4 := qq (K4.out.below hb3)
  have K5 := qq (K5.out.below hb3)
  have HB := qq (below_then HB.out hb3)
  have z3 := HB.out.size
  clear hb3
  (try dsimp only [factV, factC, fSeat])
  refine ret_S ⟨K1.out, K3.out, K4.out, K5.out, HB.out⟩ (fun hHeld => ?_)
  simp only [puts]
  refine one_M 6 (by kernel_rfl) ?_
  have o6K1 := K1.out.lt; have o6K3 := K3.out.lt; have o6K4 := K4.out.lt; have o6K5 := K5.out.lt
  refine new_S (d := some 53) 6 (.slice (some ⟨w3.heap.size, 0, none⟩) 1 1) #[.int .i64 3, .int .i64 an, .int .i64 aq, .int .i64 rg, .int .i64 0, .int .i64 0, .int .i64 0, .int .i64 0, .int .i64 0, .int .i64 0, .int .i64 es, .int .i64 eh, .int .i64 0, .float .f64 0] 39 rfl rfl (by go_simp) ⟨(K1.out.alloc _), (K3.out.alloc _), (K4.out.alloc _), (K5.out.alloc _), (bel_alloc HB.out _)⟩ ?_
  clear hHeld
  rintro w4 hHeld
  obtain ⟨⟨K1', K3', K4', K5', HB'⟩, K6', RK6'⟩ := id hHeld
  have K1 := qq K1'; have K3 := qq K3'; have K4 := qq K4'; have K5 := qq K5'; have HB := qq HB'; have K6 := qq K6'; have RK6 := qq RK6'; clear K1' K3' K4' K5' HB' K6' RK6'
  have z4 := HB.out.size
  have y4 := RK6.out.size
  simp only [puts]
  refine one_M 7 (by kernel_rfl) ?_
  refine app_M (d := some 54) 7 (.tmp 48) (.tmp 53) 22 rfl 39 14 112 [.int .i64 3, .int .i64 an, .int .i64 aq, .int .i64 rg, .int .i64 0, .int .i64 0, .int .i64 0, .int .i64 0, .int .i64 0, .int .i64 0, .int .i64 es, .int .i64 eh, .int .i64 0, .float .f64 0] _ _ _ (by rfl) (by kernel_rfl) (by kernel_rfl) (by rfl) (by rfl) (by rfl) (lit_cells K6.out) (by simp [Value.oneCell']) ⟨by decide, rfl⟩ (by decide) (fun w' hb5 => ⟨⟨(K1.out.below hb5), (K3.out.below hb5), (K4.out.below hb5), (K5.out.below hb5), (below_then HB.out hb5)⟩, (K6.out.below hb5), (below_then RK6.out hb5)⟩) ?_
  clear hHeld
  rintro gA67 cA67 w5 hHeld
  obtain ⟨⟨⟨K1', K3', K4', K5', HB'⟩, K6', RK6'⟩, A67', RA67'⟩ := id hHeld
  have K1 := qq K1'; have K3 := qq K3'; have K4 := qq K4'; have K5 := qq K5'; have HB := qq HB'; have K6 := qq K6'; have A67 := qq A67'; have RK6 := qq RK6'; have RA67 := qq RA67'; clear K1' K3' K4' K5' HB' K6' A67' RK6' RA67'
  have z5 := HB.out.size
  have y5 := RA67.out.size
  simp only [puts]
  refine takeM (d := some 55) 8 rfl rfl hHeld (fun w' _ => by go_simp; (try rfl)) ?_
  simp only [puts]
  obtain ⟨lK1, qK1, fK1⟩ := K1.out
  obtain ⟨lK3, qK3, fK3⟩ := K3.out
  obtain ⟨lK4, qK4, fK4⟩ := K4.out
  obtain ⟨lK5, qK5, fK5⟩ := K5.out
  obtain ⟨lK6, qK6, fK6⟩ := K6.out
  refine last_S 9 (w5.setCell ⟨w1.heap.size + 1, 0, none⟩ (.slice gA67 1 cA67)) rfl rfl (by go_simp) ?_
  clear hHeld
  clear qK1 fK1 lK1 qK3 fK3 lK3 qK4 fK4 lK4 qK5 fK5 lK5 qK6 fK6 lK6
  (try simp only [puts])
  obtain ⟨lK1, qK1, fK1⟩ := K1.out
  obtain ⟨lK3, qK3, fK3⟩ := K3.out
  obtain ⟨lK4, qK4, fK4⟩ := K4.out
  obtain ⟨lK5, qK5, fK5⟩ := K5.out
  obtain ⟨lK6, qK6, fK6⟩ := K6.out
  go_wp2_with fail
  clear qK1 fK1 lK1 qK3 fK3 lK3 qK4 fK4 lK4 qK5 fK5 lK5 qK6 fK6 lK6
  refine reg_start (fun w' => Blk w' _ _ ∧ Blk w' _ _ ∧ Blk w' _ _ ∧ Blk w' _ _ ∧ World.ownsRow w' _ _ _ _ _ _ ∧ Below w.heap.size w w') (by kernel_rfl) ⟨(K1.out.other (p := ⟨w1.heap.size + 1, 0, none⟩) (by (try dsimp only); omega) _).drew, (K3.out.other (p := ⟨w1.heap.size + 1, 0, none⟩) (by (try dsimp only); omega) _).drew, (K4.out.other (p := ⟨w1.heap.size + 1, 0, none⟩) (by (try dsimp only); omega) _).drew, (K5.out.set' 0 (by simp) _).drew, (row_dr (row_st A67.out (p := ⟨w1.heap.size + 1, 0, none⟩) (by (try dsimp only); omega) _)), (bel_drew (bel_set HB.out (p := ⟨w1.heap.size + 1, 0, none⟩) (by (try dsimp only); omega) _))⟩ ?_
  rintro w6 hHeld
  obtain ⟨K1', K3', K4', K5', A67', HB'⟩ := id hHeld
  have K1 := qq K1'; have K3 := qq K3'; have K4 := qq K4'; have K5 := qq K5'; have A67 := qq A67'; have HB := qq HB'; clear K1' K3' K4' K5' A67' HB'
  have z6 := HB.out.size
  refine takeM (d := some 59) 0 rfl rfl hHeld (fun w' _ => by go_simp; (try rfl)) ?_
  simp only [puts]
  refine takeM (d := some 60) 1 rfl rfl hHeld (fun w' hS' => by have qA := hS'.2.2.2.1.cell; clear hS'; go_simp; (try rfl)) ?_
  simp only [puts]
  refine takeM (d := some 61) 2 rfl rfl hHeld (fun w' hS' => by have qA := hS'.1.cell; clear hS'; go_simp; (try rfl)) ?_
  simp only [puts]
  refine takeM (d := some 62) 3 rfl rfl hHeld (fun w' _ => by go_simp; (try rfl)) ?_
  simp only [puts]
  refine takeM (d := some 63) 4 rfl rfl hHeld (fun w' hS' => by have qA := hS'.2.2.1.cell; clear hS'; go_simp; (try rfl)) ?_
  simp only [puts]
  refine one_M 5 (by kernel_rfl) ?_
  refine wpOp_call (d := some 64) 5 168 _ _ [.agg #[rn, rp, sp, sd, ss, sh, an, aq, oc, dp, .float .f64 ex, pa, de, .slice va vn vc, nd, rg], .int .i64 (sd')] rfl rfl rfl (enters_of Tryz.func168 (by kernel_rfl) rfl) (by rfl) (by rfl) ?_
  refine (lmsg_of rn rp sp sd ss sh an aq oc dp ex pa de va vn vc nd rg sd' _).mono ?_
  rintro e w7 ⟨rfl, hb7⟩
  clear hHeld
  have K1 := qq (K1.out.below hb7)
  have K3 := qq (K3.out.below hb7)
  have K4 := qq (K4.out.below hb7)
  have K5 := qq (K5.out.below hb7)
  have A67 := qq (row_be A67.out hb7)
  have HB := qq (below_then HB.out hb7)
  have z7 := HB.out.size
  clear hb7
  (try dsimp only [msgV, msgA])
  refine ret_S ⟨K1.out, K3.out, K4.out, K5.out, A67.out, HB.out⟩ (fun hHeld => ?_)
  simp only [puts]
  refine one_M 6 (by kernel_rfl) ?_
  have o7K1 := K1.out.lt; have o7K3 := K3.out.lt; have o7K4 := K4.out.lt; have o7K5 := K5.out.lt
  refine new_S (d := some 65) 6 (.slice (some ⟨w7.heap.size, 0, none⟩) 1 1) #[.int .i64 (sd'), .int .i64 nd, .int .i64 rn, .int .i64 an, .int .i64 aq, .int .i64 rg, .int .i64 rp, .int .i64 0, .int .i64 0] 81 rfl rfl (by go_simp) ⟨(K1.out.alloc _), (K3.out.alloc _), (K4.out.alloc _), (K5.out.alloc _), (row_al A67.out _), (bel_alloc HB.out _)⟩ ?_
  clear hHeld
  rintro w8 hHeld
  obtain ⟨⟨K1', K3', K4', K5', A67', HB'⟩, K7', RK7'⟩ := id hHeld
  have K1 := qq K1'; have K3 := qq K3'; have K4 := qq K4'; have K5 := qq K5'; have A67 := qq A67'; have HB := qq HB'; have K7 := qq K7'; have RK7 := qq RK7'; clear K1' K3' K4' K5' A67' HB' K7' RK7'
  have z8 := HB.out.size
  have y8 := RK7.out.size
  simp only [puts]
  refine one_M 7 (by kernel_rfl) ?_
  refine app_M (d := some 66) 7 (.tmp 60) (.tmp 65) 85 rfl 81 9 72 [.int .i64 (sd'), .int .i64 nd, .int .i64 rn, .int .i64 an, .int .i64 aq, .int .i64 rg, .int .i64 rp, .int .i64 0, .int .i64 0] _ _ _ (by rfl) (by kernel_rfl) (by kernel_rfl) (by rfl) (by rfl) (by rfl) (lit_cells K7.out) (by simp [Value.oneCell']) ⟨by decide, rfl⟩ (by decide) (fun w' hb9 => ⟨⟨(K1.out.below hb9), (K3.out.below hb9), (K4.out.below hb9), (K5.out.below hb9), (row_be A67.out hb9), (below_then HB.out hb9)⟩, (K7.out.below hb9), (below_then RK7.out hb9)⟩) ?_
  clear hHeld
  rintro gA77 cA77 w9 hHeld
  obtain ⟨⟨⟨K1', K3', K4', K5', A67', HB'⟩, K7', RK7'⟩, A77', RA77'⟩ := id hHeld
  have K1 := qq K1'; have K3 := qq K3'; have K4 := qq K4'; have K5 := qq K5'; have A67 := qq A67'; have HB := qq HB'; have K7 := qq K7'; have A77 := qq A77'; have RK7 := qq RK7'; have RA77 := qq RA77'; clear K1' K3' K4' K5' A67' HB' K7' A77' RK7' RA77'
  have z9 := HB.out.size
  have y9 := RA77.out.size
  simp only [puts]
  refine takeM (d := some 67) 8 rfl rfl hHeld (fun w' _ => by go_simp; (try rfl)) ?_
  simp only [puts]
  obtain ⟨lK1, qK1, fK1⟩ := K1.out
  obtain ⟨lK3, qK3, fK3⟩ := K3.out
  obtain ⟨lK4, qK4, fK4⟩ := K4.out
  obtain ⟨lK5, qK5, fK5⟩ := K5.out
  obtain ⟨lK7, qK7, fK7⟩ := K7.out
  refine last_S 9 (w9.setCell ⟨w1.heap.size + 1, 1, none⟩ (.slice gA77 1 cA77)) rfl rfl (by go_simp) ?_
  clear hHeld
  clear qK1 fK1 lK1 qK3 fK3 lK3 qK4 fK4 lK4 qK5 fK5 lK5 qK7 fK7 lK7
  (try simp only [puts])
  obtain ⟨lK1, qK1, fK1⟩ := K1.out
  obtain ⟨lK3, qK3, fK3⟩ := K3.out
  obtain ⟨lK4, qK4, fK4⟩ := K4.out
  obtain ⟨lK5, qK5, fK5⟩ := K5.out
  obtain ⟨lK7, qK7, fK7⟩ := K7.out
  go_wp2_with fail
  have hV0 := ((((K3.out.other (p := ⟨w1.heap.size + 1, 1, none⟩) (by (try dsimp only); omega) (.slice gA77 1 cA77)).set' 0 (by simp) (.slice gA67 1 cA67)).set' 1 (by simp) (.slice gA77 1 cA77)).set' 2 (by simp) (.int .i64 0))
  have hVq0 := hV0.cell; have hVf0 := hV0.free
  refine bodyPost_ret (v := .agg #[.slice gA67 1 cA67, .slice gA77 1 cA77, .int .i64 0]) (by simp [results, Tryz.results166, go_sem, hVq0, hVf0]) rfl ?_
  clear qK1 fK1 lK1 qK3 fK3 lK3 qK4 fK4 lK4 qK5 fK5 lK5 qK7 fK7 lK7
  exact ⟨gA67, cA67, gA77, cA77, rfl, ⟨(read_row (fs := [fSeat an aq rg es eh]) (row_st (row_st (row_st (row_st A67.out (p := ⟨w1.heap.size + 1, 1, none⟩) (by (try dsimp only); omega) (.slice gA77 1 cA77)) (p := ⟨w.heap.size + 1 + 1, 0, none⟩) (by (try dsimp only); omega) (.slice gA67 1 cA67)) (p := ⟨w.heap.size + 1 + 1, 1, none⟩) (by (try dsimp only); omega) (.slice gA77 1 cA77)) (p := ⟨w.heap.size + 1 + 1, 2, none⟩) (by (try dsimp only); omega) (.int .i64 0))).1, (read_mrow (ms := [⟨sd', nd, rn, an, aq, rg, rp, 0, 0⟩]) (row_st (row_st (row_st (row_st A77.out (p := ⟨w1.heap.size + 1, 1, none⟩) (by (try dsimp only); omega) (.slice gA77 1 cA77)) (p := ⟨w.heap.size + 1 + 1, 0, none⟩) (by (try dsimp only); omega) (.slice gA67 1 cA67)) (p := ⟨w.heap.size + 1 + 1, 1, none⟩) (by (try dsimp only); omega) (.slice gA77 1 cA77)) (p := ⟨w.heap.size + 1 + 1, 2, none⟩) (by (try dsimp only); omega) (.int .i64 0))), (fun k hk => Nat.le_trans (by first | omega | (simp; done) | (simp; omega)) (row_sb A67.out k hk)), (fun k hk => Nat.le_trans (by first | omega | (simp; done) | (simp; omega)) (row_sb A77.out k hk))⟩, (bel_set (bel_set (bel_set (bel_set HB.out (p := ⟨w1.heap.size + 1, 1, none⟩) (by (try dsimp only); omega) _) (p := ⟨w.heap.size + 1 + 1, 0, none⟩) (by (try dsimp only); omega) _) (p := ⟨w.heap.size + 1 + 1, 1, none⟩) (by (try dsimp only); omega) _) (p := ⟨w.heap.size + 1 + 1, 2, none⟩) (by (try dsimp only); omega) _)⟩
end Go.Proofs.YtlkajejbfojkeaaGreatDoor
