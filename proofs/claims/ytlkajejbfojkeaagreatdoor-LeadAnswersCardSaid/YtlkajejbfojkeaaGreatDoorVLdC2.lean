/- LdC2 -/
import Derived.Test.YtlkajejbfojkeaaGreatDoorVLdBToStepM
set_option linter.unusedSimpArgs false
set_option linter.unusedVariables false
set_option maxRecDepth 100000
set_option maxHeartbeats 16000000
namespace Go.Proofs.YtlkajejbfojkeaaGreatDoor
open Go.RowKit
attribute [local go_sem] store_float
theorem lgone_1 (L : SLoc) (S : Sto) (mk fr tq man maq mrg mpt mpr mco : Int) (ea : Int → Addr) (w : World) (hE : EnvS ea w) (h : StoreAt L S w) (hc : man ≠ S.node ∧ S.next = S.next) : Calls Tryz.prog 164 #[.pointer (some ⟨L.sb, 0, none⟩), .agg #[mk, fr, tq, man, maq, mrg, mpt, mpr, mco]] w (ResR ⟨[], [ans ⟨mk, fr, tq, man, maq, mrg, mpt, mpr, mco⟩ 19 5], 0⟩ w) := by
 have H := qq h; have HE := qq hE
 have d1 : (man != S.node) = true := by simpa using hc.1
 clear h hE hc
 go_enter Tryz.func164, Tryz.ntmps164
 go_wp2_with fail
 refine reg_start (fun w' => Blk w' _ _ ∧ Blk w' _ _ ∧ Below w.heap.size w w') (by kernel_rfl) ⟨((Blk.fresh _ _ _ (w.heap.size) (by simp)).alloc _).drew, (Blk.fresh _ _ _ (w.heap.size + 1) (by simp)).drew, (bel_drew (bel_alloc (bel_alloc (Below.refl w.heap.size w) _) _))⟩ ?_
 rintro w1 hHeld
 obtain ⟨K1', K2', HB'⟩ := id hHeld
 have K1 := qq K1'; have K2 := qq K2'; have HB := qq HB'; clear K1' K2' HB'
 have z1 := HB.out.size
 refine takeM (d := some 7) 0 rfl rfl hHeld (fun w' _ => by go_simp; (try rfl)) ?_
 simp only [puts]
 refine takeM (d := some 8) 1 rfl rfl hHeld (fun w' _ => by go_simp; (try rfl)) ?_
 simp only [puts]
 refine takeM (d := some 9) 2 rfl rfl hHeld (fun w' hS' => by have qA := hS'.1.cell; clear hS'; go_simp; (try rfl)) ?_
 simp only [puts]
 refine takeM (d := some 10) 3 rfl rfl hHeld (fun w' _ => by go_simp; (try rfl)) ?_
 simp only [puts]
 refine one_M 4 (by kernel_rfl) ?_
 refine wpOp_call (d := some 11) 4 94 _ _ [.pointer (some ⟨L.sb, 0, none⟩)] rfl rfl rfl (enters_of Tryz.func94 (by kernel_rfl) rfl) (by rfl) (by rfl) ?_
 refine (node_of L S _ (H.out.below HB.out)).mono ?_
 rintro e w2 ⟨rfl, rfl⟩
 refine ret_S hHeld (fun hHeld => ?_)
 simp only [puts]
 refine takeM (d := some 12) 5 rfl rfl hHeld (fun w' _ => by go_simp; (try rfl)) ?_
 simp only [puts]
 refine takeM (d := some 13) 6 rfl rfl hHeld (fun w' _ => by go_simp; (try rfl)) ?_
 simp only [puts]
 refine skipM (d := some 14) 7 rfl rfl hHeld ?_
 simp only [puts]
 refine skipM (d := some 15) 8 rfl rfl hHeld ?_
 simp only [puts]
 refine skipM (d := some 16) 9 rfl rfl hHeld ?_
 simp only [puts]
 refine skipM (d := some 17) 10 rfl rfl hHeld ?_
 simp only [puts]
 refine takeM (d := some 18) 11 rfl rfl hHeld (fun w' _ => by go_simp; (try rfl)) ?_
 simp only [puts]
 refine takeM (d := some 19) 12 rfl rfl hHeld (fun w' _ => by go_simp; (try rfl)) ?_
 simp only [puts]
 refine skipM (d := some 20) 13 rfl rfl hHeld ?_
 simp only [puts]
 refine skipM (d := some 21) 14 rfl rfl hHeld ?_
 simp only [puts]
 refine skipM (d := some 22) 15 rfl rfl hHeld ?_
 simp only [puts]
 refine skipM (d := some 23) 16 rfl rfl hHeld ?_
 simp only [puts]
 refine skipM (d := some 24) 17 rfl rfl hHeld ?_
 simp only [puts]
 refine skipM (d := some 25) 18 rfl rfl hHeld ?_
 simp only [puts]
 refine takeM (d := some 26) 19 rfl rfl hHeld (fun w' _ => by go_simp; (try rfl)) ?_
 simp only [puts]
 refine doneM (by kernel_rfl) ?_ _
 clear hHeld
 obtain ⟨lK1, qK1, fK1⟩ := K1.out
 obtain ⟨lK2, qK2, fK2⟩ := K2.out
 go_wp2_with fail
 clear qK1 fK1 lK1 qK2 fK2 lK2
 have oR := K2.out.lt
 refine (lanswer_of ⟨mk, fr, tq, man, maq, mrg, mpt, mpr, mco⟩ 19 5 _).mono ?_
 rintro e w3 ⟨a5, c5, b5, d5, rfl, hR5, hb3⟩
 have K1 := qq (K1.out.below hb3)
 have K2 := qq (K2.out.below hb3)
 have HB := qq (below_then HB.out hb3)
 have z3 := HB.out.size
 clear hb3
 obtain ⟨lK1, qK1, fK1⟩ := K1.out
 obtain ⟨lK2, qK2, fK2⟩ := K2.out
 go_wp2_with fail
 have hV0 := (((K2.out.set' 0 (by simp) (.slice a5 0 c5)).set' 1 (by simp) (.slice b5 1 d5)).set' 2 (by simp) (.int .i64 0))
 have hVq0 := hV0.cell; have hVf0 := hV0.free
 refine bodyPost_ret (v := .agg #[.slice a5 0 c5, .slice b5 1 d5, .int .i64 0]) (by simp [results, Tryz.results164, go_sem, hVq0, hVf0]) rfl ?_
 clear qK1 fK1 lK1 qK2 fK2 lK2
 exact ⟨a5, c5, b5, d5, rfl, (hR5.put3 (w.heap.size + 1) (by first | omega | (simp; done) | (simp; omega)) _ _ _).mono (by first | omega | (simp; done) | (simp; omega)), (bel_set (bel_set (bel_set HB.out (p := ⟨w.heap.size + 1, 0, none⟩) (by (try dsimp only); omega) _) (p := ⟨w.heap.size + 1, 1, none⟩) (by (try dsimp only); omega) _) (p := ⟨w.heap.size + 1, 2, none⟩) (by (try dsimp only); omega) _)⟩
theorem lgone_2 (L : SLoc) (S : Sto) (mk fr tq man maq mrg mpt mpr mco : Int) (ea : Int → Addr) (w : World) (hE : EnvS ea w) (h : StoreAt L S w) (hc : man = S.node ∧ maq < 0 ∧ S.next = S.next) : Calls Tryz.prog 164 #[.pointer (some ⟨L.sb, 0, none⟩), .agg #[mk, fr, tq, man, maq, mrg, mpt, mpr, mco]] w (ResR ⟨[], [ans ⟨mk, fr, tq, man, maq, mrg, mpt, mpr, mco⟩ 19 5], 0⟩ w) := by
 have H := qq h; have HE := qq hE
 have d1 : (man != S.node) = false := by simpa using hc.1
 have d2 : decide (maq < 0) = true := decide_eq_true hc.2.1
 clear h hE hc
 go_enter Tryz.func164, Tryz.ntmps164
 go_wp2_with fail
 refine reg_start (fun w' => Blk w' _ _ ∧ Blk w' _ _ ∧ Below w.heap.size w w') (by kernel_rfl) ⟨((Blk.fresh _ _ _ (w.heap.size) (by simp)).alloc _).drew, (Blk.fresh _ _ _ (w.heap.size + 1) (by simp)).drew, (bel_drew (bel_alloc (bel_alloc (Below.refl w.heap.size w) _) _))⟩ ?_
 rintro w1 hHeld
 obtain ⟨K1', K2', HB'⟩ := id hHeld
 have K1 := qq K1'; have K2 := qq K2'; have HB := qq HB'; clear K1' K2' HB'
 have z1 := HB.out.size
 refine takeM (d := some 7) 0 rfl rfl hHeld (fun w' _ => by go_simp; (try rfl)) ?_
 simp only [puts]
 refine takeM (d := some 8) 1 rfl rfl hHeld (fun w' _ => by go_simp; (try rfl)) ?_
 simp only [puts]
 refine takeM (d := some 9) 2 rfl rfl hHeld (fun w' hS' => by have qA := hS'.1.cell; clear hS'; go_simp; (try rfl)) ?_
 simp only [puts]
 refine takeM (d := some 10) 3 rfl rfl hHeld (fun w' _ => by go_simp; (try rfl)) ?_
 simp only [puts]
 refine one_M 4 (by kernel_rfl) ?_
 refine wpOp_call (d := some 11) 4 94 _ _ [.pointer (some ⟨L.sb, 0, none⟩)] rfl rfl rfl (enters_of Tryz.func94 (by kernel_rfl) rfl) (by rfl) (by rfl) ?_
 refine (node_of L S _ (H.out.below HB.out)).mono ?_
 rintro e w2 ⟨rfl, rfl⟩
 refine ret_S hHeld (fun hHeld => ?_)
 simp only [puts]
 refine takeM (d := some 12) 5 rfl rfl hHeld (fun w' _ => by go_simp; (try rfl)) ?_
 simp only [puts]
 refine takeM (d := some 13) 6 rfl rfl hHeld (fun w' _ => by go_simp; (try rfl)) ?_
 simp only [puts]
 refine takeM (d := some 14) 7 rfl rfl hHeld (fun w' _ => by go_simp; (try rfl)) ?_
 simp only [puts]
 refine takeM (d := some 15) 8 rfl rfl hHeld (fun w' _ => by go_simp; (try rfl)) ?_
 simp only [puts]
 refine takeM (d := some 16) 9 rfl rfl hHeld (fun w' hS' => by have qA := hS'.1.cell; clear hS'; go_simp; (try rfl)) ?_
 simp only [puts]
 refine takeM (d := some 17) 10 rfl rfl hHeld (fun w' _ => by go_simp; (try rfl)) ?_
 simp only [puts]
 refine takeM (d := some 18) 11 rfl rfl hHeld (fun w' _ => by go_simp; (try rfl)) ?_
 simp only [puts]
 refine takeM (d := some 19) 12 rfl rfl hHeld (fun w' _ => by go_simp; (try rfl)) ?_
 simp only [puts]
 refine skipM (d := some 20) 13 rfl rfl hHeld ?_
 simp only [puts]
 refine skipM (d := some 21) 14 rfl rfl hHeld ?_
 simp only [puts]
 refine skipM (d := some 22) 15 rfl rfl hHeld ?_
 simp only [puts]
 refine skipM (d := some 23) 16 rfl rfl hHeld ?_
 simp only [puts]
 refine skipM (d := some 24) 17 rfl rfl hHeld ?_
 simp only [puts]
 refine skipM (d := some 25) 18 rfl rfl hHeld ?_
 simp only [puts]
 refine takeM (d := some 26) 19 rfl rfl hHeld (fun w' _ => by go_simp; (try rfl)) ?_
 simp only [puts]
 refine doneM (by kernel_rfl) ?_ _
 clear hHeld
 obtain ⟨lK1, qK1, fK1⟩ := K1.out
 obtain ⟨lK2, qK2, fK2⟩ := K2.out
 go_wp2_with fail
 clear qK1 fK1 lK1 qK2 fK2 lK2
 have oR := K2.out.lt
 refine (lanswer_of ⟨mk, fr, tq, man, maq, mrg, mpt, mpr, mco⟩ 19 5 _).mono ?_
 rintro e w3 ⟨a5, c5, b5, d5, rfl, hR5, hb3⟩
 have K1 := qq (K1.out.below hb3)
 have K2 := qq (K2.out.below hb3)
 have HB := qq (below_then HB.out hb3)
 have z3 := HB.out.size
 clear hb3
 obtain ⟨lK1, qK1, fK1⟩ := K1.out
 obtain ⟨lK2, qK2, fK2⟩ := K2.out
 go_wp2_with fail
 have hV0 := (((K2.out.set' 0 (by simp) (.slice a5 0 c5)).set' 1 (by simp) (.slice b5 1 d5)).set' 2 (by simp) (.int .i64 0))
 have hVq0 := hV0.cell; have hVf0 := hV0.free
 refine bodyPost_ret (v := .agg #[.slice a5 0 c5, .slice b5 1 d5, .int .i64 0]) (by simp [results, Tryz.results164, go_sem, hVq0, hVf0]) rfl ?_
 clear qK1 fK1 lK1 qK2 fK2 lK2
 exact ⟨a5, c5, b5, d5, rfl, (hR5.put3 (w.heap.size + 1) (by first | omega | (simp; done) | (simp; omega)) _ _ _).mono (by first | omega | (simp; done) | (simp; omega)), (bel_set (bel_set (bel_set HB.out (p := ⟨w.heap.size + 1, 0, none⟩) (by (try dsimp only); omega) _) (p := ⟨w.heap.size + 1, 1, none⟩) (by (try dsimp only); omega) _) (p := ⟨w.heap.size + 1, 2, none⟩) (by (try dsimp only); omega) _)⟩
theorem lgone_3 (L : SLoc) (S : Sto) (mk fr tq man maq mrg mpt mpr mco : Int) (ea : Int → Addr) (w : World) (hE : EnvS ea w) (h : StoreAt L S w) (hc : man = S.node ∧ ¬ maq < 0 ∧ S.next ≤ maq) : Calls Tryz.prog 164 #[.pointer (some ⟨L.sb, 0, none⟩), .agg #[mk, fr, tq, man, maq, mrg, mpt, mpr, mco]] w (ResR ⟨[], [ans ⟨mk, fr, tq, man, maq, mrg, mpt, mpr, mco⟩ 19 5], 0⟩ w) := by
 have H := qq h; have HE := qq hE
 have d1 : (man != S.node) = false := by simpa using hc.1
 have d2 : decide (maq < 0) = false := decide_eq_false hc.2.1
 have d3 : decide (S.next ≤ maq) = true := decide_eq_true hc.2.2
 clear h hE hc
 go_enter Tryz.func164, Tryz.ntmps164
 go_wp2_with fail
 refine reg_start (fun w' => Blk w' _ _ ∧ Blk w' _ _ ∧ Below w.heap.size w w') (by kernel_rfl) ⟨((Blk.fresh _ _ _ (w.heap.size) (by simp)).alloc _).drew, (Blk.fresh _ _ _ (w.heap.size + 1) (by simp)).drew, (bel_drew (bel_alloc (bel_alloc (Below.refl w.heap.size w) _) _))⟩ ?_
 rintro w1 hHeld
 obtain ⟨K1', K2', HB'⟩ := id hHeld
 have K1 := qq K1'; have K2 := qq K2'; have HB := qq HB'; clear K1' K2' HB'
 have z1 := HB.out.size
 refine takeM (d := some 7) 0 rfl rfl hHeld (fun w' _ => by go_simp; (try rfl)) ?_
 simp only [puts]
 refine takeM (d := some 8) 1 rfl rfl hHeld (fun w' _ => by go_simp; (try rfl)) ?_
 simp only [puts]
 refine takeM (d := some 9) 2 rfl rfl hHeld (fun w' hS' => by have qA := hS'.1.cell; clear hS'; go_simp; (try rfl)) ?_
 simp only [puts]
 refine takeM (d := some 10) 3 rfl rfl hHeld (fun w' _ => by go_simp; (try rfl)) ?_
 simp only [puts]
 refine one_M 4 (by kernel_rfl) ?_
 refine wpOp_call (d := some 11) 4 94 _ _ [.pointer (some ⟨L.sb, 0, none⟩)] rfl rfl rfl (enters_of Tryz.func94 (by kernel_rfl) rfl) (by rfl) (by rfl) ?_
 refine (node_of L S _ (H.out.below HB.out)).mono ?_
 rintro e w2 ⟨rfl, rfl⟩
 refine ret_S hHeld (fun hHeld => ?_)
 simp only [puts]
 refine takeM (d := some 12) 5 rfl rfl hHeld (fun w' _ => by go_simp; (try rfl)) ?_
 simp only [puts]
 refine takeM (d := some 13) 6 rfl rfl hHeld (fun w' _ => by go_simp; (try rfl)) ?_
 simp only [puts]
 refine takeM (d := some 14) 7 rfl rfl hHeld (fun w' _ => by go_simp; (try rfl)) ?_
 simp only [puts]
 refine takeM (d := some 15) 8 rfl rfl hHeld (fun w' _ => by go_simp; (try rfl)) ?_
 simp only [puts]
 refine takeM (d := some 16) 9 rfl rfl hHeld (fun w' hS' => by have qA := hS'.1.cell; clear hS'; go_simp; (try rfl)) ?_
 simp only [puts]
 refine takeM (d := some 17) 10 rfl rfl hHeld (fun w' _ => by go_simp; (try rfl)) ?_
 simp only [puts]
 refine takeM (d := some 18) 11 rfl rfl hHeld (fun w' _ => by go_simp; (try rfl)) ?_
 simp only [puts]
 refine takeM (d := some 19) 12 rfl rfl hHeld (fun w' _ => by go_simp; (try rfl)) ?_
 simp only [puts]
 refine takeM (d := some 20) 13 rfl rfl hHeld (fun w' _ => by go_simp; (try rfl)) ?_
 simp only [puts]
 refine takeM (d := some 21) 14 rfl rfl hHeld (fun w' _ => by go_simp; (try rfl)) ?_
 simp only [puts]
 refine takeM (d := some 22) 15 rfl rfl hHeld (fun w' hS' => by have qA := hS'.1.cell; clear hS'; go_simp; (try rfl)) ?_
 simp only [puts]
 refine takeM (d := some 23) 16 rfl rfl hHeld (fun w' _ => by go_simp; (try rfl)) ?_
 simp only [puts]
 refine one_M 17 (by kernel_rfl) ?_
 refine wpOp_call (d := some 24) 17 95 _ _ [.pointer (some ⟨L.sb, 0, none⟩)] rfl rfl rfl (enters_of Tryz.func95 (by kernel_rfl) rfl) (by rfl) (by rfl) ?_
 refine (next_of L S _ (H.out.below HB.out)).mono ?_
 rintro e w3 ⟨rfl, rfl⟩
 refine ret_S hHeld (fun hHeld => ?_)
 simp only [puts]
 refine takeM (d := some 25) 18 rfl rfl hHeld (fun w' _ => by go_simp; (try rfl)) ?_
 simp only [puts]
 refine takeM (d := some 26) 19 rfl rfl hHeld (fun w' _ => by go_simp; (try rfl)) ?_
 simp only [puts]
 refine doneM (by kernel_rfl) ?_ _
 clear hHeld
 obtain ⟨lK1, qK1, fK1⟩ := K1.out
 obtain ⟨lK2, qK2, fK2⟩ := K2.out
 go_wp2_with fail
 clear qK1 fK1 lK1 qK2 fK2 lK2
 have oR := K2.out.lt
 refine (lanswer_of ⟨mk, fr, tq, man, maq, mrg, mpt, mpr, mco⟩ 19 5 _).mono ?_
 rintro e w4 ⟨a5, c5, b5, d5, rfl, hR5, hb4⟩
 have K1 := qq (K1.out.below hb4)
 have K2 := qq (K2.out.below hb4)
 have HB := qq (below_then HB.out hb4)
 have z4 := HB.out.size
 clear hb4
 obtain ⟨lK1, qK1, fK1⟩ := K1.out
 obtain ⟨lK2, qK2, fK2⟩ := K2.out
 go_wp2_with fail
 have hV0 := (((K2.out.set' 0 (by simp) (.slice a5 0 c5)).set' 1 (by simp) (.slice b5 1 d5)).set' 2 (by simp) (.int .i64 0))
 have hVq0 := hV0.cell; have hVf0 := hV0.free
 refine bodyPost_ret (v := .agg #[.slice a5 0 c5, .slice b5 1 d5, .int .i64 0]) (by simp [results, Tryz.results164, go_sem, hVq0, hVf0]) rfl ?_
 clear qK1 fK1 lK1 qK2 fK2 lK2
 exact ⟨a5, c5, b5, d5, rfl, (hR5.put3 (w.heap.size + 1) (by first | omega | (simp; done) | (simp; omega)) _ _ _).mono (by first | omega | (simp; done) | (simp; omega)), (bel_set (bel_set (bel_set HB.out (p := ⟨w.heap.size + 1, 0, none⟩) (by (try dsimp only); omega) _) (p := ⟨w.heap.size + 1, 1, none⟩) (by (try dsimp only); omega) _) (p := ⟨w.heap.size + 1, 2, none⟩) (by (try dsimp only); omega) _)⟩
theorem lgone_15 (L : SLoc) (S : Sto) (mk fr tq man maq mrg mpt mpr mco : Int) (ea : Int → Addr) (w : World) (hE : EnvS ea w) (h : StoreAt L S w) (hc : man = S.node ∧ ¬ maq < 0 ∧ ¬ S.next ≤ maq ∧ mk = 15) : Calls Tryz.prog 164 #[.pointer (some ⟨L.sb, 0, none⟩), .agg #[mk, fr, tq, man, maq, mrg, mpt, mpr, mco]] w (ResR ⟨[], [ans ⟨mk, fr, tq, man, maq, mrg, mpt, mpr, mco⟩ 16 14], 0⟩ w) := by
 have H := qq h; have HE := qq hE
 have d1 : (man != S.node) = false := by simpa using hc.1
 have d2 : decide (maq < 0) = false := decide_eq_false hc.2.1
 have d3 : decide (S.next ≤ maq) = false := decide_eq_false hc.2.2.1
 have k15 : (mk == 15) = true := by simpa using hc.2.2.2
 clear h hE hc
 go_enter Tryz.func164, Tryz.ntmps164
 go_wp2_with fail
 refine reg_start (fun w' => Blk w' _ _ ∧ Blk w' _ _ ∧ Below w.heap.size w w') (by kernel_rfl) ⟨((Blk.fresh _ _ _ (w.heap.size) (by simp)).alloc _).drew, (Blk.fresh _ _ _ (w.heap.size + 1) (by simp)).drew, (bel_drew (bel_alloc (bel_alloc (Below.refl w.heap.size w) _) _))⟩ ?_
 rintro w1 hHeld
 obtain ⟨K1', K2', HB'⟩ := id hHeld
 have K1 := qq K1'; have K2 := qq K2'; have HB := qq HB'; clear K1' K2' HB'
 have z1 := HB.out.size
 refine takeM (d := some 7) 0 rfl rfl hHeld (fun w' _ => by go_simp; (try rfl)) ?_
 simp only [puts]
 refine takeM (d := some 8) 1 rfl rfl hHeld (fun w' _ => by go_simp; (try rfl)) ?_
 simp only [puts]
 refine takeM (d := some 9) 2 rfl rfl hHeld (fun w' hS' => by have qA := hS'.1.cell; clear hS'; go_simp; (try rfl)) ?_
 simp only [puts]
 refine takeM (d := some 10) 3 rfl rfl hHeld (fun w' _ => by go_simp; (try rfl)) ?_
 simp only [puts]
 refine one_M 4 (by kernel_rfl) ?_
 refine wpOp_call (d := some 11) 4 94 _ _ [.pointer (some ⟨L.sb, 0, none⟩)] rfl rfl rfl (enters_of Tryz.func94 (by kernel_rfl) rfl) (by rfl) (by rfl) ?_
 refine (node_of L S _ (H.out.below HB.out)).mono ?_
 rintro e w2 ⟨rfl, rfl⟩
 refine ret_S hHeld (fun hHeld => ?_)
 simp only [puts]
 refine takeM (d := some 12) 5 rfl rfl hHeld (fun w' _ => by go_simp; (try rfl)) ?_
 simp only [puts]
 refine takeM (d := some 13) 6 rfl rfl hHeld (fun w' _ => by go_simp; (try rfl)) ?_
 simp only [puts]
 refine takeM (d := some 14) 7 rfl rfl hHeld (fun w' _ => by go_simp; (try rfl)) ?_
 simp only [puts]
 refine takeM (d := some 15) 8 rfl rfl hHeld (fun w' _ => by go_simp; (try rfl)) ?_
 simp only [puts]
 refine takeM (d := some 16) 9 rfl rfl hHeld (fun w' hS' => by have qA := hS'.1.cell; clear hS'; go_simp; (try rfl)) ?_
 simp only [puts]
 refine takeM (d := some 17) 10 rfl rfl hHeld (fun w' _ => by go_simp; (try rfl)) ?_
 simp only [puts]
 refine takeM (d := some 18) 11 rfl rfl hHeld (fun w' _ => by go_simp; (try rfl)) ?_
 simp only [puts]
 refine takeM (d := some 19) 12 rfl rfl hHeld (fun w' _ => by go_simp; (try rfl)) ?_
 simp only [puts]
 refine takeM (d := some 20) 13 rfl rfl hHeld (fun w' _ => by go_simp; (try rfl)) ?_
 simp only [puts]
 refine takeM (d := some 21) 14 rfl rfl hHeld (fun w' _ => by go_simp; (try rfl)) ?_
 simp only [puts]
 refine takeM (d := some 22) 15 rfl rfl hHeld (fun w' hS' => by have qA := hS'.1.cell; clear hS'; go_simp; (try rfl)) ?_
 simp only [puts]
 refine takeM (d := some 23) 16 rfl rfl hHeld (fun w' _ => by go_simp; (try rfl)) ?_
 simp only [puts]
 refine one_M 17 (by kernel_rfl) ?_
 refine wpOp_call (d := some 24) 17 95 _ _ [.pointer (some ⟨L.sb, 0, none⟩)] rfl rfl rfl (enters_of Tryz.func95 (by kernel_rfl) rfl) (by rfl) (by rfl) ?_
 refine (next_of L S _ (H.out.below HB.out)).mono ?_
 rintro e w3 ⟨rfl, rfl⟩
 refine ret_S hHeld (fun hHeld => ?_)
 simp only [puts]
 refine takeM (d := some 25) 18 rfl rfl hHeld (fun w' _ => by go_simp; (try rfl)) ?_
 simp only [puts]
 refine takeM (d := some 26) 19 rfl rfl hHeld (fun w' _ => by go_simp; (try rfl)) ?_
 simp only [puts]
 refine doneM (by kernel_rfl) ?_ _
 clear hHeld
 obtain ⟨lK1, qK1, fK1⟩ := K1.out
 obtain ⟨lK2, qK2, fK2⟩ := K2.out
 go_wp2_with fail
 clear qK1 fK1 lK1 qK2 fK2 lK2
 have oR := K2.out.lt
 refine (lanswer_of ⟨mk, fr, tq, man, maq, mrg, mpt, mpr, mco⟩ 16 14 _).mono ?_
 rintro e w4 ⟨a5, c5, b5, d5, rfl, hR5, hb4⟩
 have K1 := qq (K1.out.below hb4)
 have K2 := qq (K2.out.below hb4)
 have HB := qq (below_then HB.out hb4)
 have z4 := HB.out.size
 clear hb4
 obtain ⟨lK1, qK1, fK1⟩ := K1.out
 obtain ⟨lK2, qK2, fK2⟩ := K2.out
 go_wp2_with fail
 have hV0 := (((K2.out.set' 0 (by simp) (.slice a5 0 c5)).set' 1 (by simp) (.slice b5 1 d5)).set' 2 (by simp) (.int .i64 0))
 have hVq0 := hV0.cell; have hVf0 := hV0.free
 refine bodyPost_ret (v := .agg #[.slice a5 0 c5, .slice b5 1 d5, .int .i64 0]) (by simp [results, Tryz.results164, go_sem, hVq0, hVf0]) rfl ?_
 clear qK1 fK1 lK1 qK2 fK2 lK2
 exact ⟨a5, c5, b5, d5, rfl, (hR5.put3 (w.heap.size + 1) (by first | omega | (simp; done) | (simp; omega)) _ _ _).mono (by first | omega | (simp; done) | (simp; omega)), (bel_set (bel_set (bel_set HB.out (p := ⟨w.heap.size + 1, 0, none⟩) (by (try dsimp only); omega) _) (p := ⟨w.heap.size + 1, 1, none⟩) (by (try dsimp only); omega) _) (p := ⟨w.heap.size + 1, 2, none⟩) (by (try dsimp only); omega) _)⟩
theorem lgone_not (L : SLoc) (S : Sto) (mk fr tq man maq mrg mpt mpr mco : Int) (ea : Int → Addr) (w : World) (hE : EnvS ea w) (h : StoreAt L S w) (c1 c2 c3 : Int) (hc3 : c1 ≠ 3) (hc : man = S.node ∧ ¬ maq < 0 ∧ ¬ S.next ≤ maq ∧ mk ≠ 15 ∧ rLook 1 1 mk 14 = ((c1, c2, c3), 0)) : Calls Tryz.prog 164 #[.pointer (some ⟨L.sb, 0, none⟩), .agg #[mk, fr, tq, man, maq, mrg, mpt, mpr, mco]] w (ResR res0 w) := by
 have H := qq h; have HE := qq hE
 have d1 : (man != S.node) = false := by simpa using hc.1
 have d2 : decide (maq < 0) = false := decide_eq_false hc.2.1
 have d3 : decide (S.next ≤ maq) = false := decide_eq_false hc.2.2.1
 have hLk := fun W hW => look_any 1 1 mk 14 ea W hW
 rw [hc.2.2.2.2] at hLk
 rw [show errOf ea 0 = .nilIface from rfl] at hLk
 dsimp only [cell3] at hLk
 have HLk := qq hLk
 have k15 : (mk == 15) = false := by simpa using hc.2.2.2.1
 clear hLk
 have hx : (c1 != 3) = true := by simpa using hc3
 clear hc3
 clear h hE hc
 go_enter Tryz.func164, Tryz.ntmps164
 go_wp2_with fail
 refine reg_start (fun w' => Blk w' _ _ ∧ Blk w' _ _ ∧ Below w.heap.size w w') (by kernel_rfl) ⟨((Blk.fresh _ _ _ (w.heap.size) (by simp)).alloc _).drew, (Blk.fresh _ _ _ (w.heap.size + 1) (by simp)).drew, (bel_drew (bel_alloc (bel_alloc (Below.refl w.heap.size w) _) _))⟩ ?_
 rintro w1 hHeld
 obtain ⟨K1', K2', HB'⟩ := id hHeld
 have K1 := qq K1'; have K2 := qq K2'; have HB := qq HB'; clear K1' K2' HB'
 have z1 := HB.out.size
 refine takeM (d := some 7) 0 rfl rfl hHeld (fun w' _ => by go_simp; (try rfl)) ?_
 simp only [puts]
 refine takeM (d := some 8) 1 rfl rfl hHeld (fun w' _ => by go_simp; (try rfl)) ?_
 simp only [puts]
 refine takeM (d := some 9) 2 rfl rfl hHeld (fun w' hS' => by have qA := hS'.1.cell; clear hS'; go_simp; (try rfl)) ?_
 simp only [puts]
 refine takeM (d := some 10) 3 rfl rfl hHeld (fun w' _ => by go_simp; (try rfl)) ?_
 simp only [puts]
 refine one_M 4 (by kernel_rfl) ?_
 refine wpOp_call (d := some 11) 4 94 _ _ [.pointer (some ⟨L.sb, 0, none⟩)] rfl rfl rfl (enters_of Tryz.func94 (by kernel_rfl) rfl) (by rfl) (by rfl) ?_
 refine (node_of L S _ (H.out.below HB.out)).mono ?_
 rintro e w2 ⟨rfl, rfl⟩
 refine ret_S hHeld (fun hHeld => ?_)
 simp only [puts]
 refine takeM (d := some 12) 5 rfl rfl hHeld (fun w' _ => by go_simp; (try rfl)) ?_
 simp only [puts]
 refine takeM (d := some 13) 6 rfl rfl hHeld (fun w' _ => by go_simp; (try rfl)) ?_
 simp only [puts]
 refine takeM (d := some 14) 7 rfl rfl hHeld (fun w' _ => by go_simp; (try rfl)) ?_
 simp only [puts]
 refine takeM (d := some 15) 8 rfl rfl hHeld (fun w' _ => by go_simp; (try rfl)) ?_
 simp only [puts]
 refine takeM (d := some 16) 9 rfl rfl hHeld (fun w' hS' => by have qA := hS'.1.cell; clear hS'; go_simp; (try rfl)) ?_
 simp only [puts]
 refine takeM (d := some 17) 10 rfl rfl hHeld (fun w' _ => by go_simp; (try rfl)) ?_
 simp only [puts]
 refine takeM (d := some 18) 11 rfl rfl hHeld (fun w' _ => by go_simp; (try rfl)) ?_
 simp only [puts]
 refine takeM (d := some 19) 12 rfl rfl hHeld (fun w' _ => by go_simp; (try rfl)) ?_
 simp only [puts]
 refine takeM (d := some 20) 13 rfl rfl hHeld (fun w' _ => by go_simp; (try rfl)) ?_
 simp only [puts]
 refine takeM (d := some 21) 14 rfl rfl hHeld (fun w' _ => by go_simp; (try rfl)) ?_
 simp only [puts]
 refine takeM (d := some 22) 15 rfl rfl hHeld (fun w' hS' => by have qA := hS'.1.cell; clear hS'; go_simp; (try rfl)) ?_
 simp only [puts]
 refine takeM (d := some 23) 16 rfl rfl hHeld (fun w' _ => by go_simp; (try rfl)) ?_
 simp only [puts]
 refine one_M 17 (by kernel_rfl) ?_
 refine wpOp_call (d := some 24) 17 95 _ _ [.pointer (some ⟨L.sb, 0, none⟩)] rfl rfl rfl (enters_of Tryz.func95 (by kernel_rfl) rfl) (by rfl) (by rfl) ?_
 refine (next_of L S _ (H.out.below HB.out)).mono ?_
 rintro e w3 ⟨rfl, rfl⟩
 refine ret_S hHeld (fun hHeld => ?_)
 simp only [puts]
 refine takeM (d := some 25) 18 rfl rfl hHeld (fun w' _ => by go_simp; (try rfl)) ?_
 simp only [puts]
 refine takeM (d := some 26) 19 rfl rfl hHeld (fun w' _ => by go_simp; (try rfl)) ?_
 simp only [puts]
 refine doneM (by kernel_rfl) ?_ _
 clear hHeld
 obtain ⟨lK1, qK1, fK1⟩ := K1.out
 obtain ⟨lK2, qK2, fK2⟩ := K2.out
 go_wp2_with fail
 clear qK1 fK1 lK1 qK2 fK2 lK2
 refine (HLk.out _ (HE.out.below HB.out).err3).mono ?_
 rintro e w4 ⟨rfl, hb4⟩
 have K1 := qq (K1.out.below hb4)
 have K2 := qq (K2.out.below hb4)
 have HB := qq (below_then HB.out hb4)
 have z4 := HB.out.size
 clear hb4
 have o3K1 := K1.out.lt; have o3K2 := K2.out.lt
 obtain ⟨lK1, qK1, fK1⟩ := K1.out
 obtain ⟨lK2, qK2, fK2⟩ := K2.out
 go_wp2_with fail
 have hV0 := ((((K2.out.set' 0 (by simp) (.slice none 0 0)).set' 1 (by simp) (.slice none 0 0)).set' 2 (by simp) (.int .i64 0)).alloc (.cells #[c1, c2, c3] 316))
 have hVq0 := hV0.cell; have hVf0 := hV0.free
 refine bodyPost_ret (v := .agg #[.slice none 0 0, .slice none 0 0, .int .i64 0]) (by simp [results, Tryz.results164, go_sem, hVq0, hVf0]) rfl ?_
 clear qK1 fK1 lK1 qK2 fK2 lK2
 exact ⟨none, 0, none, 0, rfl, ⟨read_nil, read_mnil, no_block, no_block⟩, (bel_alloc (bel_set (bel_set (bel_set HB.out (p := ⟨w.heap.size + 1, 0, none⟩) (by (try dsimp only); omega) _) (p := ⟨w.heap.size + 1, 1, none⟩) (by (try dsimp only); omega) _) (p := ⟨w.heap.size + 1, 2, none⟩) (by (try dsimp only); omega) _) _)⟩
theorem lgone_yes (L : SLoc) (S : Sto) (mk fr tq man maq mrg mpt mpr mco : Int) (ea : Int → Addr) (w : World) (hE : EnvS ea w) (h : StoreAt L S w) (c3 : Int) (hc : man = S.node ∧ ¬ maq < 0 ∧ ¬ S.next ≤ maq ∧ mk ≠ 15 ∧ rLook 1 1 mk 14 = ((3, 0, c3), 0)) : Calls Tryz.prog 164 #[.pointer (some ⟨L.sb, 0, none⟩), .agg #[mk, fr, tq, man, maq, mrg, mpt, mpr, mco]] w (ResR ⟨[], [ans ⟨mk, fr, tq, man, maq, mrg, mpt, mpr, mco⟩ c3 0], 0⟩ w) := by
 have H := qq h; have HE := qq hE
 have d1 : (man != S.node) = false := by simpa using hc.1
 have d2 : decide (maq < 0) = false := decide_eq_false hc.2.1
 have d3 : decide (S.next ≤ maq) = false := decide_eq_false hc.2.2.1
 have hLk := fun W hW => look_any 1 1 mk 14 ea W hW
 rw [hc.2.2.2.2] at hLk
 rw [show errOf ea 0 = .nilIface from rfl] at hLk
 dsimp only [cell3] at hLk
 have HLk := qq hLk
 have k15 : (mk == 15) = false := by simpa using hc.2.2.2.1
 clear hLk
 clear h hE hc
 go_enter Tryz.func164, Tryz.ntmps164
 go_wp2_with fail
 refine reg_start (fun w' => Blk w' _ _ ∧ Blk w' _ _ ∧ Below w.heap.size w w') (by kernel_rfl) ⟨((Blk.fresh _ _ _ (w.heap.size) (by simp)).alloc _).drew, (Blk.fresh _ _ _ (w.heap.size + 1) (by simp)).drew, (bel_drew (bel_alloc (bel_alloc (Below.refl w.heap.size w) _) _))⟩ ?_
 rintro w1 hHeld
 obtain ⟨K1', K2', HB'⟩ := id hHeld
 have K1 := qq K1'; have K2 := qq K2'; have HB := qq HB'; clear K1' K2' HB'
 have z1 := HB.out.size
 refine takeM (d := some 7) 0 rfl rfl hHeld (fun w' _ => by go_simp; (try rfl)) ?_
 simp only [puts]
 refine takeM (d := some 8) 1 rfl rfl hHeld (fun w' _ => by go_simp; (try rfl)) ?_
 simp only [puts]
 refine takeM (d := some 9) 2 rfl rfl hHeld (fun w' hS' => by have qA := hS'.1.cell; clear hS'; go_simp; (try rfl)) ?_
 simp only [puts]
 refine takeM (d := some 10) 3 rfl rfl hHeld (fun w' _ => by go_simp; (try rfl)) ?_
 simp only [puts]
 refine one_M 4 (by kernel_rfl) ?_
 refine wpOp_call (d := some 11) 4 94 _ _ [.pointer (some ⟨L.sb, 0, none⟩)] rfl rfl rfl (enters_of Tryz.func94 (by kernel_rfl) rfl) (by rfl) (by rfl) ?_
 refine (node_of L S _ (H.out.below HB.out)).mono ?_
 rintro e w2 ⟨rfl, rfl⟩
 refine ret_S hHeld (fun hHeld => ?_)
 simp only [puts]
 refine takeM (d := some 12) 5 rfl rfl hHeld (fun w' _ => by go_simp; (try rfl)) ?_
 simp only [puts]
 refine takeM (d := some 13) 6 rfl rfl hHeld (fun w' _ => by go_simp; (try rfl)) ?_
 simp only [puts]
 refine takeM (d := some 14) 7 rfl rfl hHeld (fun w' _ => by go_simp; (try rfl)) ?_
 simp only [puts]
 refine takeM (d := some 15) 8 rfl rfl hHeld (fun w' _ => by go_simp; (try rfl)) ?_
 simp only [puts]
 refine takeM (d := some 16) 9 rfl rfl hHeld (fun w' hS' => by have qA := hS'.1.cell; clear hS'; go_simp; (try rfl)) ?_
 simp only [puts]
 refine takeM (d := some 17) 10 rfl rfl hHeld (fun w' _ => by go_simp; (try rfl)) ?_
 simp only [puts]
 refine takeM (d := some 18) 11 rfl rfl hHeld (fun w' _ => by go_simp; (try rfl)) ?_
 simp only [puts]
 refine takeM (d := some 19) 12 rfl rfl hHeld (fun w' _ => by go_simp; (try rfl)) ?_
 simp only [puts]
 refine takeM (d := some 20) 13 rfl rfl hHeld (fun w' _ => by go_simp; (try rfl)) ?_
 simp only [puts]
 refine takeM (d := some 21) 14 rfl rfl hHeld (fun w' _ => by go_simp; (try rfl)) ?_
 simp only [puts]
 refine takeM (d := some 22) 15 rfl rfl hHeld (fun w' hS' => by have qA := hS'.1.cell; clear hS'; go_simp; (try rfl)) ?_
 simp only [puts]
 refine takeM (d := some 23) 16 rfl rfl hHeld (fun w' _ => by go_simp; (try rfl)) ?_
 simp only [puts]
 refine one_M 17 (by kernel_rfl) ?_
 refine wpOp_call (d := some 24) 17 95 _ _ [.pointer (some ⟨L.sb, 0, none⟩)] rfl rfl rfl (enters_of Tryz.func95 (by kernel_rfl) rfl) (by rfl) (by rfl) ?_
 refine (next_of L S _ (H.out.below HB.out)).mono ?_
 rintro e w3 ⟨rfl, rfl⟩
 refine ret_S hHeld (fun hHeld => ?_)
 simp only [puts]
 refine takeM (d := some 25) 18 rfl rfl hHeld (fun w' _ => by go_simp; (try rfl)) ?_
 simp only [puts]
 refine takeM (d := some 26) 19 rfl rfl hHeld (fun w' _ => by go_simp; (try rfl)) ?_
 simp only [puts]
 refine doneM (by kernel_rfl) ?_ _
 clear hHeld
 obtain ⟨lK1, qK1, fK1⟩ := K1.out
 obtain ⟨lK2, qK2, fK2⟩ := K2.out
 go_wp2_with fail
 clear qK1 fK1 lK1 qK2 fK2 lK2
 refine (HLk.out _ (HE.out.below HB.out).err3).mono ?_
 rintro e w4 ⟨rfl, hb4⟩
 have K1 := qq (K1.out.below hb4)
 have K2 := qq (K2.out.below hb4)
 have HB := qq (below_then HB.out hb4)
 have z4 := HB.out.size
 clear hb4
 have o3K1 := K1.out.lt; have o3K2 := K2.out.lt
 obtain ⟨lK1, qK1, fK1⟩ := K1.out
 obtain ⟨lK2, qK2, fK2⟩ := K2.out
 go_wp2_with fail
 clear qK1 fK1 lK1 qK2 fK2 lK2
 have oR := K2.out.lt
 refine (lanswer_of ⟨mk, fr, tq, man, maq, mrg, mpt, mpr, mco⟩ c3 0 _).mono ?_
 rintro e w5 ⟨a5, c5, b5, d5, rfl, hR5, hb5⟩
 have K1 := qq ((K1.out.alloc _).below hb5)
 have K2 := qq ((K2.out.alloc _).below hb5)
 have K3 := qq ((Blk.fresh _ _ _ (w4.heap.size) (by simp)).below hb5)
 have HB := qq (below_then (bel_alloc HB.out _) hb5)
 have z5 := HB.out.size
 clear hb5
 obtain ⟨lK1, qK1, fK1⟩ := K1.out
 obtain ⟨lK2, qK2, fK2⟩ := K2.out
 obtain ⟨lK3, qK3, fK3⟩ := K3.out
 go_wp2_with fail
 have hV0 := (((K2.out.set' 0 (by simp) (.slice a5 0 c5)).set' 1 (by simp) (.slice b5 1 d5)).set' 2 (by simp) (.int .i64 0))
 have hVq0 := hV0.cell; have hVf0 := hV0.free
 refine bodyPost_ret (v := .agg #[.slice a5 0 c5, .slice b5 1 d5, .int .i64 0]) (by simp [results, Tryz.results164, go_sem, hVq0, hVf0]) rfl ?_
 clear qK1 fK1 lK1 qK2 fK2 lK2 qK3 fK3 lK3
 exact ⟨a5, c5, b5, d5, rfl, (hR5.put3 (w.heap.size + 1) (by first | omega | (simp; done) | (simp; omega)) _ _ _).mono (by first | omega | (simp; done) | (simp; omega)), (bel_set (bel_set (bel_set HB.out (p := ⟨w.heap.size + 1, 0, none⟩) (by (try dsimp only); omega) _) (p := ⟨w.heap.size + 1, 1, none⟩) (by (try dsimp only); omega) _) (p := ⟨w.heap.size + 1, 2, none⟩) (by (try dsimp only); omega) _)⟩
theorem lgone_of (L : SLoc) (S : Sto) (m : SMsg) (ea : Int → Addr) (w : World) (hE : EnvS ea w) (h : StoreAt L S w) (hk : m.k = 15 ∨ isUp m.k = true) : Calls Tryz.prog 164 #[.pointer (some ⟨L.sb, 0, none⟩), msgV m] w (ResR (lGone S m) w) := by
 obtain ⟨mk, fr, tq, man, maq, mrg, mpt, mpr, mco⟩ := m
 dsimp only at hk
 unfold lGone
 dsimp only
 by_cases h1 : man = S.node
 case neg => rw [if_pos (.inl h1)]; exact lgone_1 L S mk fr tq man maq mrg mpt mpr mco ea w hE h ⟨h1, rfl⟩
 by_cases h2 : maq < 0
 · rw [if_pos (.inr (.inl h2))]; exact lgone_2 L S mk fr tq man maq mrg mpt mpr mco ea w hE h ⟨h1, h2, rfl⟩
 by_cases h3 : S.next ≤ maq
 · rw [if_pos (.inr (.inr h3))]; exact lgone_3 L S mk fr tq man maq mrg mpt mpr mco ea w hE h ⟨h1, h2, h3⟩
 rw [if_neg (by rintro (e | e | e); exact e h1; exact h2 e; exact h3 e)]
 by_cases k15 : mk = 15
 · rw [if_pos k15]; exact lgone_15 L S mk fr tq man maq mrg mpt mpr mco ea w hE h ⟨h1, h2, h3, k15⟩
 rw [if_neg k15]
 have hu : mk = 1 ∨ 3 ≤ mk ∧ mk ≤ 8 := by simpa [isUp] using hk.resolve_left k15
 rcases (by omega : mk = 1 ∨ mk = 3 ∨ mk = 4 ∨ mk = 5 ∨ mk = 6 ∨ mk = 7 ∨ mk = 8) with rfl | rfl | rfl | rfl | rfl | rfl | rfl
 · exact lgone_yes L S 1 fr tq man maq mrg mpt mpr mco ea w hE h 13 ⟨h1, h2, h3, by decide, by decide⟩
 · exact lgone_not L S 3 fr tq man maq mrg mpt mpr mco ea w hE h 2 0 0 (by decide) ⟨h1, h2, h3, by decide, by decide⟩
 · exact lgone_yes L S 4 fr tq man maq mrg mpt mpr mco ea w hE h 12 ⟨h1, h2, h3, by decide, by decide⟩
 · exact lgone_yes L S 5 fr tq man maq mrg mpt mpr mco ea w hE h 14 ⟨h1, h2, h3, by decide, by decide⟩
 · exact lgone_not L S 6 fr tq man maq mrg mpt mpr mco ea w hE h 2 0 0 (by decide) ⟨h1, h2, h3, by decide, by decide⟩
 · exact lgone_not L S 7 fr tq man maq mrg mpt mpr mco ea w hE h 2 0 0 (by decide) ⟨h1, h2, h3, by decide, by decide⟩
 · exact lgone_not L S 8 fr tq man maq mrg mpt mpr mco ea w hE h 2 0 0 (by decide) ⟨h1, h2, h3, by decide, by decide⟩
end Go.Proofs.YtlkajejbfojkeaaGreatDoor
