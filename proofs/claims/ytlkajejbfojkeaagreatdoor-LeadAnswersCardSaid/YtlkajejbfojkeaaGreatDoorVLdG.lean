/- LdG -/
import Derived.Test.YtlkajejbfojkeaaGreatDoorVLdC2
import Derived.Test.YtlkajejbfojkeaaGreatDoorVLdE
import Derived.Test.YtlkajejbfojkeaaGreatDoorVLdF5ToLdF4
set_option linter.unusedSimpArgs false
set_option linter.unusedVariables false
set_option maxRecDepth 100000
set_option maxHeartbeats 16000000
namespace Go.Proofs.YtlkajejbfojkeaaGreatDoor
open Go.RowKit
attribute [local go_sem] store_float
theorem lReg_mem {a : SAct} {rg : Int} {r : SReg} (h : lReg a rg = some r) : r ∈ a.regs := by
 unfold lReg at h
 split at h
 · exact List.mem_of_getElem? h
 · cases h
theorem letterUp_of (k : Int) (w : World) : Calls Tryz.prog 162 #[.int .i64 k] w (Gives (.bool (isUp k)) w) := by
 have HW := qq (lwithin_of k 3 8 w)
 unfold isUp
 by_cases h : k = 1
 · have e : (k == 1) = true := by simpa using h
   rw [decide_eq_true (Or.inl h)]
   clear h
   go_enter Tryz.func162, Tryz.ntmps162
   go_wp2_with fail
   go_ret
   exact ⟨rfl, rfl⟩
 · have e : (k == 1) = false := by simpa using h
   rw [show decide (k = 1 ∨ 3 ≤ k ∧ k ≤ 8) = decide (3 ≤ k ∧ k ≤ 8) from decide_eq_decide.2 ⟨fun x => x.resolve_left h, Or.inr⟩]
   clear h
   go_enter Tryz.func162, Tryz.ntmps162
   go_wp2_with fail
   refine HW.out.mono ?_
   rintro e w1 ⟨rfl, rfl⟩
   go_wp2_with fail
   go_ret
   exact ⟨ret_bool (by simp), rfl⟩
theorem ltell_to (L : SLoc) (S : Sto) (mk fr tq man maq mrg mpt mpr mco : Int) (now : Nat) (ea : Int → Addr) (w : World) (hE : EnvS ea w) (h : StoreAt L S w) (hG : StoGood S) (hto : tq ≠ S.node) : Calls Tryz.prog 64 #[.pointer (some ⟨L.sb, 0, none⟩), .agg #[mk, fr, tq, man, maq, mrg, mpt, mpr, mco], flV now] w (ResR res0 w) := by
 have HND := qq (fun W hW => node_of L S W hW)
 have H := qq h; have HE := qq hE
 have dto : (tq != S.node) = true := by simpa using hto
 clear hto
 clear h hE hG
 go_enter Tryz.func64, Tryz.ntmps64
 go_wp2_with fail
 refine reg_start (fun w' => Blk w' _ _ ∧ Blk w' _ _ ∧ Below w.heap.size w w') (by kernel_rfl) ⟨((Blk.fresh _ _ _ (w.heap.size) (by simp)).alloc _).drew, (Blk.fresh _ _ _ (w.heap.size + 1) (by simp)).drew, (bel_drew (bel_alloc (bel_alloc (Below.refl w.heap.size w) _) _))⟩ ?_
 rintro w1 hHeld
 obtain ⟨K1', K2', HB'⟩ := id hHeld
 have K1 := qq K1'; have K2 := qq K2'; have HB := qq HB'; clear K1' K2' HB'
 have z1 := HB.out.size
 refine takeM (d := some 11) 0 rfl rfl hHeld (fun w' _ => by go_simp; (try rfl)) ?_
 simp only [puts]
 refine takeM (d := some 12) 1 rfl rfl hHeld (fun w' hS' => by have qA := hS'.1.cell; clear hS'; go_simp; (try rfl)) ?_
 simp only [puts]
 refine takeM (d := some 13) 2 rfl rfl hHeld (fun w' _ => by go_simp; (try rfl)) ?_
 simp only [puts]
 refine one_M 3 (by kernel_rfl) ?_
 refine wpOp_call (d := some 14) 3 94 _ _ [.pointer (some ⟨L.sb, 0, none⟩)] rfl rfl rfl (enters_of Tryz.func94 (by kernel_rfl) rfl) (by rfl) (by rfl) ?_
 refine (HND.out _ (H.out.below HB.out)).mono ?_
 rintro e w2 ⟨rfl, rfl⟩
 refine ret_S hHeld (fun hHeld => ?_)
 simp only [puts]
 refine takeM (d := some 15) 4 rfl rfl hHeld (fun w' _ => by go_simp; (try rfl)) ?_
 simp only [puts]
 refine takeM (d := some 10) 5 rfl rfl hHeld (fun w' _ => by go_simp; (try rfl)) ?_
 simp only [puts]
 refine doneM (by kernel_rfl) ?_ _
 clear hHeld
 obtain ⟨lK1, qK1, fK1⟩ := K1.out
 obtain ⟨lK2, qK2, fK2⟩ := K2.out
 go_wp2_with fail
 have hV0 := (((K2.out.set' 0 (by simp) (.slice none 0 0)).set' 1 (by simp) (.slice none 0 0)).set' 2 (by simp) (.int .i64 0))
 have hVq0 := hV0.cell; have hVf0 := hV0.free
 refine bodyPost_ret (v := .agg #[.slice none 0 0, .slice none 0 0, .int .i64 0]) (by simp [results, Tryz.results64, go_sem, hVq0, hVf0]) rfl ?_
 clear qK1 fK1 lK1 qK2 fK2 lK2
 exact ⟨none, 0, none, 0, rfl, ⟨read_nil, read_mnil, no_block, no_block⟩, (bel_set (bel_set (bel_set HB.out (p := ⟨w.heap.size + 1, 0, none⟩) (by (try dsimp only); omega) _) (p := ⟨w.heap.size + 1, 1, none⟩) (by (try dsimp only); omega) _) (p := ⟨w.heap.size + 1, 2, none⟩) (by (try dsimp only); omega) _)⟩
theorem ltell_reg (L : SLoc) (S : Sto) (mk fr tq man maq mrg mpt mpr mco : Int) (now : Nat) (ea : Int → Addr) (w : World) (hE : EnvS ea w) (h : StoreAt L S w) (hG : StoGood S) (hn64 : F64 now) (hto : tq = S.node) (h17 : mk = 17) : Calls Tryz.prog 64 #[.pointer (some ⟨L.sb, 0, none⟩), .agg #[mk, fr, tq, man, maq, mrg, mpt, mpr, mco], flV now] w (ResR (lRegister S ⟨mk, fr, tq, man, maq, mrg, mpt, mpr, mco⟩ now) w) := by
 have HND := qq (fun W hW => node_of L S W hW)
 have H := qq h; have HE := qq hE
 have HRG := qq (fun W h1 h2 => lregister_of L S ⟨mk, fr, tq, man, maq, mrg, mpt, mpr, mco⟩ now ea W h1 h2 hG hn64)
 unfold ResR at *
 obtain ⟨r, hr⟩ : ∃ r, r = lRegister S ⟨mk, fr, tq, man, maq, mrg, mpt, mpr, mco⟩ now := ⟨_, rfl⟩
 rw [← hr] at HRG ⊢
 have dto : (tq != S.node) = false := by simpa using hto
 clear hto
 have d17 : (mk == 17) = true := by simpa using h17
 clear h17 hn64 hr
 dsimp only [msgV, msgA] at HRG
 clear h hE hG
 go_enter Tryz.func64, Tryz.ntmps64
 go_wp2_with fail
 refine reg_start (fun w' => Blk w' _ _ ∧ Blk w' _ _ ∧ Below w.heap.size w w') (by kernel_rfl) ⟨((Blk.fresh _ _ _ (w.heap.size) (by simp)).alloc _).drew, (Blk.fresh _ _ _ (w.heap.size + 1) (by simp)).drew, (bel_drew (bel_alloc (bel_alloc (Below.refl w.heap.size w) _) _))⟩ ?_
 rintro w1 hHeld
 obtain ⟨K1', K2', HB'⟩ := id hHeld
 have K1 := qq K1'; have K2 := qq K2'; have HB := qq HB'; clear K1' K2' HB'
 have z1 := HB.out.size
 refine takeM (d := some 11) 0 rfl rfl hHeld (fun w' _ => by go_simp; (try rfl)) ?_
 simp only [puts]
 refine takeM (d := some 12) 1 rfl rfl hHeld (fun w' hS' => by have qA := hS'.1.cell; clear hS'; go_simp; (try rfl)) ?_
 simp only [puts]
 refine takeM (d := some 13) 2 rfl rfl hHeld (fun w' _ => by go_simp; (try rfl)) ?_
 simp only [puts]
 refine one_M 3 (by kernel_rfl) ?_
 refine wpOp_call (d := some 14) 3 94 _ _ [.pointer (some ⟨L.sb, 0, none⟩)] rfl rfl rfl (enters_of Tryz.func94 (by kernel_rfl) rfl) (by rfl) (by rfl) ?_
 refine (HND.out _ (H.out.below HB.out)).mono ?_
 rintro e w2 ⟨rfl, rfl⟩
 refine ret_S hHeld (fun hHeld => ?_)
 simp only [puts]
 refine takeM (d := some 15) 4 rfl rfl hHeld (fun w' _ => by go_simp; (try rfl)) ?_
 simp only [puts]
 refine takeM (d := some 10) 5 rfl rfl hHeld (fun w' _ => by go_simp; (try rfl)) ?_
 simp only [puts]
 refine doneM (by kernel_rfl) ?_ _
 clear hHeld
 obtain ⟨lK1, qK1, fK1⟩ := K1.out
 obtain ⟨lK2, qK2, fK2⟩ := K2.out
 go_wp2_with fail
 clear qK1 fK1 lK1 qK2 fK2 lK2
 have oR := K2.out.lt
 refine (HRG.out _ (HE.out.below HB.out) (H.out.below HB.out)).mono ?_
 rintro e w3 ⟨a5, c5, b5, d5, rfl, hR5, hb3⟩
 have K1 := qq (K1.out.below hb3)
 have K2 := qq (K2.out.below hb3)
 have HB := qq (below_then HB.out hb3)
 have z3 := HB.out.size
 clear hb3
 obtain ⟨lK1, qK1, fK1⟩ := K1.out
 obtain ⟨lK2, qK2, fK2⟩ := K2.out
 go_wp2_with fail
 have hV0 := (((K2.out.set' 0 (by simp) (.slice a5 r.fs.length c5)).set' 1 (by simp) (.slice b5 r.ms.length d5)).set' 2 (by simp) (.int .i64 r.wk))
 have hVq0 := hV0.cell; have hVf0 := hV0.free
 refine bodyPost_ret (v := .agg #[.slice a5 r.fs.length c5, .slice b5 r.ms.length d5, r.wk]) (by simp [results, Tryz.results64, go_sem, hVq0, hVf0]) rfl ?_
 clear qK1 fK1 lK1 qK2 fK2 lK2
 exact ⟨a5, c5, b5, d5, rfl, (hR5.put3 (w.heap.size + 1) (by first | omega | (simp; done) | (simp; omega)) _ _ _).mono (by first | omega | (simp; done) | (simp; omega)), (bel_set (bel_set (bel_set HB.out (p := ⟨w.heap.size + 1, 0, none⟩) (by (try dsimp only); omega) _) (p := ⟨w.heap.size + 1, 1, none⟩) (by (try dsimp only); omega) _) (p := ⟨w.heap.size + 1, 2, none⟩) (by (try dsimp only); omega) _)⟩
theorem ltell_not (L : SLoc) (S : Sto) (mk fr tq man maq mrg mpt mpr mco : Int) (now : Nat) (ea : Int → Addr) (w : World) (hE : EnvS ea w) (h : StoreAt L S w) (hG : StoGood S) (hto : tq = S.node) (h17 : mk ≠ 17) (h15 : mk ≠ 15) (hu : isUp mk = false) : Calls Tryz.prog 64 #[.pointer (some ⟨L.sb, 0, none⟩), .agg #[mk, fr, tq, man, maq, mrg, mpt, mpr, mco], flV now] w (ResR res0 w) := by
 have HND := qq (fun W hW => node_of L S W hW)
 have H := qq h; have HE := qq hE
 have dto : (tq != S.node) = false := by simpa using hto
 clear hto
 have d17 : (mk == 17) = false := by simpa using h17
 clear h17
 have HUp := qq (fun W => letterUp_of mk W)
 rw [hu] at HUp
 have d15 : (mk != 15) = true := by simpa using h15
 clear h15 hu
 clear h hE hG
 go_enter Tryz.func64, Tryz.ntmps64
 go_wp2_with fail
 refine reg_start (fun w' => Blk w' _ _ ∧ Blk w' _ _ ∧ Below w.heap.size w w') (by kernel_rfl) ⟨((Blk.fresh _ _ _ (w.heap.size) (by simp)).alloc _).drew, (Blk.fresh _ _ _ (w.heap.size + 1) (by simp)).drew, (bel_drew (bel_alloc (bel_alloc (Below.refl w.heap.size w) _) _))⟩ ?_
 rintro w1 hHeld
 obtain ⟨K1', K2', HB'⟩ := id hHeld
 have K1 := qq K1'; have K2 := qq K2'; have HB := qq HB'; clear K1' K2' HB'
 have z1 := HB.out.size
 refine takeM (d := some 11) 0 rfl rfl hHeld (fun w' _ => by go_simp; (try rfl)) ?_
 simp only [puts]
 refine takeM (d := some 12) 1 rfl rfl hHeld (fun w' hS' => by have qA := hS'.1.cell; clear hS'; go_simp; (try rfl)) ?_
 simp only [puts]
 refine takeM (d := some 13) 2 rfl rfl hHeld (fun w' _ => by go_simp; (try rfl)) ?_
 simp only [puts]
 refine one_M 3 (by kernel_rfl) ?_
 refine wpOp_call (d := some 14) 3 94 _ _ [.pointer (some ⟨L.sb, 0, none⟩)] rfl rfl rfl (enters_of Tryz.func94 (by kernel_rfl) rfl) (by rfl) (by rfl) ?_
 refine (HND.out _ (H.out.below HB.out)).mono ?_
 rintro e w2 ⟨rfl, rfl⟩
 refine ret_S hHeld (fun hHeld => ?_)
 simp only [puts]
 refine takeM (d := some 15) 4 rfl rfl hHeld (fun w' _ => by go_simp; (try rfl)) ?_
 simp only [puts]
 refine takeM (d := some 10) 5 rfl rfl hHeld (fun w' _ => by go_simp; (try rfl)) ?_
 simp only [puts]
 refine doneM (by kernel_rfl) ?_ _
 clear hHeld
 obtain ⟨lK1, qK1, fK1⟩ := K1.out
 obtain ⟨lK2, qK2, fK2⟩ := K2.out
 go_wp2_with fail
 clear qK1 fK1 lK1 qK2 fK2 lK2
 refine (HUp.out _).mono ?_
 rintro e w3 ⟨rfl, rfl⟩
 obtain ⟨lK1, qK1, fK1⟩ := K1.out
 obtain ⟨lK2, qK2, fK2⟩ := K2.out
 go_wp2_with fail
 have hV0 := (((K2.out.set' 0 (by simp) (.slice none 0 0)).set' 1 (by simp) (.slice none 0 0)).set' 2 (by simp) (.int .i64 0))
 have hVq0 := hV0.cell; have hVf0 := hV0.free
 refine bodyPost_ret (v := .agg #[.slice none 0 0, .slice none 0 0, .int .i64 0]) (by simp [results, Tryz.results64, go_sem, hVq0, hVf0]) rfl ?_
 clear qK1 fK1 lK1 qK2 fK2 lK2
 exact ⟨none, 0, none, 0, rfl, ⟨read_nil, read_mnil, no_block, no_block⟩, (bel_set (bel_set (bel_set HB.out (p := ⟨w.heap.size + 1, 0, none⟩) (by (try dsimp only); omega) _) (p := ⟨w.heap.size + 1, 1, none⟩) (by (try dsimp only); omega) _) (p := ⟨w.heap.size + 1, 2, none⟩) (by (try dsimp only); omega) _)⟩
theorem ltell_gone (L : SLoc) (S : Sto) (mk fr tq man maq mrg mpt mpr mco : Int) (now : Nat) (ea : Int → Addr) (w : World) (hE : EnvS ea w) (h : StoreAt L S w) (hG : StoGood S) (hto : tq = S.node) (h17 : mk ≠ 17) (hk : mk = 15 ∨ mk ≠ 15 ∧ isUp mk = true) (hg : lGet S man maq = none) : Calls Tryz.prog 64 #[.pointer (some ⟨L.sb, 0, none⟩), .agg #[mk, fr, tq, man, maq, mrg, mpt, mpr, mco], flV now] w (ResR (lGone S ⟨mk, fr, tq, man, maq, mrg, mpt, mpr, mco⟩) w) := by
 have HND := qq (fun W hW => node_of L S W hW)
 have H := qq h; have HE := qq hE
 have dto : (tq != S.node) = false := by simpa using hto
 clear hto
 have d17 : (mk == 17) = false := by simpa using h17
 clear h17
 have HUp := qq (fun W => letterUp_of mk W)
 have HGo := qq (fun W h1 h2 => lgone_of L S ⟨mk, fr, tq, man, maq, mrg, mpt, mpr, mco⟩ ea W h1 h2 (hk.imp id And.right))
 unfold ResR at *
 obtain ⟨r, hr⟩ : ∃ r, r = lGone S ⟨mk, fr, tq, man, maq, mrg, mpt, mpr, mco⟩ := ⟨_, rfl⟩
 rw [← hr] at HGo ⊢
 dsimp only [msgV, msgA] at HGo
 have hk : (mk != 15) = false ∨ (mk != 15) = true ∧ isUp mk = true := hk.imp (fun e => by simpa using e) (fun e => ⟨by simpa using e.1, e.2⟩)
 have HF := qq (fun W hW => lfind_none L S man maq mrg W hW hG hg)
 clear hg hr
 clear h hE hG
 rcases hk with k15 | ⟨k15, hUp⟩
 all_goals
  go_enter Tryz.func64, Tryz.ntmps64
  go_wp2_with fail
  refine reg_start (fun w' => Blk w' _ _ ∧ Blk w' _ _ ∧ Below w.heap.size w w') (by kernel_rfl) ⟨((Blk.fresh _ _ _ (w.heap.size) (by simp)).alloc _).drew, (Blk.fresh _ _ _ (w.heap.size + 1) (by simp)).drew, (bel_drew (bel_alloc (bel_alloc (Below.refl w.heap.size w) _) _))⟩ ?_
  rintro w1 hHeld
  obtain ⟨K1', K2', HB'⟩ := id hHeld
  have K1 := qq K1'; have K2 := qq K2'; have HB := qq HB'; clear K1' K2' HB'
  have z1 := HB.out.size
  refine takeM (d := some 11) 0 rfl rfl hHeld (fun w' _ => by go_simp; (try rfl)) ?_
  simp only [puts]
  refine takeM (d := some 12) 1 rfl rfl hHeld (fun w' hS' => by have qA := hS'.1.cell; clear hS'; go_simp; (try rfl)) ?_
  simp only [puts]
  refine takeM (d := some 13) 2 rfl rfl hHeld (fun w' _ => by go_simp; (try rfl)) ?_
  simp only [puts]
  refine one_M 3 (by kernel_rfl) ?_
  refine wpOp_call (d := some 14) 3 94 _ _ [.pointer (some ⟨L.sb, 0, none⟩)] rfl rfl rfl (enters_of Tryz.func94 (by kernel_rfl) rfl) (by rfl) (by rfl) ?_
  refine (HND.out _ (H.out.below HB.out)).mono ?_
  rintro e w2 ⟨rfl, rfl⟩
  refine ret_S hHeld (fun hHeld => ?_)
  simp only [puts]
  refine takeM (d := some 15) 4 rfl rfl hHeld (fun w' _ => by go_simp; (try rfl)) ?_
  simp only [puts]
  refine takeM (d := some 10) 5 rfl rfl hHeld (fun w' _ => by go_simp; (try rfl)) ?_
  simp only [puts]
  refine doneM (by kernel_rfl) ?_ _
  clear hHeld
  obtain ⟨lK1, qK1, fK1⟩ := K1.out
  obtain ⟨lK2, qK2, fK2⟩ := K2.out
  go_wp2_with fail
  clear qK1 fK1 lK1 qK2 fK2 lK2
  (try (refine (HUp.out _).mono ?_; rintro e w3 ⟨rfl, rfl⟩))
  obtain ⟨lK1, qK1, fK1⟩ := K1.out
  obtain ⟨lK2, qK2, fK2⟩ := K2.out
  go_wp2_with fail
  clear qK1 fK1 lK1 qK2 fK2 lK2
  refine (HF.out _ (H.out.below HB.out)).mono ?_
  rintro e w4 ⟨rfl, hb4⟩
  have K1 := qq (K1.out.below hb4)
  have K2 := qq (K2.out.below hb4)
  have HB := qq (below_then HB.out hb4)
  have z4 := HB.out.size
  clear hb4
  have o3K1 := K1.out.lt; have o3K2 := K2.out.lt
  obtain ⟨lK1, qK1, fK1⟩ := K1.out
  obtain ⟨lK2, qK2, fK2⟩ := K2.out
  go_wp2_with fail
  clear qK1 fK1 lK1 qK2 fK2 lK2
  have oR := K2.out.lt
  refine (HGo.out _ (HE.out.below (bel_alloc HB.out _)) (H.out.below (bel_alloc HB.out _))).mono ?_
  rintro e w5 ⟨a5, c5, b5, d5, rfl, hR5, hb5⟩
  have K1 := qq ((K1.out.alloc _).below hb5)
  have K2 := qq ((K2.out.alloc _).below hb5)
  have HB := qq (below_then (bel_alloc HB.out _) hb5)
  have z5 := HB.out.size
  clear hb5
  obtain ⟨lK1, qK1, fK1⟩ := K1.out
  obtain ⟨lK2, qK2, fK2⟩ := K2.out
  go_wp2_with fail
  have hV0 := (((K2.out.set' 0 (by simp) (.slice a5 r.fs.length c5)).set' 1 (by simp) (.slice b5 r.ms.length d5)).set' 2 (by simp) (.int .i64 r.wk))
  have hVq0 := hV0.cell; have hVf0 := hV0.free
  refine bodyPost_ret (v := .agg #[.slice a5 r.fs.length c5, .slice b5 r.ms.length d5, r.wk]) (by simp [results, Tryz.results64, go_sem, hVq0, hVf0]) rfl ?_
  clear qK1 fK1 lK1 qK2 fK2 lK2
  exact ⟨a5, c5, b5, d5, rfl, (hR5.put3 (w.heap.size + 1) (by first | omega | (simp; done) | (simp; omega)) _ _ _).mono (by first | omega | (simp; done) | (simp; omega)), (bel_set (bel_set (bel_set HB.out (p := ⟨w.heap.size + 1, 0, none⟩) (by (try dsimp only); omega) _) (p := ⟨w.heap.size + 1, 1, none⟩) (by (try dsimp only); omega) _) (p := ⟨w.heap.size + 1, 2, none⟩) (by (try dsimp only); omega) _)⟩
theorem ltell_noreg (L : SLoc) (S : Sto) (mk fr tq man maq mrg mpt mpr mco : Int) (now : Nat) (ea : Int → Addr) (w : World) (hE : EnvS ea w) (h : StoreAt L S w) (hG : StoGood S) (hto : tq = S.node) (h17 : mk ≠ 17) (hk : mk = 15 ∨ mk ≠ 15 ∧ isUp mk = true) (i : Nat) (a : SAct) (hg : lGet S man maq = some (i, a)) (hr : lReg a mrg = none) : Calls Tryz.prog 64 #[.pointer (some ⟨L.sb, 0, none⟩), .agg #[mk, fr, tq, man, maq, mrg, mpt, mpr, mco], flV now] w (ResR ⟨[], [ans ⟨mk, fr, tq, man, maq, mrg, mpt, mpr, mco⟩ 19 3], 0⟩ w) := by
 have HND := qq (fun W hW => node_of L S W hW)
 have H := qq h; have HE := qq hE
 have dto : (tq != S.node) = false := by simpa using hto
 clear hto
 have d17 : (mk == 17) = false := by simpa using h17
 clear h17
 have HUp := qq (fun W => letterUp_of mk W)
 have hk : (mk != 15) = false ∨ (mk != 15) = true ∧ isUp mk = true := hk.imp (fun e => by simpa using e) (fun e => ⟨by simpa using e.1, e.2⟩)
 have HF := qq (fun W hW => lfind_noreg L S man maq mrg i a W hW hG hg hr)
 clear hg hr
 clear h hE hG
 rcases hk with k15 | ⟨k15, hUp⟩
 all_goals
  go_enter Tryz.func64, Tryz.ntmps64
  go_wp2_with fail
  refine reg_start (fun w' => Blk w' _ _ ∧ Blk w' _ _ ∧ Below w.heap.size w w') (by kernel_rfl) ⟨((Blk.fresh _ _ _ (w.heap.size) (by simp)).alloc _).drew, (Blk.fresh _ _ _ (w.heap.size + 1) (by simp)).drew, (bel_drew (bel_alloc (bel_alloc (Below.refl w.heap.size w) _) _))⟩ ?_
  rintro w1 hHeld
  obtain ⟨K1', K2', HB'⟩ := id hHeld
  have K1 := qq K1'; have K2 := qq K2'; have HB := qq HB'; clear K1' K2' HB'
  have z1 := HB.out.size
  refine takeM (d := some 11) 0 rfl rfl hHeld (fun w' _ => by go_simp; (try rfl)) ?_
  simp only [puts]
  refine takeM (d := some 12) 1 rfl rfl hHeld (fun w' hS' => by have qA := hS'.1.cell; clear hS'; go_simp; (try rfl)) ?_
  simp only [puts]
  refine takeM (d := some 13) 2 rfl rfl hHeld (fun w' _ => by go_simp; (try rfl)) ?_
  simp only [puts]
  refine one_M 3 (by kernel_rfl) ?_
  refine wpOp_call (d := some 14) 3 94 _ _ [.pointer (some ⟨L.sb, 0, none⟩)] rfl rfl rfl (enters_of Tryz.func94 (by kernel_rfl) rfl) (by rfl) (by rfl) ?_
  refine (HND.out _ (H.out.below HB.out)).mono ?_
  rintro e w2 ⟨rfl, rfl⟩
  refine ret_S hHeld (fun hHeld => ?_)
  simp only [puts]
  refine takeM (d := some 15) 4 rfl rfl hHeld (fun w' _ => by go_simp; (try rfl)) ?_
  simp only [puts]
  refine takeM (d := some 10) 5 rfl rfl hHeld (fun w' _ => by go_simp; (try rfl)) ?_
  simp only [puts]
  refine doneM (by kernel_rfl) ?_ _
  clear hHeld
  obtain ⟨lK1, qK1, fK1⟩ := K1.out
  obtain ⟨lK2, qK2, fK2⟩ := K2.out
  go_wp2_with fail
  clear qK1 fK1 lK1 qK2 fK2 lK2
  (try (refine (HUp.out _).mono ?_; rintro e w3 ⟨rfl, rfl⟩))
  obtain ⟨lK1, qK1, fK1⟩ := K1.out
  obtain ⟨lK2, qK2, fK2⟩ := K2.out
  go_wp2_with fail
  clear qK1 fK1 lK1 qK2 fK2 lK2
  refine (HF.out _ (H.out.below HB.out)).mono ?_
  rintro e w4 ⟨rfl, hb4⟩
  have K1 := qq (K1.out.below hb4)
  have K2 := qq (K2.out.below hb4)
  have HB := qq (below_then HB.out hb4)
  have z4 := HB.out.size
  clear hb4
  have o3K1 := K1.out.lt; have o3K2 := K2.out.lt
  obtain ⟨lK1, qK1, fK1⟩ := K1.out
  obtain ⟨lK2, qK2, fK2⟩ := K2.out
  go_wp2_with fail
  clear qK1 fK1 lK1 qK2 fK2 lK2
  have oR := K2.out.lt
  refine (lanswer_of ⟨mk, fr, tq, man, maq, mrg, mpt, mpr, mco⟩ 19 3 _).mono ?_
  rintro e w5 ⟨a5, c5, b5, d5, rfl, hR5, hb5⟩
  have K1 := qq ((K1.out.alloc _).below hb5)
  have K2 := qq ((K2.out.alloc _).below hb5)
  have HB := qq (below_then (bel_alloc HB.out _) hb5)
  have z5 := HB.out.size
  clear hb5
  obtain ⟨lK1, qK1, fK1⟩ := K1.out
  obtain ⟨lK2, qK2, fK2⟩ := K2.out
  go_wp2_with fail
  have hV0 := (((K2.out.set' 0 (by simp) (.slice a5 0 c5)).set' 1 (by simp) (.slice b5 1 d5)).set' 2 (by simp) (.int .i64 0))
  have hVq0 := hV0.cell; have hVf0 := hV0.free
  refine bodyPost_ret (v := .agg #[.slice a5 0 c5, .slice b5 1 d5, .int .i64 0]) (by simp [results, Tryz.results64, go_sem, hVq0, hVf0]) rfl ?_
  clear qK1 fK1 lK1 qK2 fK2 lK2
  exact ⟨a5, c5, b5, d5, rfl, (hR5.put3 (w.heap.size + 1) (by first | omega | (simp; done) | (simp; omega)) _ _ _).mono (by first | omega | (simp; done) | (simp; omega)), (bel_set (bel_set (bel_set HB.out (p := ⟨w.heap.size + 1, 0, none⟩) (by (try dsimp only); omega) _) (p := ⟨w.heap.size + 1, 1, none⟩) (by (try dsimp only); omega) _) (p := ⟨w.heap.size + 1, 2, none⟩) (by (try dsimp only); omega) _)⟩
theorem ltell_wrong1 (L : SLoc) (S : Sto) (mk fr tq man maq mrg mpt mpr mco : Int) (now : Nat) (ea : Int → Addr) (w : World) (hE : EnvS ea w) (h : StoreAt L S w) (hG : StoGood S) (hto : tq = S.node) (h17 : mk ≠ 17) (hk : mk = 15 ∨ mk ≠ 15 ∧ isUp mk = true) (i : Nat) (a : SAct) (hg : lGet S man maq = some (i, a)) (r : SReg) (hr : lReg a mrg = some r) (hn : r.n ≠ fr) : Calls Tryz.prog 64 #[.pointer (some ⟨L.sb, 0, none⟩), .agg #[mk, fr, tq, man, maq, mrg, mpt, mpr, mco], flV now] w (ResR ⟨[], [ans ⟨mk, fr, tq, man, maq, mrg, mpt, mpr, mco⟩ 19 3], 0⟩ w) := by
 have HND := qq (fun W hW => node_of L S W hW)
 have H := qq h; have HE := qq hE
 have dto : (tq != S.node) = false := by simpa using hto
 clear hto
 have d17 : (mk == 17) = false := by simpa using h17
 clear h17
 have HUp := qq (fun W => letterUp_of mk W)
 have hk : (mk != 15) = false ∨ (mk != 15) = true ∧ isUp mk = true := hk.imp (fun e => by simpa using e) (fun e => ⟨by simpa using e.1, e.2⟩)
 have HF := qq (fun W hW => lfind_yes L S man maq mrg i a r W hW hG hg hr)
 obtain ⟨an, aq, oc, dp, ex, pa, de, rs⟩ := a
 obtain ⟨rn, rp, ⟨sp, sd, ss, sh⟩⟩ := r
 unfold SeatOut at HF
 dsimp only at *
 have dn : (rn != fr) = true := by simpa using hn
 clear hn hg hr
 clear h hE hG
 rcases hk with k15 | ⟨k15, hUp⟩
 all_goals
  go_enter Tryz.func64, Tryz.ntmps64
  go_wp2_with fail
  refine reg_start (fun w' => Blk w' _ _ ∧ Blk w' _ _ ∧ Below w.heap.size w w') (by kernel_rfl) ⟨((Blk.fresh _ _ _ (w.heap.size) (by simp)).alloc _).drew, (Blk.fresh _ _ _ (w.heap.size + 1) (by simp)).drew, (bel_drew (bel_alloc (bel_alloc (Below.refl w.heap.size w) _) _))⟩ ?_
  rintro w1 hHeld
  obtain ⟨K1', K2', HB'⟩ := id hHeld
  have K1 := qq K1'; have K2 := qq K2'; have HB := qq HB'; clear K1' K2' HB'
  have z1 := HB.out.size
  refine takeM (d := some 11) 0 rfl rfl hHeld (fun w' _ => by go_simp; (try rfl)) ?_
  simp only [puts]
  refine takeM (d := some 12) 1 rfl rfl hHeld (fun w' hS' => by have qA := hS'.1.cell; clear hS'; go_simp; (try rfl)) ?_
  simp only [puts]
  refine takeM (d := some 13) 2 rfl rfl hHeld (fun w' _ => by go_simp; (try rfl)) ?_
  simp only [puts]
  refine one_M 3 (by kernel_rfl) ?_
  refine wpOp_call (d := some 14) 3 94 _ _ [.pointer (some ⟨L.sb, 0, none⟩)] rfl rfl rfl (enters_of Tryz.func94 (by kernel_rfl) rfl) (by rfl) (by rfl) ?_
  refine (HND.out _ (H.out.below HB.out)).mono ?_
  rintro e w2 ⟨rfl, rfl⟩
  refine ret_S hHeld (fun hHeld => ?_)
  simp only [puts]
  refine takeM (d := some 15) 4 rfl rfl hHeld (fun w' _ => by go_simp; (try rfl)) ?_
  simp only [puts]
  refine takeM (d := some 10) 5 rfl rfl hHeld (fun w' _ => by go_simp; (try rfl)) ?_
  simp only [puts]
  refine doneM (by kernel_rfl) ?_ _
  clear hHeld
  obtain ⟨lK1, qK1, fK1⟩ := K1.out
  obtain ⟨lK2, qK2, fK2⟩ := K2.out
  go_wp2_with fail
  clear qK1 fK1 lK1 qK2 fK2 lK2
  (try (refine (HUp.out _).mono ?_; rintro e w3 ⟨rfl, rfl⟩))
  obtain ⟨lK1, qK1, fK1⟩ := K1.out
  obtain ⟨lK2, qK2, fK2⟩ := K2.out
  go_wp2_with fail
  clear qK1 fK1 lK1 qK2 fK2 lK2
  refine (HF.out _ (H.out.below HB.out)).mono ?_
  rintro e w4 ⟨va, vn, vc, rfl, hb4⟩
  have K1 := qq (K1.out.below hb4)
  have K2 := qq (K2.out.below hb4)
  have HB := qq (below_then HB.out hb4)
  have z4 := HB.out.size
  clear hb4
  have o3K1 := K1.out.lt; have o3K2 := K2.out.lt
  obtain ⟨lK1, qK1, fK1⟩ := K1.out
  obtain ⟨lK2, qK2, fK2⟩ := K2.out
  go_wp2_with fail
  clear qK1 fK1 lK1 qK2 fK2 lK2
  have oR := K2.out.lt
  refine (lanswer_of ⟨mk, fr, tq, man, maq, mrg, mpt, mpr, mco⟩ 19 3 _).mono ?_
  rintro e w5 ⟨a5, c5, b5, d5, rfl, hR5, hb5⟩
  have K1 := qq ((K1.out.alloc _).below hb5)
  have K2 := qq ((K2.out.alloc _).below hb5)
  have HB := qq (below_then (bel_alloc HB.out _) hb5)
  have z5 := HB.out.size
  clear hb5
  obtain ⟨lK1, qK1, fK1⟩ := K1.out
  obtain ⟨lK2, qK2, fK2⟩ := K2.out
  go_wp2_with fail
  have hV0 := (((K2.out.set' 0 (by simp) (.slice a5 0 c5)).set' 1 (by simp) (.slice b5 1 d5)).set' 2 (by simp) (.int .i64 0))
  have hVq0 := hV0.cell; have hVf0 := hV0.free
  refine bodyPost_ret (v := .agg #[.slice a5 0 c5, .slice b5 1 d5, .int .i64 0]) (by simp [results, Tryz.results64, go_sem, hVq0, hVf0]) rfl ?_
  clear qK1 fK1 lK1 qK2 fK2 lK2
  exact ⟨a5, c5, b5, d5, rfl, (hR5.put3 (w.heap.size + 1) (by first | omega | (simp; done) | (simp; omega)) _ _ _).mono (by first | omega | (simp; done) | (simp; omega)), (bel_set (bel_set (bel_set HB.out (p := ⟨w.heap.size + 1, 0, none⟩) (by (try dsimp only); omega) _) (p := ⟨w.heap.size + 1, 1, none⟩) (by (try dsimp only); omega) _) (p := ⟨w.heap.size + 1, 2, none⟩) (by (try dsimp only); omega) _)⟩
theorem ltell_wrong2 (L : SLoc) (S : Sto) (mk fr tq man maq mrg mpt mpr mco : Int) (now : Nat) (ea : Int → Addr) (w : World) (hE : EnvS ea w) (h : StoreAt L S w) (hG : StoGood S) (hto : tq = S.node) (h17 : mk ≠ 17) (hk : mk = 15 ∨ mk ≠ 15 ∧ isUp mk = true) (i : Nat) (a : SAct) (hg : lGet S man maq = some (i, a)) (r : SReg) (hr : lReg a mrg = some r) (hn : r.n = fr) (hp : r.p ≠ mpt) : Calls Tryz.prog 64 #[.pointer (some ⟨L.sb, 0, none⟩), .agg #[mk, fr, tq, man, maq, mrg, mpt, mpr, mco], flV now] w (ResR ⟨[], [ans ⟨mk, fr, tq, man, maq, mrg, mpt, mpr, mco⟩ 19 3], 0⟩ w) := by
 have HND := qq (fun W hW => node_of L S W hW)
 have H := qq h; have HE := qq hE
 have dto : (tq != S.node) = false := by simpa using hto
 clear hto
 have d17 : (mk == 17) = false := by simpa using h17
 clear h17
 have HUp := qq (fun W => letterUp_of mk W)
 have hk : (mk != 15) = false ∨ (mk != 15) = true ∧ isUp mk = true := hk.imp (fun e => by simpa using e) (fun e => ⟨by simpa using e.1, e.2⟩)
 have HF := qq (fun W hW => lfind_yes L S man maq mrg i a r W hW hG hg hr)
 obtain ⟨an, aq, oc, dp, ex, pa, de, rs⟩ := a
 obtain ⟨rn, rp, ⟨sp, sd, ss, sh⟩⟩ := r
 unfold SeatOut at HF
 dsimp only at *
 have dn : (rn != fr) = false := by simpa using hn
 have dp1 : (rp != mpt) = true := by simpa using hp
 clear hn hp hg hr
 clear h hE hG
 rcases hk with k15 | ⟨k15, hUp⟩
 all_goals
  go_enter Tryz.func64, Tryz.ntmps64
  go_wp2_with fail
  refine reg_start (fun w' => Blk w' _ _ ∧ Blk w' _ _ ∧ Below w.heap.size w w') (by kernel_rfl) ⟨((Blk.fresh _ _ _ (w.heap.size) (by simp)).alloc _).drew, (Blk.fresh _ _ _ (w.heap.size + 1) (by simp)).drew, (bel_drew (bel_alloc (bel_alloc (Below.refl w.heap.size w) _) _))⟩ ?_
  rintro w1 hHeld
  obtain ⟨K1', K2', HB'⟩ := id hHeld
  have K1 := qq K1'; have K2 := qq K2'; have HB := qq HB'; clear K1' K2' HB'
  have z1 := HB.out.size
  refine takeM (d := some 11) 0 rfl rfl hHeld (fun w' _ => by go_simp; (try rfl)) ?_
  simp only [puts]
  refine takeM (d := some 12) 1 rfl rfl hHeld (fun w' hS' => by have qA := hS'.1.cell; clear hS'; go_simp; (try rfl)) ?_
  simp only [puts]
  refine takeM (d := some 13) 2 rfl rfl hHeld (fun w' _ => by go_simp; (try rfl)) ?_
  simp only [puts]
  refine one_M 3 (by kernel_rfl) ?_
  refine wpOp_call (d := some 14) 3 94 _ _ [.pointer (some ⟨L.sb, 0, none⟩)] rfl rfl rfl (enters_of Tryz.func94 (by kernel_rfl) rfl) (by rfl) (by rfl) ?_
  refine (HND.out _ (H.out.below HB.out)).mono ?_
  rintro e w2 ⟨rfl, rfl⟩
  refine ret_S hHeld (fun hHeld => ?_)
  simp only [puts]
  refine takeM (d := some 15) 4 rfl rfl hHeld (fun w' _ => by go_simp; (try rfl)) ?_
  simp only [puts]
  refine takeM (d := some 10) 5 rfl rfl hHeld (fun w' _ => by go_simp; (try rfl)) ?_
  simp only [puts]
  refine doneM (by kernel_rfl) ?_ _
  clear hHeld
  obtain ⟨lK1, qK1, fK1⟩ := K1.out
  obtain ⟨lK2, qK2, fK2⟩ := K2.out
  go_wp2_with fail
  clear qK1 fK1 lK1 qK2 fK2 lK2
  (try (refine (HUp.out _).mono ?_; rintro e w3 ⟨rfl, rfl⟩))
  obtain ⟨lK1, qK1, fK1⟩ := K1.out
  obtain ⟨lK2, qK2, fK2⟩ := K2.out
  go_wp2_with fail
  clear qK1 fK1 lK1 qK2 fK2 lK2
  refine (HF.out _ (H.out.below HB.out)).mono ?_
  rintro e w4 ⟨va, vn, vc, rfl, hb4⟩
  have K1 := qq (K1.out.below hb4)
  have K2 := qq (K2.out.below hb4)
  have HB := qq (below_then HB.out hb4)
  have z4 := HB.out.size
  clear hb4
  have o3K1 := K1.out.lt; have o3K2 := K2.out.lt
  obtain ⟨lK1, qK1, fK1⟩ := K1.out
  obtain ⟨lK2, qK2, fK2⟩ := K2.out
  go_wp2_with fail
  clear qK1 fK1 lK1 qK2 fK2 lK2
  have oR := K2.out.lt
  refine (lanswer_of ⟨mk, fr, tq, man, maq, mrg, mpt, mpr, mco⟩ 19 3 _).mono ?_
  rintro e w5 ⟨a5, c5, b5, d5, rfl, hR5, hb5⟩
  have K1 := qq ((K1.out.alloc _).below hb5)
  have K2 := qq ((K2.out.alloc _).below hb5)
  have HB := qq (below_then (bel_alloc HB.out _) hb5)
  have z5 := HB.out.size
  clear hb5
  obtain ⟨lK1, qK1, fK1⟩ := K1.out
  obtain ⟨lK2, qK2, fK2⟩ := K2.out
  go_wp2_with fail
  have hV0 := (((K2.out.set' 0 (by simp) (.slice a5 0 c5)).set' 1 (by simp) (.slice b5 1 d5)).set' 2 (by simp) (.int .i64 0))
  have hVq0 := hV0.cell; have hVf0 := hV0.free
  refine bodyPost_ret (v := .agg #[.slice a5 0 c5, .slice b5 1 d5, .int .i64 0]) (by simp [results, Tryz.results64, go_sem, hVq0, hVf0]) rfl ?_
  clear qK1 fK1 lK1 qK2 fK2 lK2
  exact ⟨a5, c5, b5, d5, rfl, (hR5.put3 (w.heap.size + 1) (by first | omega | (simp; done) | (simp; omega)) _ _ _).mono (by first | omega | (simp; done) | (simp; omega)), (bel_set (bel_set (bel_set HB.out (p := ⟨w.heap.size + 1, 0, none⟩) (by (try dsimp only); omega) _) (p := ⟨w.heap.size + 1, 1, none⟩) (by (try dsimp only); omega) _) (p := ⟨w.heap.size + 1, 2, none⟩) (by (try dsimp only); omega) _)⟩
theorem ltell_ask (L : SLoc) (S : Sto) (mk fr tq man maq mrg mpt mpr mco : Int) (now : Nat) (ea : Int → Addr) (w : World) (hE : EnvS ea w) (h : StoreAt L S w) (hG : StoGood S) (hto : tq = S.node) (h15 : mk = 15) (i : Nat) (a : SAct) (hg : lGet S man maq = some (i, a)) (r : SReg) (hr : lReg a mrg = some r) (hn : r.n = fr) (hp : r.p = mpt) : Calls Tryz.prog 64 #[.pointer (some ⟨L.sb, 0, none⟩), .agg #[mk, fr, tq, man, maq, mrg, mpt, mpr, mco], flV now] w (ResR ⟨[], [ans ⟨mk, fr, tq, man, maq, mrg, mpt, mpr, mco⟩ 16 r.seat.s], 0⟩ w) := by
 have HND := qq (fun W hW => node_of L S W hW)
 have H := qq h; have HE := qq hE
 have dto : (tq != S.node) = false := by simpa using hto
 clear hto
 have d17 : (mk == 17) = false := by rw [h15]; rfl
 have d15 : (mk != 15) = false := by simpa using h15
 have e15 : (mk == 15) = true := by simpa using h15
 clear h15
 have HF := qq (fun W hW => lfind_yes L S man maq mrg i a r W hW hG hg hr)
 obtain ⟨an, aq, oc, dp, ex, pa, de, rs⟩ := a
 obtain ⟨rn, rp, ⟨sp, sd, ss, sh⟩⟩ := r
 unfold SeatOut at HF
 dsimp only at *
 have dn : (rn != fr) = false := by simpa using hn
 have dp1 : (rp != mpt) = false := by simpa using hp
 clear hn hp hg hr
 clear h hE hG
 go_enter Tryz.func64, Tryz.ntmps64
 go_wp2_with fail
 refine reg_start (fun w' => Blk w' _ _ ∧ Blk w' _ _ ∧ Below w.heap.size w w') (by kernel_rfl) ⟨((Blk.fresh _ _ _ (w.heap.size) (by simp)).alloc _).drew, (Blk.fresh _ _ _ (w.heap.size + 1) (by simp)).drew, (bel_drew (bel_alloc (bel_alloc (Below.refl w.heap.size w) _) _))⟩ ?_
 rintro w1 hHeld
 obtain ⟨K1', K2', HB'⟩ := id hHeld
 have K1 := qq K1'; have K2 := qq K2'; have HB := qq HB'; clear K1' K2' HB'
 have z1 := HB.out.size
 refine takeM (d := some 11) 0 rfl rfl hHeld (fun w' _ => by go_simp; (try rfl)) ?_
 simp only [puts]
 refine takeM (d := some 12) 1 rfl rfl hHeld (fun w' hS' => by have qA := hS'.1.cell; clear hS'; go_simp; (try rfl)) ?_
 simp only [puts]
 refine takeM (d := some 13) 2 rfl rfl hHeld (fun w' _ => by go_simp; (try rfl)) ?_
 simp only [puts]
 refine one_M 3 (by kernel_rfl) ?_
 refine wpOp_call (d := some 14) 3 94 _ _ [.pointer (some ⟨L.sb, 0, none⟩)] rfl rfl rfl (enters_of Tryz.func94 (by kernel_rfl) rfl) (by rfl) (by rfl) ?_
 refine (HND.out _ (H.out.below HB.out)).mono ?_
 rintro e w2 ⟨rfl, rfl⟩
 refine ret_S hHeld (fun hHeld => ?_)
 simp only [puts]
 refine takeM (d := some 15) 4 rfl rfl hHeld (fun w' _ => by go_simp; (try rfl)) ?_
 simp only [puts]
 refine takeM (d := some 10) 5 rfl rfl hHeld (fun w' _ => by go_simp; (try rfl)) ?_
 simp only [puts]
 refine doneM (by kernel_rfl) ?_ _
 clear hHeld
 obtain ⟨lK1, qK1, fK1⟩ := K1.out
 obtain ⟨lK2, qK2, fK2⟩ := K2.out
 go_wp2_with fail
 clear qK1 fK1 lK1 qK2 fK2 lK2
 refine (HF.out _ (H.out.below HB.out)).mono ?_
 rintro e w3 ⟨va, vn, vc, rfl, hb3⟩
 have K1 := qq (K1.out.below hb3)
 have K2 := qq (K2.out.below hb3)
 have HB := qq (below_then HB.out hb3)
 have z3 := HB.out.size
 clear hb3
 have o3K1 := K1.out.lt; have o3K2 := K2.out.lt
 obtain ⟨lK1, qK1, fK1⟩ := K1.out
 obtain ⟨lK2, qK2, fK2⟩ := K2.out
 go_wp2_with fail
 clear qK1 fK1 lK1 qK2 fK2 lK2
 have oR := K2.out.lt
 refine (lanswer_of ⟨mk, fr, tq, man, maq, mrg, mpt, mpr, mco⟩ 16 ss _).mono ?_
 rintro e w4 ⟨a5, c5, b5, d5, rfl, hR5, hb4⟩
 have K1 := qq ((K1.out.alloc _).below hb4)
 have K2 := qq ((K2.out.alloc _).below hb4)
 have K3 := qq ((Blk.fresh _ _ _ (w3.heap.size) (by simp)).below hb4)
 have HB := qq (below_then (bel_alloc HB.out _) hb4)
 have z4 := HB.out.size
 clear hb4
 obtain ⟨lK1, qK1, fK1⟩ := K1.out
 obtain ⟨lK2, qK2, fK2⟩ := K2.out
 obtain ⟨lK3, qK3, fK3⟩ := K3.out
 go_wp2_with fail
 have hV0 := (((K2.out.set' 0 (by simp) (.slice a5 0 c5)).set' 1 (by simp) (.slice b5 1 d5)).set' 2 (by simp) (.int .i64 0))
 have hVq0 := hV0.cell; have hVf0 := hV0.free
 refine bodyPost_ret (v := .agg #[.slice a5 0 c5, .slice b5 1 d5, .int .i64 0]) (by simp [results, Tryz.results64, go_sem, hVq0, hVf0]) rfl ?_
 clear qK1 fK1 lK1 qK2 fK2 lK2 qK3 fK3 lK3
 exact ⟨a5, c5, b5, d5, rfl, (hR5.put3 (w.heap.size + 1) (by first | omega | (simp; done) | (simp; omega)) _ _ _).mono (by first | omega | (simp; done) | (simp; omega)), (bel_set (bel_set (bel_set HB.out (p := ⟨w.heap.size + 1, 0, none⟩) (by (try dsimp only); omega) _) (p := ⟨w.heap.size + 1, 1, none⟩) (by (try dsimp only); omega) _) (p := ⟨w.heap.size + 1, 2, none⟩) (by (try dsimp only); omega) _)⟩
theorem ltell_up (L : SLoc) (S : Sto) (mk fr tq man maq mrg mpt mpr mco : Int) (now : Nat) (ea : Int → Addr) (w : World) (hE : EnvS ea w) (h : StoreAt L S w) (hG : StoGood S) (hto : tq = S.node) (h17 : mk ≠ 17) (h15 : mk ≠ 15) (hu : isUp mk = true) (i : Nat) (a : SAct) (hg : lGet S man maq = some (i, a)) (r : SReg) (hr : lReg a mrg = some r) (hn : r.n = fr) (hp : r.p = mpt) : Calls Tryz.prog 64 #[.pointer (some ⟨L.sb, 0, none⟩), .agg #[mk, fr, tq, man, maq, mrg, mpt, mpr, mco], flV now] w (ResR (lUp S a r ⟨mk, fr, tq, man, maq, mrg, mpt, mpr, mco⟩) w) := by
 have HND := qq (fun W hW => node_of L S W hW)
 have H := qq h; have HE := qq hE
 have dto : (tq != S.node) = false := by simpa using hto
 clear hto
 have d17 : (mk == 17) = false := by simpa using h17
 clear h17
 have HUp := qq (fun W => letterUp_of mk W)
 rw [hu] at HUp
 have d15 : (mk != 15) = true := by simpa using h15
 have e15 : (mk == 15) = false := by simpa using h15
 have HF := qq (fun W hW => lfind_yes L S man maq mrg i a r W hW hG hg hr)
 have hrr := (hG.act a (lGet_some hg).2.2.1).reg r (lReg_mem hr)
 have HU := qq (fun va vn vc W h1 => lup_of S a r mk fr tq man maq mrg mpt mpr mco va vn vc S.node rfl ea W h1 hrr.2.2.2.2.2 hrr.2.2.2.2.1 hu)
 unfold ResR at *
 obtain ⟨x, hx⟩ : ∃ x, x = lUp S a r ⟨mk, fr, tq, man, maq, mrg, mpt, mpr, mco⟩ := ⟨_, rfl⟩
 rw [← hx] at HU ⊢
 clear h15 hu hx hrr
 obtain ⟨an, aq, oc, dp, ex, pa, de, rs⟩ := a
 obtain ⟨rn, rp, ⟨sp, sd, ss, sh⟩⟩ := r
 unfold SeatOut at HF
 dsimp only at *
 have dn : (rn != fr) = false := by simpa using hn
 have dp1 : (rp != mpt) = false := by simpa using hp
 clear hn hp hg hr
 clear h hE hG
 go_enter Tryz.func64, Tryz.ntmps64
 go_wp2_with fail
 refine reg_start (fun w' => Blk w' _ _ ∧ Blk w' _ _ ∧ Below w.heap.size w w') (by kernel_rfl) ⟨((Blk.fresh _ _ _ (w.heap.size) (by simp)).alloc _).drew, (Blk.fresh _ _ _ (w.heap.size + 1) (by simp)).drew, (bel_drew (bel_alloc (bel_alloc (Below.refl w.heap.size w) _) _))⟩ ?_
 rintro w1 hHeld
 obtain ⟨K1', K2', HB'⟩ := id hHeld
 have K1 := qq K1'; have K2 := qq K2'; have HB := qq HB'; clear K1' K2' HB'
 have z1 := HB.out.size
 refine takeM (d := some 11) 0 rfl rfl hHeld (fun w' _ => by go_simp; (try rfl)) ?_
 simp only [puts]
 refine takeM (d := some 12) 1 rfl rfl hHeld (fun w' hS' => by have qA := hS'.1.cell; clear hS'; go_simp; (try rfl)) ?_
 simp only [puts]
 refine takeM (d := some 13) 2 rfl rfl hHeld (fun w' _ => by go_simp; (try rfl)) ?_
 simp only [puts]
 refine one_M 3 (by kernel_rfl) ?_
 refine wpOp_call (d := some 14) 3 94 _ _ [.pointer (some ⟨L.sb, 0, none⟩)] rfl rfl rfl (enters_of Tryz.func94 (by kernel_rfl) rfl) (by rfl) (by rfl) ?_
 refine (HND.out _ (H.out.below HB.out)).mono ?_
 rintro e w2 ⟨rfl, rfl⟩
 refine ret_S hHeld (fun hHeld => ?_)
 simp only [puts]
 refine takeM (d := some 15) 4 rfl rfl hHeld (fun w' _ => by go_simp; (try rfl)) ?_
 simp only [puts]
 refine takeM (d := some 10) 5 rfl rfl hHeld (fun w' _ => by go_simp; (try rfl)) ?_
 simp only [puts]
 refine doneM (by kernel_rfl) ?_ _
 clear hHeld
 obtain ⟨lK1, qK1, fK1⟩ := K1.out
 obtain ⟨lK2, qK2, fK2⟩ := K2.out
 go_wp2_with fail
 clear qK1 fK1 lK1 qK2 fK2 lK2
 refine (HUp.out _).mono ?_
 rintro e w3 ⟨rfl, rfl⟩
 obtain ⟨lK1, qK1, fK1⟩ := K1.out
 obtain ⟨lK2, qK2, fK2⟩ := K2.out
 go_wp2_with fail
 clear qK1 fK1 lK1 qK2 fK2 lK2
 refine (HF.out _ (H.out.below HB.out)).mono ?_
 rintro e w4 ⟨va, vn, vc, rfl, hb4⟩
 have K1 := qq (K1.out.below hb4)
 have K2 := qq (K2.out.below hb4)
 have HB := qq (below_then HB.out hb4)
 have z4 := HB.out.size
 clear hb4
 have o3K1 := K1.out.lt; have o3K2 := K2.out.lt
 obtain ⟨lK1, qK1, fK1⟩ := K1.out
 obtain ⟨lK2, qK2, fK2⟩ := K2.out
 go_wp2_with fail
 clear qK1 fK1 lK1 qK2 fK2 lK2
 have oR := K2.out.lt
 refine (HU.out _ _ _ _ (HE.out.below (bel_alloc HB.out _))).mono ?_
 rintro e w5 ⟨a5, c5, b5, d5, rfl, hR5, hb5⟩
 have K1 := qq ((K1.out.alloc _).below hb5)
 have K2 := qq ((K2.out.alloc _).below hb5)
 have K3 := qq ((Blk.fresh _ _ _ (w4.heap.size) (by simp)).below hb5)
 have HB := qq (below_then (bel_alloc HB.out _) hb5)
 have z5 := HB.out.size
 clear hb5
 obtain ⟨lK1, qK1, fK1⟩ := K1.out
 obtain ⟨lK2, qK2, fK2⟩ := K2.out
 obtain ⟨lK3, qK3, fK3⟩ := K3.out
 go_wp2_with fail
 have hV0 := (((K2.out.set' 0 (by simp) (.slice a5 x.fs.length c5)).set' 1 (by simp) (.slice b5 x.ms.length d5)).set' 2 (by simp) (.int .i64 x.wk))
 have hVq0 := hV0.cell; have hVf0 := hV0.free
 refine bodyPost_ret (v := .agg #[.slice a5 x.fs.length c5, .slice b5 x.ms.length d5, x.wk]) (by simp [results, Tryz.results64, go_sem, hVq0, hVf0]) rfl ?_
 clear qK1 fK1 lK1 qK2 fK2 lK2 qK3 fK3 lK3
 exact ⟨a5, c5, b5, d5, rfl, (hR5.put3 (w.heap.size + 1) (by first | omega | (simp; done) | (simp; omega)) _ _ _).mono (by first | omega | (simp; done) | (simp; omega)), (bel_set (bel_set (bel_set HB.out (p := ⟨w.heap.size + 1, 0, none⟩) (by (try dsimp only); omega) _) (p := ⟨w.heap.size + 1, 1, none⟩) (by (try dsimp only); omega) _) (p := ⟨w.heap.size + 1, 2, none⟩) (by (try dsimp only); omega) _)⟩
theorem ltell_of (L : SLoc) (S : Sto) (m : SMsg) (now : Nat) (ea : Int → Addr) (w : World) (hE : EnvS ea w) (h : StoreAt L S w) (hG : StoGood S) (hn64 : F64 now) : Calls Tryz.prog 64 #[.pointer (some ⟨L.sb, 0, none⟩), msgV m, flV now] w (ResR (lTell S m now) w) := by
 obtain ⟨mk, fr, tq, man, maq, mrg, mpt, mpr, mco⟩ := m
 unfold lTell
 dsimp only [msgV, msgA]
 by_cases hto : tq = S.node
 case neg => rw [if_pos hto]; exact ltell_to L S mk fr tq man maq mrg mpt mpr mco now ea w hE h hG hto
 rw [if_neg (by simpa using hto)]
 by_cases h17 : mk = 17
 · rw [if_pos h17]; exact ltell_reg L S mk fr tq man maq mrg mpt mpr mco now ea w hE h hG hn64 hto h17
 rw [if_neg h17]
 by_cases hup : mk ≠ 15 ∧ isUp mk = false
 · rw [if_pos hup]; exact ltell_not L S mk fr tq man maq mrg mpt mpr mco now ea w hE h hG hto h17 hup.1 hup.2
 rw [if_neg hup]
 have hk : mk = 15 ∨ mk ≠ 15 ∧ isUp mk = true := by
  by_cases h15 : mk = 15
  · exact .inl h15
  · refine .inr ⟨h15, ?_⟩
    cases hb : isUp mk with
    | true => rfl
    | false => exact absurd ⟨h15, hb⟩ hup
 cases hg : lGet S man maq with
 | none => exact ltell_gone L S mk fr tq man maq mrg mpt mpr mco now ea w hE h hG hto h17 hk hg
 | some x =>
  obtain ⟨i, a⟩ := x
  dsimp only
  cases hr : lReg a mrg with
  | none => exact ltell_noreg L S mk fr tq man maq mrg mpt mpr mco now ea w hE h hG hto h17 hk i a hg hr
  | some r =>
   dsimp only
   by_cases hn : r.n = fr
   case neg => rw [if_pos (.inl hn)]; exact ltell_wrong1 L S mk fr tq man maq mrg mpt mpr mco now ea w hE h hG hto h17 hk i a hg r hr hn
   by_cases hp : r.p = mpt
   case neg => rw [if_pos (.inr hp)]; exact ltell_wrong2 L S mk fr tq man maq mrg mpt mpr mco now ea w hE h hG hto h17 hk i a hg r hr hn hp
   rw [if_neg (by rintro (e | e); exact e hn; exact e hp)]
   by_cases h15 : mk = 15
   · rw [if_pos h15]; exact ltell_ask L S mk fr tq man maq mrg mpt mpr mco now ea w hE h hG hto h15 i a hg r hr hn hp
   · rw [if_neg h15]; exact ltell_up L S mk fr tq man maq mrg mpt mpr mco now ea w hE h hG hto h17 h15 (hk.resolve_left h15).2 i a hg r hr hn hp
end Go.Proofs.YtlkajejbfojkeaaGreatDoor
