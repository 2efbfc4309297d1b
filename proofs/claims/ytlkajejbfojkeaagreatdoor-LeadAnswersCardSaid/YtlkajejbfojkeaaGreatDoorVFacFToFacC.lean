/- FacF, FacC -/
import Derived.Test.YtlkajejbfojkeaaGreatDoorVFacB
set_option linter.unusedSimpArgs false
set_option linter.unusedVariables false
set_option maxRecDepth 100000
set_option maxHeartbeats 16000000
namespace Go.Proofs.YtlkajejbfojkeaaGreatDoor
open Go.RowKit Go.Shelf
attribute [local go_sem] store_float
theorem factsSame_of (a0 a1 a2 a3 a4 a5 a6 a7 a8 a9 a10 a11 a12 b0 b1 b2 b3 b4 b5 b6 b7 b8 b9 b10 b11 b12 : Int) (x y : Nat) (hx : F64 x) (hy : F64 y) (w : World) :
    Calls Tryz.prog 188 #[.agg #[a0, a1, a2, a3, a4, a5, a6, a7, a8, a9, a10, a11, a12, .float .f64 x], .agg #[b0, b1, b2, b3, b4, b5, b6, b7, b8, b9, b10, b11, b12, .float .f64 y]] w (Makes (.bool (decide (fplain x = fplain y) && (a0 == b0 && (a1 == b1 && (a2 == b2 && (a3 == b3 && (a4 == b4 && (a5 == b5 && (a6 == b6 && (a7 == b7 && (a8 == b8 && (a9 == b9 && (a10 == b10 && (a11 == b11 && (a12 == b12))))))))))))))) w) := by
 have HX := qq (fun W => bits_of x hx W); have HY := qq (fun W => bits_of y hy W)
 have HK := qq ((Blk.fresh w #[a0, a1, a2, a3, a4, a5, a6, a7, a8, a9, a10, a11, a12, .float .f64 x] 39 _ rfl).alloc (.cells #[b0, b1, b2, b3, b4, b5, b6, b7, b8, b9, b10, b11, b12, .float .f64 y] 39))
 have HC := qq (Blk.fresh (w.alloc (.cells #[a0, a1, a2, a3, a4, a5, a6, a7, a8, a9, a10, a11, a12, .float .f64 x] 39)) #[.int .i64 b0, .int .i64 b1, .int .i64 b2, .int .i64 b3, .int .i64 b4, .int .i64 b5, .int .i64 b6, .int .i64 b7, .int .i64 b8, .int .i64 b9, .int .i64 b10, .int .i64 b11, .int .i64 b12, .float .f64 y] 39 (w.heap.size + 1) (by simp))
 have HB := qq ((((Below.refl w.heap.size w).alloc (Nat.le_refl _) (.cells #[a0, a1, a2, a3, a4, a5, a6, a7, a8, a9, a10, a11, a12, .float .f64 x] 39)).alloc (by simp) (.cells #[b0, b1, b2, b3, b4, b5, b6, b7, b8, b9, b10, b11, b12, .float .f64 y] 39)).drew)
 have heq := fun W => factEq _ rfl a0 a1 a2 a3 a4 a5 a6 a7 a8 a9 a10 a11 a12 b0 b1 b2 b3 b4 b5 b6 b7 b8 b9 b10 b11 b12 W
 generalize (a0 == b0 && (a1 == b1 && (a2 == b2 && (a3 == b3 && (a4 == b4 && (a5 == b5 && (a6 == b6 && (a7 == b7 && (a8 == b8 && (a9 == b9 && (a10 == b10 && (a11 == b11 && (a12 == b12))))))))))))) = d at heq ⊢
 by_cases he : fplain x = fplain y
 · rw [decide_eq_true he]
   have hb : ((fplain x : Int) == (fplain y : Int)) = true := by rw [he]; simp
   clear he hx hy
   go_enter Tryz.func188, Tryz.ntmps188
   go_wp2_with fail
   refine wp_region_held_drew (S := fun w' => Blk w' w.heap.size #[a0, a1, a2, a3, a4, a5, a6, a7, a8, a9, a10, a11, a12, .float .f64 x] ∧ Blk w' (w.heap.size + 1) #[b0, b1, b2, b3, b4, b5, b6, b7, b8, b9, b10, b11, b12, .float .f64 y]) (by kernel_rfl) ⟨HK.out.drew, HC.out.drew⟩ (fun hHeld => ?_)
   refine takeU (d := some 7) 0 rfl rfl hHeld (fun w' hS' => by have qS := hS'.1.cell; have qC := hS'.2.cell; clear hS'; go_simp; (try rfl)) ?_
   simp only [puts]
   refine takeU (d := some 8) 1 rfl rfl hHeld (fun w' hS' => by have qS := hS'.1.cell; have qC := hS'.2.cell; clear hS'; go_simp; (try rfl)) ?_
   simp only [puts]
   refine takeU (d := some 10) 3 rfl rfl hHeld (fun w' hS' => by have qS := hS'.1.cell; have qC := hS'.2.cell; clear hS'; go_simp; (try rfl)) ?_
   simp only [puts]
   refine takeU (d := some 11) 4 rfl rfl hHeld (fun w' hS' => by have qS := hS'.1.cell; have qC := hS'.2.cell; clear hS'; go_simp; (try rfl)) ?_
   simp only [puts]
   refine wpAnyH_call (d := some 9) 2 217 _ _ [.float .f64 x] rfl rfl (by kernel_rfl) rfl (enters_of Tryz.func217 (by kernel_rfl) rfl) (by rfl) (by rfl) ?_
   refine (HX.out _).mono ?_; rintro e w5 ⟨rfl, rfl⟩
   refine ⟨_, rfl, _, fun _ h => h, hHeld, fun hHeld => ?_⟩
   simp only [Act.put, puts]
   refine wpAnyH_call (d := some 12) 5 217 _ _ [.float .f64 y] rfl rfl (by kernel_rfl) rfl (enters_of Tryz.func217 (by kernel_rfl) rfl) (by rfl) (by rfl) ?_
   refine (HY.out _).mono ?_; rintro e w5 ⟨rfl, rfl⟩
   refine ⟨_, rfl, _, fun _ h => h, hHeld, fun hHeld => ?_⟩
   simp only [Act.put, puts]
   refine takeU (d := some 5) 6 rfl rfl hHeld (fun w' hS' => by have qS := hS'.1.cell; have qC := hS'.2.cell; clear hS'; go_simp; (try rfl)) ?_
   simp only [puts]
   refine takeU (d := some 6) 7 rfl rfl hHeld (fun w' hS' => by have qS := hS'.1.cell; have qC := hS'.2.cell; clear hS'; go_simp; (try rfl)) ?_
   simp only [puts]
   refine wpAnyH_done (by kernel_rfl) ?_ _
   obtain ⟨q, f⟩ := HK.out.drew.out; obtain ⟨q1, f1⟩ := HC.out.drew.out
   go_wp2_with fail
   go_ret
   exact ⟨ret_bool (by simp), by go_grown⟩
 · rw [decide_eq_false he]
   have hb : ((fplain x : Int) == (fplain y : Int)) = false := by rw [beq_eq_false_iff_ne]; intro e; exact he (by omega)
   clear he hx hy heq
   go_enter Tryz.func188, Tryz.ntmps188
   go_wp2_with fail
   refine wp_region_held_drew (S := fun w' => Blk w' w.heap.size #[a0, a1, a2, a3, a4, a5, a6, a7, a8, a9, a10, a11, a12, .float .f64 x] ∧ Blk w' (w.heap.size + 1) #[b0, b1, b2, b3, b4, b5, b6, b7, b8, b9, b10, b11, b12, .float .f64 y]) (by kernel_rfl) ⟨HK.out.drew, HC.out.drew⟩ (fun hHeld => ?_)
   refine takeU (d := some 7) 0 rfl rfl hHeld (fun w' hS' => by have qS := hS'.1.cell; have qC := hS'.2.cell; clear hS'; go_simp; (try rfl)) ?_
   simp only [puts]
   refine takeU (d := some 8) 1 rfl rfl hHeld (fun w' hS' => by have qS := hS'.1.cell; have qC := hS'.2.cell; clear hS'; go_simp; (try rfl)) ?_
   simp only [puts]
   refine takeU (d := some 10) 3 rfl rfl hHeld (fun w' hS' => by have qS := hS'.1.cell; have qC := hS'.2.cell; clear hS'; go_simp; (try rfl)) ?_
   simp only [puts]
   refine takeU (d := some 11) 4 rfl rfl hHeld (fun w' hS' => by have qS := hS'.1.cell; have qC := hS'.2.cell; clear hS'; go_simp; (try rfl)) ?_
   simp only [puts]
   refine wpAnyH_call (d := some 9) 2 217 _ _ [.float .f64 x] rfl rfl (by kernel_rfl) rfl (enters_of Tryz.func217 (by kernel_rfl) rfl) (by rfl) (by rfl) ?_
   refine (HX.out _).mono ?_; rintro e w5 ⟨rfl, rfl⟩
   refine ⟨_, rfl, _, fun _ h => h, hHeld, fun hHeld => ?_⟩
   simp only [Act.put, puts]
   refine wpAnyH_call (d := some 12) 5 217 _ _ [.float .f64 y] rfl rfl (by kernel_rfl) rfl (enters_of Tryz.func217 (by kernel_rfl) rfl) (by rfl) (by rfl) ?_
   refine (HY.out _).mono ?_; rintro e w5 ⟨rfl, rfl⟩
   refine ⟨_, rfl, _, fun _ h => h, hHeld, fun hHeld => ?_⟩
   simp only [Act.put, puts]
   refine takeU (d := some 5) 6 rfl rfl hHeld (fun w' hS' => by have qS := hS'.1.cell; have qC := hS'.2.cell; clear hS'; go_simp; (try rfl)) ?_
   simp only [puts]
   refine takeU (d := some 6) 7 rfl rfl hHeld (fun w' hS' => by have qS := hS'.1.cell; have qC := hS'.2.cell; clear hS'; go_simp; (try rfl)) ?_
   simp only [puts]
   refine wpAnyH_done (by kernel_rfl) ?_ _
   obtain ⟨q, f⟩ := HK.out.drew.out; obtain ⟨q1, f1⟩ := HC.out.drew.out
   go_wp2_with fail
   go_ret
   exact ⟨ret_bool (by simp), by go_grown⟩
theorem plain3_of (an aq rg nd pt pr oc dp pa st hw de : Int) (ex : Nat) (hx : F64 ex) (ea : Int → Addr) (w : World) (h : EnvS ea w) : Calls Tryz.prog 187 #[.agg #[.int .i64 3, an, aq, rg, nd, pt, pr, oc, dp, pa, st, hw, de, flV ex]] w (Makes (.tuple #[.agg #[.int .i64 3, an, aq, rg, .int .i64 0, .int .i64 0, .int .i64 0, .int .i64 0, .int .i64 0, .int .i64 0, st, hw, .int .i64 0, flV 0], .bool (idOk an aq && decide (0 ≤ rg ∧ rg ≤ 5) && stOk st hw)]) w) := by
 have HI := qq (fun W hW => idRight_of an aq ea W hW)
 have HB0 : Below w.heap.size w ((w.alloc (.cells #[.int .i64 3, an, aq, rg, nd, pt, pr, oc, dp, pa, st, hw, de, flV ex] 39)).alloc (.cells #[.int .i64 0, .int .i64 0, .int .i64 0, .int .i64 0, .int .i64 0, .int .i64 0, .int .i64 0, .int .i64 0, .int .i64 0, .int .i64 0, .int .i64 0, .int .i64 0, .int .i64 0, flV 0] 39)) := (((Below.refl _ _).alloc (Nat.le_refl _) _).alloc (by simp) _)
 have HE := qq (h.below HB0).drew'; have HB := qq HB0.drew
 have HK0 : Blk ((w.alloc (.cells #[.int .i64 3, an, aq, rg, nd, pt, pr, oc, dp, pa, st, hw, de, flV ex] 39)).alloc (.cells #[.int .i64 0, .int .i64 0, .int .i64 0, .int .i64 0, .int .i64 0, .int .i64 0, .int .i64 0, .int .i64 0, .int .i64 0, .int .i64 0, .int .i64 0, .int .i64 0, .int .i64 0, flV 0] 39)) w.heap.size #[.int .i64 3, .int .i64 an, .int .i64 aq, .int .i64 rg, .int .i64 nd, .int .i64 pt, .int .i64 pr, .int .i64 oc, .int .i64 dp, .int .i64 pa, .int .i64 st, .int .i64 hw, .int .i64 de, flV ex] := (Blk.fresh w #[.int .i64 3, an, aq, rg, nd, pt, pr, oc, dp, pa, st, hw, de, flV ex] 39 _ rfl).alloc (.cells #[.int .i64 0, .int .i64 0, .int .i64 0, .int .i64 0, .int .i64 0, .int .i64 0, .int .i64 0, .int .i64 0, .int .i64 0, .int .i64 0, .int .i64 0, .int .i64 0, .int .i64 0, flV 0] 39)
 have HK := qq HK0.drew
 have HR : Hid (((w.alloc (.cells #[.int .i64 3, an, aq, rg, nd, pt, pr, oc, dp, pa, st, hw, de, flV ex] 39)).alloc (.cells #[.int .i64 0, .int .i64 0, .int .i64 0, .int .i64 0, .int .i64 0, .int .i64 0, .int .i64 0, .int .i64 0, .int .i64 0, .int .i64 0, .int .i64 0, .int .i64 0, .int .i64 0, flV 0] 39)).drew.heap[w.heap.size + 1]? = some (.cells #[.int .i64 0, .int .i64 0, .int .i64 0, .int .i64 0, .int .i64 0, .int .i64 0, .int .i64 0, .int .i64 0, .int .i64 0, .int .i64 0, .int .i64 0, .int .i64 0, .int .i64 0, flV 0] 39 (0, 0))) := qq (show ((w.alloc (.cells #[.int .i64 3, an, aq, rg, nd, pt, pr, oc, dp, pa, st, hw, de, flV ex] 39)).alloc (.cells #[.int .i64 0, .int .i64 0, .int .i64 0, .int .i64 0, .int .i64 0, .int .i64 0, .int .i64 0, .int .i64 0, .int .i64 0, .int .i64 0, .int .i64 0, .int .i64 0, .int .i64 0, flV 0] 39)).heap[w.heap.size + 1]? = _ from by rw [show w.heap.size + 1 = (w.alloc (.cells #[.int .i64 3, an, aq, rg, nd, pt, pr, oc, dp, pa, st, hw, de, flV ex] 39)).heap.size by simp]; first | exact heap_alloc_new _ _ | exact (Below.heap_alloc _ _ _ (by simp)).trans (heap_alloc_new _ _))
 clear h HB0 HK0
 go_enter Tryz.func187, Tryz.ntmps187
 go_wp2_with fail
 refine wp_region_held_drew (S := fun w' => Blk w' w.heap.size #[.int .i64 3, an, aq, rg, nd, pt, pr, oc, dp, pa, st, hw, de, flV ex]) (by kernel_rfl) HK.out (fun hHeld => ?_)
 generalize ((w.alloc (.cells #[.int .i64 3, an, aq, rg, nd, pt, pr, oc, dp, pa, st, hw, de, flV ex] 39)).alloc (.cells #[.int .i64 0, .int .i64 0, .int .i64 0, .int .i64 0, .int .i64 0, .int .i64 0, .int .i64 0, .int .i64 0, .int .i64 0, .int .i64 0, .int .i64 0, .int .i64 0, .int .i64 0, flV 0] 39)).drew = w5 at *
 refine takeU (d := some 80) 0 rfl rfl hHeld (fun w' hS' => by have qS := hS'.cell; clear hS'; go_simp; (try rfl)) ?_
 simp only [puts]
 refine takeU (d := some 81) 1 rfl rfl hHeld (fun w' hS' => by have qS := hS'.cell; clear hS'; go_simp; (try rfl)) ?_
 simp only [puts]
 refine takeU (d := some 82) 2 rfl rfl hHeld (fun w' hS' => by have qS := hS'.cell; clear hS'; go_simp; (try rfl)) ?_
 simp only [puts]
 refine takeU (d := some 83) 3 rfl rfl hHeld (fun w' hS' => by have qS := hS'.cell; clear hS'; go_simp; (try rfl)) ?_
 simp only [puts]
 refine takeU (d := some 84) 4 rfl rfl hHeld (fun w' hS' => by have qS := hS'.cell; clear hS'; go_simp; (try rfl)) ?_
 simp only [puts]
 refine takeU (d := some 85) 5 rfl rfl hHeld (fun w' hS' => by have qS := hS'.cell; clear hS'; go_simp; (try rfl)) ?_
 simp only [puts]
 refine takeU (d := some 86) 6 rfl rfl hHeld (fun w' hS' => by have qS := hS'.cell; clear hS'; go_simp; (try rfl)) ?_
 simp only [puts]
 refine takeU (d := some 87) 7 rfl rfl hHeld (fun w' hS' => by have qS := hS'.cell; clear hS'; go_simp; (try rfl)) ?_
 simp only [puts]
 refine takeU (d := some 88) 8 rfl rfl hHeld (fun w' hS' => by have qS := hS'.cell; clear hS'; go_simp; (try rfl)) ?_
 simp only [puts]
 refine takeU (d := some 89) 9 rfl rfl hHeld (fun w' hS' => by have qS := hS'.cell; clear hS'; go_simp; (try rfl)) ?_
 simp only [puts]
 refine takeU (d := some 90) 10 rfl rfl hHeld (fun w' hS' => by have qS := hS'.cell; clear hS'; go_simp; (try rfl)) ?_
 simp only [puts]
 refine takeU (d := some 91) 11 rfl rfl hHeld (fun w' hS' => by have qS := hS'.cell; clear hS'; go_simp; (try rfl)) ?_
 simp only [puts]
 refine takeU (d := some 92) 12 rfl rfl hHeld (fun w' hS' => by have qS := hS'.cell; clear hS'; go_simp; (try rfl)) ?_
 simp only [puts]
 have hvA : ∃ b, b = (idOk an aq) := ⟨_, rfl⟩
 refine wpAnyH_call (d := some 93) 13 141 _ _ [.agg #[an, aq]] rfl rfl (by kernel_rfl) rfl (enters_of Tryz.func141 (by kernel_rfl) rfl) (by rfl) (by rfl) ?_
 refine (HI.out _ HE.out).mono ?_; rintro e w5 ⟨rfl, hb1⟩
 have HR := qq ((hb1.block _ (Array.getElem?_eq_some_iff.1 HR.out).1).trans HR.out); have HB := qq (below_then HB.out hb1); have HK := qq (HK.out.below hb1); have HE := qq (HE.out.below hb1)
 have hHeld := (HK.out : (fun w' : World => Blk w' w.heap.size #[.int .i64 3, an, aq, rg, nd, pt, pr, oc, dp, pa, st, hw, de, flV ex]) w5)
 refine ⟨_, rfl, _, fun _ h => h, hHeld, fun hHeld => ?_⟩
 simp only [Act.put, puts]
 by_cases hcA : (idOk an aq) = true
 · rw [hcA]
   refine takeU (d := some 94) 14 rfl rfl hHeld (fun w' hS' => by have qS := hS'.cell; clear hS'; go_simp; (try rfl)) ?_
   simp only [puts]
   refine takeU (d := some 95) 15 rfl rfl hHeld (fun w' hS' => by have qS := hS'.cell; clear hS'; go_simp; (try rfl)) ?_
   simp only [puts]
   refine takeU (d := some 96) 16 rfl rfl hHeld (fun w' hS' => by have qS := hS'.cell; clear hS'; go_simp; (try rfl)) ?_
   simp only [puts]
   have hvB : ∃ b, b = (decide (0 ≤ rg ∧ rg ≤ 5)) := ⟨_, rfl⟩
   refine wpAnyH_call (d := some 97) 17 250 _ _ [.int .i64 rg] rfl rfl (by kernel_rfl) rfl (enters_of Tryz.func250 (by kernel_rfl) rfl) (by rfl) (by rfl) ?_
   refine (isReg_of rg _).mono ?_; rintro e w5 ⟨rfl, rfl⟩
   refine ⟨_, rfl, _, fun _ h => h, hHeld, fun hHeld => ?_⟩
   simp only [Act.put, puts]
   by_cases hcB : (decide (0 ≤ rg ∧ rg ≤ 5)) = true
   · rw [hcB]
     refine takeU (d := some 98) 18 rfl rfl hHeld (fun w' hS' => by have qS := hS'.cell; clear hS'; go_simp; (try rfl)) ?_
     simp only [puts]
     refine takeU (d := some 99) 19 rfl rfl hHeld (fun w' hS' => by have qS := hS'.cell; clear hS'; go_simp; (try rfl)) ?_
     simp only [puts]
     refine takeU (d := some 100) 20 rfl rfl hHeld (fun w' hS' => by have qS := hS'.cell; clear hS'; go_simp; (try rfl)) ?_
     simp only [puts]
     refine takeU (d := some 101) 21 rfl rfl hHeld (fun w' hS' => by have qS := hS'.cell; clear hS'; go_simp; (try rfl)) ?_
     simp only [puts]
     refine takeU (d := some 102) 22 rfl rfl hHeld (fun w' hS' => by have qS := hS'.cell; clear hS'; go_simp; (try rfl)) ?_
     simp only [puts]
     refine takeU (d := some 103) 23 rfl rfl hHeld (fun w' hS' => by have qS := hS'.cell; clear hS'; go_simp; (try rfl)) ?_
     simp only [puts]
     have hvC : ∃ b, b = (stOk st hw) := ⟨_, rfl⟩
     refine wpAnyH_call (d := some 104) 24 252 _ _ [.int .i64 st, .int .i64 hw] rfl rfl (by kernel_rfl) rfl (enters_of Tryz.func252 (by kernel_rfl) rfl) (by rfl) (by rfl) ?_
     refine (isState_of st hw _).mono ?_; rintro e w5 ⟨rfl, rfl⟩
     refine ⟨_, rfl, _, fun _ h => h, hHeld, fun hHeld => ?_⟩
     simp only [Act.put, puts]
     refine takeU (d := some 105) 25 rfl rfl hHeld (fun w' hS' => by have qS := hS'.cell; clear hS'; go_simp; (try rfl)) ?_
     simp only [puts]
     refine wpAnyH_all (rs := [26]) (by kernel_rfl) (by simp) (fun j hj => ?_)
     obtain rfl : j = 26 := by simpa using hj
     refine wpOp_step rfl (fun K' hK => ?_)
     rw [if_pos (by rfl)]
     refine wp_store_row 39 (.tmp 2) (.tmp 90) rfl (w.heap.size + 1) #[.int .i64 3, .int .i64 an, .int .i64 aq, .int .i64 rg, .int .i64 0, .int .i64 0, .int .i64 0, .int .i64 0, .int .i64 0, .int .i64 0, .int .i64 st, .int .i64 hw, .int .i64 0, flV 0] rfl rfl 39 #[.int .i64 0, .int .i64 0, .int .i64 0, .int .i64 0, .int .i64 0, .int .i64 0, .int .i64 0, .int .i64 0, .int .i64 0, .int .i64 0, .int .i64 0, .int .i64 0, .int .i64 0, flV 0] HR.out (by kernel_rfl) rfl (by simp [Value.oneCell', flV]) ?_
     obtain ⟨HF, hgr⟩ := row_end (cells := #[.int .i64 3, .int .i64 an, .int .i64 aq, .int .i64 rg, .int .i64 0, .int .i64 0, .int .i64 0, .int .i64 0, .int .i64 0, .int .i64 0, .int .i64 st, .int .i64 hw, .int .i64 0, flV 0]) HR.out
     have hK2 := HK.out.heap' hgr.size (hgr.block _ HK.out.lt (fun e => by injection e with e; omega))
     have hB2 := qq (HB.out.grown hgr HB.out.size (fun k hk => by injection hk with hk; omega))
     have hHeld := (hK2 : (fun w' : World => Blk w' w.heap.size #[.int .i64 3, an, aq, rg, nd, pt, pr, oc, dp, pa, st, hw, de, flV ex]) (w5.setRow (w.heap.size + 1) #[.int .i64 3, .int .i64 an, .int .i64 aq, .int .i64 rg, .int .i64 0, .int .i64 0, .int .i64 0, .int .i64 0, .int .i64 0, .int .i64 0, .int .i64 st, .int .i64 hw, .int .i64 0, flV 0]))
     refine hK _ _ ⟨hHeld, ?_⟩
     simp only [Act.put, puts]
     clear hK hK2
     obtain ⟨q1, f1⟩ := HF.out
     generalize w5.setRow (w.heap.size + 1) #[.int .i64 3, .int .i64 an, .int .i64 aq, .int .i64 rg, .int .i64 0, .int .i64 0, .int .i64 0, .int .i64 0, .int .i64 0, .int .i64 0, .int .i64 st, .int .i64 hw, .int .i64 0, flV 0] = w6 at *
     refine takeU (d := some 3) 27 rfl rfl hHeld (fun w' hS' => by have qS := hS'.cell; clear hS'; go_simp; (try rfl)) ?_
     simp only [puts]
     refine wpAnyH_done (by kernel_rfl) ?_ _
     clear hHeld
     go_wp2_with fail
     exact bodyPost_ret (v := .tuple #[.agg #[.int .i64 3, an, aq, rg, .int .i64 0, .int .i64 0, .int .i64 0, .int .i64 0, .int .i64 0, .int .i64 0, st, hw, .int .i64 0, flV 0], .bool (stOk st hw)]) (by simp [results, Tryz.results187, go_sem, q1, f1]) rfl ⟨by simp, hB2.out⟩
   · rw [Bool.not_eq_true] at hcB; rw [hcB]
     refine takeU (d := some 98) 18 rfl rfl hHeld (fun w' hS' => by have qS := hS'.cell; clear hS'; go_simp; (try rfl)) ?_
     simp only [puts]
     refine takeU (d := some 99) 19 rfl rfl hHeld (fun w' hS' => by have qS := hS'.cell; clear hS'; go_simp; (try rfl)) ?_
     simp only [puts]
     refine skipT (d := some 100) 20 hHeld ?_
     simp only [puts]
     refine skipT (d := some 101) 21 hHeld ?_
     simp only [puts]
     refine skipT (d := some 102) 22 hHeld ?_
     simp only [puts]
     refine skipT (d := some 103) 23 hHeld ?_
     simp only [puts]
     refine skipT (d := some 104) 24 hHeld ?_
     simp only [puts]
     refine takeU (d := some 105) 25 rfl rfl hHeld (fun w' hS' => by have qS := hS'.cell; clear hS'; go_simp; (try rfl)) ?_
     simp only [puts]
     refine wpAnyH_all (rs := [26]) (by kernel_rfl) (by simp) (fun j hj => ?_)
     obtain rfl : j = 26 := by simpa using hj
     refine wpOp_step rfl (fun K' hK => ?_)
     rw [if_pos (by rfl)]
     refine wp_store_row 39 (.tmp 2) (.tmp 90) rfl (w.heap.size + 1) #[.int .i64 3, .int .i64 an, .int .i64 aq, .int .i64 rg, .int .i64 0, .int .i64 0, .int .i64 0, .int .i64 0, .int .i64 0, .int .i64 0, .int .i64 st, .int .i64 hw, .int .i64 0, flV 0] rfl rfl 39 #[.int .i64 0, .int .i64 0, .int .i64 0, .int .i64 0, .int .i64 0, .int .i64 0, .int .i64 0, .int .i64 0, .int .i64 0, .int .i64 0, .int .i64 0, .int .i64 0, .int .i64 0, flV 0] HR.out (by kernel_rfl) rfl (by simp [Value.oneCell', flV]) ?_
     obtain ⟨HF, hgr⟩ := row_end (cells := #[.int .i64 3, .int .i64 an, .int .i64 aq, .int .i64 rg, .int .i64 0, .int .i64 0, .int .i64 0, .int .i64 0, .int .i64 0, .int .i64 0, .int .i64 st, .int .i64 hw, .int .i64 0, flV 0]) HR.out
     have hK2 := HK.out.heap' hgr.size (hgr.block _ HK.out.lt (fun e => by injection e with e; omega))
     have hB2 := qq (HB.out.grown hgr HB.out.size (fun k hk => by injection hk with hk; omega))
     have hHeld := (hK2 : (fun w' : World => Blk w' w.heap.size #[.int .i64 3, an, aq, rg, nd, pt, pr, oc, dp, pa, st, hw, de, flV ex]) (w5.setRow (w.heap.size + 1) #[.int .i64 3, .int .i64 an, .int .i64 aq, .int .i64 rg, .int .i64 0, .int .i64 0, .int .i64 0, .int .i64 0, .int .i64 0, .int .i64 0, .int .i64 st, .int .i64 hw, .int .i64 0, flV 0]))
     refine hK _ _ ⟨hHeld, ?_⟩
     simp only [Act.put, puts]
     clear hK hK2
     obtain ⟨q1, f1⟩ := HF.out
     generalize w5.setRow (w.heap.size + 1) #[.int .i64 3, .int .i64 an, .int .i64 aq, .int .i64 rg, .int .i64 0, .int .i64 0, .int .i64 0, .int .i64 0, .int .i64 0, .int .i64 0, .int .i64 st, .int .i64 hw, .int .i64 0, flV 0] = w6 at *
     refine takeU (d := some 3) 27 rfl rfl hHeld (fun w' hS' => by have qS := hS'.cell; clear hS'; go_simp; (try rfl)) ?_
     simp only [puts]
     refine wpAnyH_done (by kernel_rfl) ?_ _
     clear hHeld
     go_wp2_with fail
     exact bodyPost_ret (v := .tuple #[.agg #[.int .i64 3, an, aq, rg, .int .i64 0, .int .i64 0, .int .i64 0, .int .i64 0, .int .i64 0, .int .i64 0, st, hw, .int .i64 0, flV 0], .bool (false)]) (by simp [results, Tryz.results187, go_sem, q1, f1]) rfl ⟨by simp, hB2.out⟩
 · rw [Bool.not_eq_true] at hcA; rw [hcA]
   refine takeU (d := some 94) 14 rfl rfl hHeld (fun w' hS' => by have qS := hS'.cell; clear hS'; go_simp; (try rfl)) ?_
   simp only [puts]
   refine skipT (d := some 95) 15 hHeld ?_
   simp only [puts]
   refine skipT (d := some 96) 16 hHeld ?_
   simp only [puts]
   refine skipT (d := some 97) 17 hHeld ?_
   simp only [puts]
   refine takeU (d := some 98) 18 rfl rfl hHeld (fun w' hS' => by have qS := hS'.cell; clear hS'; go_simp; (try rfl)) ?_
   simp only [puts]
   refine takeU (d := some 99) 19 rfl rfl hHeld (fun w' hS' => by have qS := hS'.cell; clear hS'; go_simp; (try rfl)) ?_
   simp only [puts]
   refine skipT (d := some 100) 20 hHeld ?_
   simp only [puts]
   refine skipT (d := some 101) 21 hHeld ?_
   simp only [puts]
   refine skipT (d := some 102) 22 hHeld ?_
   simp only [puts]
   refine skipT (d := some 103) 23 hHeld ?_
   simp only [puts]
   refine skipT (d := some 104) 24 hHeld ?_
   simp only [puts]
   refine takeU (d := some 105) 25 rfl rfl hHeld (fun w' hS' => by have qS := hS'.cell; clear hS'; go_simp; (try rfl)) ?_
   simp only [puts]
   refine wpAnyH_all (rs := [26]) (by kernel_rfl) (by simp) (fun j hj => ?_)
   obtain rfl : j = 26 := by simpa using hj
   refine wpOp_step rfl (fun K' hK => ?_)
   rw [if_pos (by rfl)]
   refine wp_store_row 39 (.tmp 2) (.tmp 90) rfl (w.heap.size + 1) #[.int .i64 3, .int .i64 an, .int .i64 aq, .int .i64 rg, .int .i64 0, .int .i64 0, .int .i64 0, .int .i64 0, .int .i64 0, .int .i64 0, .int .i64 st, .int .i64 hw, .int .i64 0, flV 0] rfl rfl 39 #[.int .i64 0, .int .i64 0, .int .i64 0, .int .i64 0, .int .i64 0, .int .i64 0, .int .i64 0, .int .i64 0, .int .i64 0, .int .i64 0, .int .i64 0, .int .i64 0, .int .i64 0, flV 0] HR.out (by kernel_rfl) rfl (by simp [Value.oneCell', flV]) ?_
   obtain ⟨HF, hgr⟩ := row_end (cells := #[.int .i64 3, .int .i64 an, .int .i64 aq, .int .i64 rg, .int .i64 0, .int .i64 0, .int .i64 0, .int .i64 0, .int .i64 0, .int .i64 0, .int .i64 st, .int .i64 hw, .int .i64 0, flV 0]) HR.out
   have hK2 := HK.out.heap' hgr.size (hgr.block _ HK.out.lt (fun e => by injection e with e; omega))
   have hB2 := qq (HB.out.grown hgr HB.out.size (fun k hk => by injection hk with hk; omega))
   have hHeld := (hK2 : (fun w' : World => Blk w' w.heap.size #[.int .i64 3, an, aq, rg, nd, pt, pr, oc, dp, pa, st, hw, de, flV ex]) (w5.setRow (w.heap.size + 1) #[.int .i64 3, .int .i64 an, .int .i64 aq, .int .i64 rg, .int .i64 0, .int .i64 0, .int .i64 0, .int .i64 0, .int .i64 0, .int .i64 0, .int .i64 st, .int .i64 hw, .int .i64 0, flV 0]))
   refine hK _ _ ⟨hHeld, ?_⟩
   simp only [Act.put, puts]
   clear hK hK2
   obtain ⟨q1, f1⟩ := HF.out
   generalize w5.setRow (w.heap.size + 1) #[.int .i64 3, .int .i64 an, .int .i64 aq, .int .i64 rg, .int .i64 0, .int .i64 0, .int .i64 0, .int .i64 0, .int .i64 0, .int .i64 0, .int .i64 st, .int .i64 hw, .int .i64 0, flV 0] = w6 at *
   refine takeU (d := some 3) 27 rfl rfl hHeld (fun w' hS' => by have qS := hS'.cell; clear hS'; go_simp; (try rfl)) ?_
   simp only [puts]
   refine wpAnyH_done (by kernel_rfl) ?_ _
   clear hHeld
   go_wp2_with fail
   exact bodyPost_ret (v := .tuple #[.agg #[.int .i64 3, an, aq, rg, .int .i64 0, .int .i64 0, .int .i64 0, .int .i64 0, .int .i64 0, .int .i64 0, st, hw, .int .i64 0, flV 0], .bool (false)]) (by simp [results, Tryz.results187, go_sem, q1, f1]) rfl ⟨by simp, hB2.out⟩
theorem plain1_of (an aq rg nd pt pr oc dp pa st hw de : Int) (ex : Nat) (hx : F64 ex) (ea : Int → Addr) (w : World) (h : EnvS ea w) : Calls Tryz.prog 187 #[.agg #[.int .i64 1, an, aq, rg, nd, pt, pr, oc, dp, pa, st, hw, de, .float .f64 ex]] w (Makes (.tuple #[.agg #[.int .i64 1, an, aq, .int .i64 0, .int .i64 0, .int .i64 0, .int .i64 0, oc, dp, pa, .int .i64 0, .int .i64 0, .int .i64 0, .float .f64 ex], .bool (ctxOk an aq oc dp ex && decide (0 ≤ pa ∧ pa ≤ 8))]) w) := by
 have HI := qq (fun W hW => scopeRight_of an aq oc dp ex hx ea W hW)
 have HB0 : Below w.heap.size w (((w.alloc (.cells #[.int .i64 1, an, aq, rg, nd, pt, pr, oc, dp, pa, st, hw, de, .float .f64 ex] 39)).alloc (.cells #[.int .i64 0, .int .i64 0, .int .i64 0, .int .i64 0, .int .i64 0, .int .i64 0, .int .i64 0, .int .i64 0, .int .i64 0, .int .i64 0, .int .i64 0, .int .i64 0, .int .i64 0, .float .f64 0] 39)).alloc (.cells #[an, aq, oc, dp, .float .f64 ex] 48)) := ((((Below.refl _ _).alloc (Nat.le_refl _) _).alloc (by simp) _).alloc (by simp; omega) _)
 have HE := qq (h.below HB0).drew'; have HB := qq HB0.drew
 have HK0 : Blk (((w.alloc (.cells #[.int .i64 1, an, aq, rg, nd, pt, pr, oc, dp, pa, st, hw, de, .float .f64 ex] 39)).alloc (.cells #[.int .i64 0, .int .i64 0, .int .i64 0, .int .i64 0, .int .i64 0, .int .i64 0, .int .i64 0, .int .i64 0, .int .i64 0, .int .i64 0, .int .i64 0, .int .i64 0, .int .i64 0, .float .f64 0] 39)).alloc (.cells #[an, aq, oc, dp, .float .f64 ex] 48)) w.heap.size #[.int .i64 1, .int .i64 an, .int .i64 aq, .int .i64 rg, .int .i64 nd, .int .i64 pt, .int .i64 pr, .int .i64 oc, .int .i64 dp, .int .i64 pa, .int .i64 st, .int .i64 hw, .int .i64 de, .float .f64 ex] := ((Blk.fresh w #[.int .i64 1, an, aq, rg, nd, pt, pr, oc, dp, pa, st, hw, de, .float .f64 ex] 39 _ rfl).alloc (.cells #[.int .i64 0, .int .i64 0, .int .i64 0, .int .i64 0, .int .i64 0, .int .i64 0, .int .i64 0, .int .i64 0, .int .i64 0, .int .i64 0, .int .i64 0, .int .i64 0, .int .i64 0, .float .f64 0] 39)).alloc (.cells #[an, aq, oc, dp, .float .f64 ex] 48)
 have HK := qq HK0.drew
 have HC := qq (Blk.fresh ((w.alloc (.cells #[.int .i64 1, an, aq, rg, nd, pt, pr, oc, dp, pa, st, hw, de, .float .f64 ex] 39)).alloc (.cells #[.int .i64 0, .int .i64 0, .int .i64 0, .int .i64 0, .int .i64 0, .int .i64 0, .int .i64 0, .int .i64 0, .int .i64 0, .int .i64 0, .int .i64 0, .int .i64 0, .int .i64 0, .float .f64 0] 39)) #[.int .i64 an, .int .i64 aq, .int .i64 oc, .int .i64 dp, .float .f64 ex] 48 (w.heap.size + 2) (by simp)).drew
 have HR : Hid ((((w.alloc (.cells #[.int .i64 1, an, aq, rg, nd, pt, pr, oc, dp, pa, st, hw, de, .float .f64 ex] 39)).alloc (.cells #[.int .i64 0, .int .i64 0, .int .i64 0, .int .i64 0, .int .i64 0, .int .i64 0, .int .i64 0, .int .i64 0, .int .i64 0, .int .i64 0, .int .i64 0, .int .i64 0, .int .i64 0, .float .f64 0] 39)).alloc (.cells #[an, aq, oc, dp, .float .f64 ex] 48)).drew.heap[w.heap.size + 1]? = some (.cells #[.int .i64 0, .int .i64 0, .int .i64 0, .int .i64 0, .int .i64 0, .int .i64 0, .int .i64 0, .int .i64 0, .int .i64 0, .int .i64 0, .int .i64 0, .int .i64 0, .int .i64 0, .float .f64 0] 39 (0, 0))) := qq (show (((w.alloc (.cells #[.int .i64 1, an, aq, rg, nd, pt, pr, oc, dp, pa, st, hw, de, .float .f64 ex] 39)).alloc (.cells #[.int .i64 0, .int .i64 0, .int .i64 0, .int .i64 0, .int .i64 0, .int .i64 0, .int .i64 0, .int .i64 0, .int .i64 0, .int .i64 0, .int .i64 0, .int .i64 0, .int .i64 0, .float .f64 0] 39)).alloc (.cells #[an, aq, oc, dp, .float .f64 ex] 48)).heap[w.heap.size + 1]? = _ from by rw [show w.heap.size + 1 = (w.alloc (.cells #[.int .i64 1, an, aq, rg, nd, pt, pr, oc, dp, pa, st, hw, de, .float .f64 ex] 39)).heap.size by simp]; first | exact heap_alloc_new _ _ | exact (Below.heap_alloc _ _ _ (by simp)).trans (heap_alloc_new _ _))
 clear h HB0 HK0
 go_enter Tryz.func187, Tryz.ntmps187
 go_wp2_with fail
 refine wp_region_held_drew (S := fun w' => Blk w' w.heap.size #[.int .i64 1, an, aq, rg, nd, pt, pr, oc, dp, pa, st, hw, de, .float .f64 ex] ∧ Blk w' (w.heap.size + 2) #[an, aq, oc, dp, .float .f64 ex]) (by kernel_rfl) ⟨HK.out, HC.out⟩ (fun hHeld => ?_)
 generalize (((w.alloc (.cells #[.int .i64 1, an, aq, rg, nd, pt, pr, oc, dp, pa, st, hw, de, .float .f64 ex] 39)).alloc (.cells #[.int .i64 0, .int .i64 0, .int .i64 0, .int .i64 0, .int .i64 0, .int .i64 0, .int .i64 0, .int .i64 0, .int .i64 0, .int .i64 0, .int .i64 0, .int .i64 0, .int .i64 0, .float .f64 0] 39)).alloc (.cells #[an, aq, oc, dp, .float .f64 ex] 48)).drew = w5 at *
 refine takeU (d := some 19) 0 rfl rfl hHeld (fun w' hS' => by have qS := hS'.1.cell; have qC := hS'.2.cell; clear hS'; go_simp; (try rfl)) ?_
 simp only [puts]
 refine takeU (d := some 20) 1 rfl rfl hHeld (fun w' hS' => by have qS := hS'.1.cell; have qC := hS'.2.cell; clear hS'; go_simp; (try rfl)) ?_
 simp only [puts]
 refine takeU (d := some 21) 2 rfl rfl hHeld (fun w' hS' => by have qS := hS'.1.cell; have qC := hS'.2.cell; clear hS'; go_simp; (try rfl)) ?_
 simp only [puts]
 refine takeU (d := some 22) 3 rfl rfl hHeld (fun w' hS' => by have qS := hS'.1.cell; have qC := hS'.2.cell; clear hS'; go_simp; (try rfl)) ?_
 simp only [puts]
 refine takeU (d := some 23) 4 rfl rfl hHeld (fun w' hS' => by have qS := hS'.1.cell; have qC := hS'.2.cell; clear hS'; go_simp; (try rfl)) ?_
 simp only [puts]
 refine takeU (d := some 24) 5 rfl rfl hHeld (fun w' hS' => by have qS := hS'.1.cell; have qC := hS'.2.cell; clear hS'; go_simp; (try rfl)) ?_
 simp only [puts]
 refine takeU (d := some 25) 6 rfl rfl hHeld (fun w' hS' => by have qS := hS'.1.cell; have qC := hS'.2.cell; clear hS'; go_simp; (try rfl)) ?_
 simp only [puts]
 refine takeU (d := some 26) 7 rfl rfl hHeld (fun w' hS' => by have qS := hS'.1.cell; have qC := hS'.2.cell; clear hS'; go_simp; (try rfl)) ?_
 simp only [puts]
 refine takeU (d := some 27) 8 rfl rfl hHeld (fun w' hS' => by have qS := hS'.1.cell; have qC := hS'.2.cell; clear hS'; go_simp; (try rfl)) ?_
 simp only [puts]
 refine takeU (d := some 28) 9 rfl rfl hHeld (fun w' hS' => by have qS := hS'.1.cell; have qC := hS'.2.cell; clear hS'; go_simp; (try rfl)) ?_
 simp only [puts]
 refine takeU (d := some 29) 10 rfl rfl hHeld (fun w' hS' => by have qS := hS'.1.cell; have qC := hS'.2.cell; clear hS'; go_simp; (try rfl)) ?_
 simp only [puts]
 refine takeU (d := some 30) 11 rfl rfl hHeld (fun w' hS' => by have qS := hS'.1.cell; have qC := hS'.2.cell; clear hS'; go_simp; (try rfl)) ?_
 simp only [puts]
 refine takeU (d := some 31) 12 rfl rfl hHeld (fun w' hS' => by have qS := hS'.1.cell; have qC := hS'.2.cell; clear hS'; go_simp; (try rfl)) ?_
 simp only [puts]
 refine takeU (d := some 32) 13 rfl rfl hHeld (fun w' hS' => by have qS := hS'.1.cell; have qC := hS'.2.cell; clear hS'; go_simp; (try rfl)) ?_
 simp only [puts]
 have hvA : ∃ b, b = (ctxOk an aq oc dp ex) := ⟨_, rfl⟩
 refine wpAnyH_call (d := some 33) 14 133 _ _ [.agg #[an, aq, oc, dp, .float .f64 ex]] rfl rfl (by kernel_rfl) rfl (enters_of Tryz.func133 (by kernel_rfl) rfl) (by rfl) (by rfl) ?_
 refine (HI.out _ HE.out).mono ?_; rintro e w5 ⟨rfl, hb1⟩
 have HR := qq ((hb1.block _ (Array.getElem?_eq_some_iff.1 HR.out).1).trans HR.out); have HB := qq (below_then HB.out hb1); have HK := qq (HK.out.below hb1); have HE := qq (HE.out.below hb1); have HC := qq (HC.out.below hb1)
 have hHeld := (⟨HK.out, HC.out⟩ : (fun w' : World => Blk w' w.heap.size #[.int .i64 1, an, aq, rg, nd, pt, pr, oc, dp, pa, st, hw, de, .float .f64 ex] ∧ Blk w' (w.heap.size + 2) #[an, aq, oc, dp, .float .f64 ex]) w5)
 refine ⟨_, rfl, _, fun _ h => h, hHeld, fun hHeld => ?_⟩
 simp only [Act.put, puts]
 by_cases hcA : (ctxOk an aq oc dp ex) = true
 · rw [hcA]
   refine takeU (d := some 34) 15 rfl rfl hHeld (fun w' hS' => by have qS := hS'.1.cell; have qC := hS'.2.cell; clear hS'; go_simp; (try rfl)) ?_
   simp only [puts]
   refine takeU (d := some 35) 16 rfl rfl hHeld (fun w' hS' => by have qS := hS'.1.cell; have qC := hS'.2.cell; clear hS'; go_simp; (try rfl)) ?_
   simp only [puts]
   refine takeU (d := some 36) 17 rfl rfl hHeld (fun w' hS' => by have qS := hS'.1.cell; have qC := hS'.2.cell; clear hS'; go_simp; (try rfl)) ?_
   simp only [puts]
   have hvB : ∃ b, b = (decide (0 ≤ pa ∧ pa ≤ 8)) := ⟨_, rfl⟩
   refine wpAnyH_call (d := some 37) 18 249 _ _ [.int .i64 pa, .int .i64 0, .int .i64 8] rfl rfl (by kernel_rfl) rfl (enters_of Tryz.func249 (by kernel_rfl) rfl) (by rfl) (by rfl) ?_
   refine (within_of pa 0 8 _).mono ?_; rintro e w5 ⟨rfl, rfl⟩
   refine ⟨_, rfl, _, fun _ h => h, hHeld, fun hHeld => ?_⟩
   simp only [Act.put, puts]
   refine takeU (d := some 38) 19 rfl rfl hHeld (fun w' hS' => by have qS := hS'.1.cell; have qC := hS'.2.cell; clear hS'; go_simp; (try rfl)) ?_
   simp only [puts]
   refine wpAnyH_all (rs := [20]) (by kernel_rfl) (by simp) (fun j hj => ?_)
   obtain rfl : j = 20 := by simpa using hj
   refine wpOp_step rfl (fun K' hK => ?_)
   rw [if_pos (by rfl)]
   refine wp_store_row 39 (.tmp 2) (.tmp 31) rfl (w.heap.size + 1) #[.int .i64 1, .int .i64 an, .int .i64 aq, .int .i64 0, .int .i64 0, .int .i64 0, .int .i64 0, .int .i64 oc, .int .i64 dp, .int .i64 pa, .int .i64 0, .int .i64 0, .int .i64 0, .float .f64 ex] rfl rfl 39 #[.int .i64 0, .int .i64 0, .int .i64 0, .int .i64 0, .int .i64 0, .int .i64 0, .int .i64 0, .int .i64 0, .int .i64 0, .int .i64 0, .int .i64 0, .int .i64 0, .int .i64 0, .float .f64 0] HR.out (by kernel_rfl) rfl (by simp [Value.oneCell', flV]) ?_
   obtain ⟨HF, hgr⟩ := row_end (cells := #[.int .i64 1, .int .i64 an, .int .i64 aq, .int .i64 0, .int .i64 0, .int .i64 0, .int .i64 0, .int .i64 oc, .int .i64 dp, .int .i64 pa, .int .i64 0, .int .i64 0, .int .i64 0, .float .f64 ex]) HR.out
   have hK2 := HK.out.heap' hgr.size (hgr.block _ HK.out.lt (fun e => by injection e with e; omega))
   have hC2 := HC.out.heap' hgr.size (hgr.block _ HC.out.lt (fun e => by injection e with e; omega))
   have hB2 := qq (HB.out.grown hgr HB.out.size (fun k hk => by injection hk with hk; omega))
   have hHeld := (⟨hK2, hC2⟩ : (fun w' : World => Blk w' w.heap.size #[.int .i64 1, an, aq, rg, nd, pt, pr, oc, dp, pa, st, hw, de, .float .f64 ex] ∧ Blk w' (w.heap.size + 2) #[an, aq, oc, dp, .float .f64 ex]) (w5.setRow (w.heap.size + 1) #[.int .i64 1, .int .i64 an, .int .i64 aq, .int .i64 0, .int .i64 0, .int .i64 0, .int .i64 0, .int .i64 oc, .int .i64 dp, .int .i64 pa, .int .i64 0, .int .i64 0, .int .i64 0, .float .f64 ex]))
   refine hK _ _ ⟨hHeld, ?_⟩
   simp only [Act.put, puts]
   clear hK hK2 hC2
   obtain ⟨q1, f1⟩ := HF.out
   generalize w5.setRow (w.heap.size + 1) #[.int .i64 1, .int .i64 an, .int .i64 aq, .int .i64 0, .int .i64 0, .int .i64 0, .int .i64 0, .int .i64 oc, .int .i64 dp, .int .i64 pa, .int .i64 0, .int .i64 0, .int .i64 0, .float .f64 ex] = w6 at *
   refine takeU (d := some 3) 21 rfl rfl hHeld (fun w' hS' => by have qS := hS'.1.cell; have qC := hS'.2.cell; clear hS'; go_simp; (try rfl)) ?_
   simp only [puts]
   refine wpAnyH_done (by kernel_rfl) ?_ _
   clear hHeld
   go_wp2_with fail
   exact bodyPost_ret (v := .tuple #[.agg #[.int .i64 1, an, aq, .int .i64 0, .int .i64 0, .int .i64 0, .int .i64 0, oc, dp, pa, .int .i64 0, .int .i64 0, .int .i64 0, .float .f64 ex], .bool (decide (0 ≤ pa ∧ pa ≤ 8))]) (by simp [results, Tryz.results187, go_sem, q1, f1]) rfl ⟨by simp, hB2.out⟩
 · rw [Bool.not_eq_true] at hcA; rw [hcA]
   refine takeU (d := some 34) 15 rfl rfl hHeld (fun w' hS' => by have qS := hS'.1.cell; have qC := hS'.2.cell; clear hS'; go_simp; (try rfl)) ?_
   simp only [puts]
   refine skipT (d := some 35) 16 hHeld ?_
   simp only [puts]
   refine skipT (d := some 36) 17 hHeld ?_
   simp only [puts]
   refine skipT (d := some 37) 18 hHeld ?_
   simp only [puts]
   refine takeU (d := some 38) 19 rfl rfl hHeld (fun w' hS' => by have qS := hS'.1.cell; have qC := hS'.2.cell; clear hS'; go_simp; (try rfl)) ?_
   simp only [puts]
   refine wpAnyH_all (rs := [20]) (by kernel_rfl) (by simp) (fun j hj => ?_)
   obtain rfl : j = 20 := by simpa using hj
   refine wpOp_step rfl (fun K' hK => ?_)
   rw [if_pos (by rfl)]
   refine wp_store_row 39 (.tmp 2) (.tmp 31) rfl (w.heap.size + 1) #[.int .i64 1, .int .i64 an, .int .i64 aq, .int .i64 0, .int .i64 0, .int .i64 0, .int .i64 0, .int .i64 oc, .int .i64 dp, .int .i64 pa, .int .i64 0, .int .i64 0, .int .i64 0, .float .f64 ex] rfl rfl 39 #[.int .i64 0, .int .i64 0, .int .i64 0, .int .i64 0, .int .i64 0, .int .i64 0, .int .i64 0, .int .i64 0, .int .i64 0, .int .i64 0, .int .i64 0, .int .i64 0, .int .i64 0, .float .f64 0] HR.out (by kernel_rfl) rfl (by simp [Value.oneCell', flV]) ?_
   obtain ⟨HF, hgr⟩ := row_end (cells := #[.int .i64 1, .int .i64 an, .int .i64 aq, .int .i64 0, .int .i64 0, .int .i64 0, .int .i64 0, .int .i64 oc, .int .i64 dp, .int .i64 pa, .int .i64 0, .int .i64 0, .int .i64 0, .float .f64 ex]) HR.out
   have hK2 := HK.out.heap' hgr.size (hgr.block _ HK.out.lt (fun e => by injection e with e; omega))
   have hC2 := HC.out.heap' hgr.size (hgr.block _ HC.out.lt (fun e => by injection e with e; omega))
   have hB2 := qq (HB.out.grown hgr HB.out.size (fun k hk => by injection hk with hk; omega))
   have hHeld := (⟨hK2, hC2⟩ : (fun w' : World => Blk w' w.heap.size #[.int .i64 1, an, aq, rg, nd, pt, pr, oc, dp, pa, st, hw, de, .float .f64 ex] ∧ Blk w' (w.heap.size + 2) #[an, aq, oc, dp, .float .f64 ex]) (w5.setRow (w.heap.size + 1) #[.int .i64 1, .int .i64 an, .int .i64 aq, .int .i64 0, .int .i64 0, .int .i64 0, .int .i64 0, .int .i64 oc, .int .i64 dp, .int .i64 pa, .int .i64 0, .int .i64 0, .int .i64 0, .float .f64 ex]))
   refine hK _ _ ⟨hHeld, ?_⟩
   simp only [Act.put, puts]
   clear hK hK2 hC2
   obtain ⟨q1, f1⟩ := HF.out
   generalize w5.setRow (w.heap.size + 1) #[.int .i64 1, .int .i64 an, .int .i64 aq, .int .i64 0, .int .i64 0, .int .i64 0, .int .i64 0, .int .i64 oc, .int .i64 dp, .int .i64 pa, .int .i64 0, .int .i64 0, .int .i64 0, .float .f64 ex] = w6 at *
   refine takeU (d := some 3) 21 rfl rfl hHeld (fun w' hS' => by have qS := hS'.1.cell; have qC := hS'.2.cell; clear hS'; go_simp; (try rfl)) ?_
   simp only [puts]
   refine wpAnyH_done (by kernel_rfl) ?_ _
   clear hHeld
   go_wp2_with fail
   exact bodyPost_ret (v := .tuple #[.agg #[.int .i64 1, an, aq, .int .i64 0, .int .i64 0, .int .i64 0, .int .i64 0, oc, dp, pa, .int .i64 0, .int .i64 0, .int .i64 0, .float .f64 ex], .bool (false)]) (by simp [results, Tryz.results187, go_sem, q1, f1]) rfl ⟨by simp, hB2.out⟩
end Go.Proofs.YtlkajejbfojkeaaGreatDoor
