/- FacB -/
import Derived.Test.YtlkajejbfojkeaaGreatDoorVStoBToFacE
set_option linter.unusedSimpArgs false
set_option linter.unusedVariables false
set_option maxRecDepth 100000
set_option maxHeartbeats 16000000
namespace Go.Proofs.YtlkajejbfojkeaaGreatDoor
open Go.RowKit Go.Shelf
theorem store_float {P : Program} {w : World} {a : Addr} {m : Mode} (k : FloatKind) (x : Nat) : (store a (.float k x) m).run P w = stored P w a (.float k x) m := run_store P w a _ m rfl
theorem Blk.heap' {w w' : World} {b : Nat} {C : Array Value} (h : Blk w b C) (hz : w.heap.size ≤ w'.heap.size) (he : w'.heap[b]? = w.heap[b]?) : Blk w' b C :=
 ⟨Nat.lt_of_lt_of_le h.lt hz, fun i => (World.cell?_of_block (w := w) (a := ⟨b, i, none⟩) he).trans (h.cell i), fun i => (World.frozen?_of_block (w := w) (a := ⟨b, i, none⟩) he).trans (h.free i)⟩
theorem row_end {w : World} {g : Nat} {cells old : Array Value} {t : TypeId} (hg : w.heap[g]? = some (.cells old t (0, 0))) : Blk (w.setRow g cells) g cells ∧ w.grownBy (w.setRow g cells) (some g) := by
 have hh := setRow_heap w g old cells t (0, 0) hg
 have hsz : (w.setRow g cells).heap.size = w.heap.size := by simp
 have hlt := (Array.getElem?_eq_some_iff.1 hg).1
 refine ⟨⟨by omega, fun i => by simp [World.cell?, hh], fun i => by simp [World.frozen?, hh]⟩, ⟨rfl, rfl, rfl, by omega, fun k _ hk => setRow_other w g k _ (fun e => hk (by rw [e]))⟩⟩
theorem plain4_of (an aq rg nd pt pr oc dp pa st hw de : Int) (ex : Nat) (hx : F64 ex) (ea : Int → Addr) (w : World) (h : EnvS ea w) : Calls Tryz.prog 187 #[.agg #[.int .i64 4, an, aq, rg, nd, pt, pr, oc, dp, pa, st, hw, de, flV ex]] w (Makes (.tuple #[.agg #[.int .i64 4, an, aq, .int .i64 0, .int .i64 0, .int .i64 0, .int .i64 0, .int .i64 0, .int .i64 0, .int .i64 0, .int .i64 0, .int .i64 0, de, flV 0], .bool (idOk an aq && decide (1 ≤ de ∧ de ≤ 2))]) w) := by
 have HI := qq (fun W hW => idRight_of an aq ea W hW)
 have HB0 : Below w.heap.size w ((w.alloc (.cells #[.int .i64 4, an, aq, rg, nd, pt, pr, oc, dp, pa, st, hw, de, flV ex] 39)).alloc (.cells #[.int .i64 0, .int .i64 0, .int .i64 0, .int .i64 0, .int .i64 0, .int .i64 0, .int .i64 0, .int .i64 0, .int .i64 0, .int .i64 0, .int .i64 0, .int .i64 0, .int .i64 0, flV 0] 39)) := (((Below.refl _ _).alloc (Nat.le_refl _) _).alloc (by simp) _)
 have HE := qq (h.below HB0).drew'; have HB := qq HB0.drew
 have HK0 : Blk ((w.alloc (.cells #[.int .i64 4, an, aq, rg, nd, pt, pr, oc, dp, pa, st, hw, de, flV ex] 39)).alloc (.cells #[.int .i64 0, .int .i64 0, .int .i64 0, .int .i64 0, .int .i64 0, .int .i64 0, .int .i64 0, .int .i64 0, .int .i64 0, .int .i64 0, .int .i64 0, .int .i64 0, .int .i64 0, flV 0] 39)) w.heap.size #[.int .i64 4, .int .i64 an, .int .i64 aq, .int .i64 rg, .int .i64 nd, .int .i64 pt, .int .i64 pr, .int .i64 oc, .int .i64 dp, .int .i64 pa, .int .i64 st, .int .i64 hw, .int .i64 de, flV ex] := (Blk.fresh w #[.int .i64 4, an, aq, rg, nd, pt, pr, oc, dp, pa, st, hw, de, flV ex] 39 _ rfl).alloc (.cells #[.int .i64 0, .int .i64 0, .int .i64 0, .int .i64 0, .int .i64 0, .int .i64 0, .int .i64 0, .int .i64 0, .int .i64 0, .int .i64 0, .int .i64 0, .int .i64 0, .int .i64 0, flV 0] 39)
 have HK := qq HK0.drew
 have HR : Hid (((w.alloc (.cells #[.int .i64 4, an, aq, rg, nd, pt, pr, oc, dp, pa, st, hw, de, flV ex] 39)).alloc (.cells #[.int .i64 0, .int .i64 0, .int .i64 0, .int .i64 0, .int .i64 0, .int .i64 0, .int .i64 0, .int .i64 0, .int .i64 0, .int .i64 0, .int .i64 0, .int .i64 0, .int .i64 0, flV 0] 39)).drew.heap[w.heap.size + 1]? = some (.cells #[.int .i64 0, .int .i64 0, .int .i64 0, .int .i64 0, .int .i64 0, .int .i64 0, .int .i64 0, .int .i64 0, .int .i64 0, .int .i64 0, .int .i64 0, .int .i64 0, .int .i64 0, flV 0] 39 (0, 0))) := qq (show ((w.alloc (.cells #[.int .i64 4, an, aq, rg, nd, pt, pr, oc, dp, pa, st, hw, de, flV ex] 39)).alloc (.cells #[.int .i64 0, .int .i64 0, .int .i64 0, .int .i64 0, .int .i64 0, .int .i64 0, .int .i64 0, .int .i64 0, .int .i64 0, .int .i64 0, .int .i64 0, .int .i64 0, .int .i64 0, flV 0] 39)).heap[w.heap.size + 1]? = _ from by rw [show w.heap.size + 1 = (w.alloc (.cells #[.int .i64 4, an, aq, rg, nd, pt, pr, oc, dp, pa, st, hw, de, flV ex] 39)).heap.size by simp]; first | exact heap_alloc_new _ _ | exact (Below.heap_alloc _ _ _ (by simp)).trans (heap_alloc_new _ _))
 clear h HB0 HK0
 go_enter Tryz.func187, Tryz.ntmps187
 go_wp2_with fail
 refine wp_region_held_drew (S := fun w' => Blk w' w.heap.size #[.int .i64 4, an, aq, rg, nd, pt, pr, oc, dp, pa, st, hw, de, flV ex]) (by kernel_rfl) HK.out (fun hHeld => ?_)
 generalize ((w.alloc (.cells #[.int .i64 4, an, aq, rg, nd, pt, pr, oc, dp, pa, st, hw, de, flV ex] 39)).alloc (.cells #[.int .i64 0, .int .i64 0, .int .i64 0, .int .i64 0, .int .i64 0, .int .i64 0, .int .i64 0, .int .i64 0, .int .i64 0, .int .i64 0, .int .i64 0, .int .i64 0, .int .i64 0, flV 0] 39)).drew = w5 at *
 refine takeU (d := some 108) 0 rfl rfl hHeld (fun w' hS' => by have qS := hS'.cell; clear hS'; go_simp; (try rfl)) ?_
 simp only [puts]
 refine takeU (d := some 109) 1 rfl rfl hHeld (fun w' hS' => by have qS := hS'.cell; clear hS'; go_simp; (try rfl)) ?_
 simp only [puts]
 refine takeU (d := some 110) 2 rfl rfl hHeld (fun w' hS' => by have qS := hS'.cell; clear hS'; go_simp; (try rfl)) ?_
 simp only [puts]
 refine takeU (d := some 111) 3 rfl rfl hHeld (fun w' hS' => by have qS := hS'.cell; clear hS'; go_simp; (try rfl)) ?_
 simp only [puts]
 refine takeU (d := some 112) 4 rfl rfl hHeld (fun w' hS' => by have qS := hS'.cell; clear hS'; go_simp; (try rfl)) ?_
 simp only [puts]
 refine takeU (d := some 113) 5 rfl rfl hHeld (fun w' hS' => by have qS := hS'.cell; clear hS'; go_simp; (try rfl)) ?_
 simp only [puts]
 refine takeU (d := some 114) 6 rfl rfl hHeld (fun w' hS' => by have qS := hS'.cell; clear hS'; go_simp; (try rfl)) ?_
 simp only [puts]
 refine takeU (d := some 115) 7 rfl rfl hHeld (fun w' hS' => by have qS := hS'.cell; clear hS'; go_simp; (try rfl)) ?_
 simp only [puts]
 refine takeU (d := some 116) 8 rfl rfl hHeld (fun w' hS' => by have qS := hS'.cell; clear hS'; go_simp; (try rfl)) ?_
 simp only [puts]
 have hvA : ∃ b, b = (idOk an aq) := ⟨_, rfl⟩
 refine wpAnyH_call (d := some 117) 9 141 _ _ [.agg #[an, aq]] rfl rfl (by kernel_rfl) rfl (enters_of Tryz.func141 (by kernel_rfl) rfl) (by rfl) (by rfl) ?_
 refine (HI.out _ HE.out).mono ?_; rintro e w5 ⟨rfl, hb1⟩
 have HR := qq ((hb1.block _ (Array.getElem?_eq_some_iff.1 HR.out).1).trans HR.out); have HB := qq (below_then HB.out hb1); have HK := qq (HK.out.below hb1); have HE := qq (HE.out.below hb1)
 have hHeld := (HK.out : (fun w' : World => Blk w' w.heap.size #[.int .i64 4, an, aq, rg, nd, pt, pr, oc, dp, pa, st, hw, de, flV ex]) w5)
 refine ⟨_, rfl, _, fun _ h => h, hHeld, fun hHeld => ?_⟩
 simp only [Act.put, puts]
 by_cases hcA : (idOk an aq) = true
 · rw [hcA]
   refine takeU (d := some 118) 10 rfl rfl hHeld (fun w' hS' => by have qS := hS'.cell; clear hS'; go_simp; (try rfl)) ?_
   simp only [puts]
   refine takeU (d := some 119) 11 rfl rfl hHeld (fun w' hS' => by have qS := hS'.cell; clear hS'; go_simp; (try rfl)) ?_
   simp only [puts]
   refine takeU (d := some 120) 12 rfl rfl hHeld (fun w' hS' => by have qS := hS'.cell; clear hS'; go_simp; (try rfl)) ?_
   simp only [puts]
   have hvB : ∃ b, b = (decide (1 ≤ de ∧ de ≤ 2)) := ⟨_, rfl⟩
   refine wpAnyH_call (d := some 121) 13 249 _ _ [.int .i64 de, .int .i64 1, .int .i64 2] rfl rfl (by kernel_rfl) rfl (enters_of Tryz.func249 (by kernel_rfl) rfl) (by rfl) (by rfl) ?_
   refine (within_of de 1 2 _).mono ?_; rintro e w5 ⟨rfl, rfl⟩
   refine ⟨_, rfl, _, fun _ h => h, hHeld, fun hHeld => ?_⟩
   simp only [Act.put, puts]
   refine takeU (d := some 122) 14 rfl rfl hHeld (fun w' hS' => by have qS := hS'.cell; clear hS'; go_simp; (try rfl)) ?_
   simp only [puts]
   refine wpAnyH_all (rs := [15]) (by kernel_rfl) (by simp) (fun j hj => ?_)
   obtain rfl : j = 15 := by simpa using hj
   refine wpOp_step rfl (fun K' hK => ?_)
   rw [if_pos (by rfl)]
   refine wp_store_row 39 (.tmp 2) (.tmp 114) rfl (w.heap.size + 1) #[.int .i64 4, .int .i64 an, .int .i64 aq, .int .i64 0, .int .i64 0, .int .i64 0, .int .i64 0, .int .i64 0, .int .i64 0, .int .i64 0, .int .i64 0, .int .i64 0, .int .i64 de, flV 0] rfl rfl 39 #[.int .i64 0, .int .i64 0, .int .i64 0, .int .i64 0, .int .i64 0, .int .i64 0, .int .i64 0, .int .i64 0, .int .i64 0, .int .i64 0, .int .i64 0, .int .i64 0, .int .i64 0, flV 0] HR.out (by kernel_rfl) rfl (by simp [Value.oneCell', flV]) ?_
   obtain ⟨HF, hgr⟩ := row_end (cells := #[.int .i64 4, .int .i64 an, .int .i64 aq, .int .i64 0, .int .i64 0, .int .i64 0, .int .i64 0, .int .i64 0, .int .i64 0, .int .i64 0, .int .i64 0, .int .i64 0, .int .i64 de, flV 0]) HR.out
   have hK2 := HK.out.heap' hgr.size (hgr.block _ HK.out.lt (fun e => by injection e with e; omega))
   have hB2 := qq (HB.out.grown hgr HB.out.size (fun k hk => by injection hk with hk; omega))
   have hHeld := (hK2 : (fun w' : World => Blk w' w.heap.size #[.int .i64 4, an, aq, rg, nd, pt, pr, oc, dp, pa, st, hw, de, flV ex]) (w5.setRow (w.heap.size + 1) #[.int .i64 4, .int .i64 an, .int .i64 aq, .int .i64 0, .int .i64 0, .int .i64 0, .int .i64 0, .int .i64 0, .int .i64 0, .int .i64 0, .int .i64 0, .int .i64 0, .int .i64 de, flV 0]))
   refine hK _ _ ⟨hHeld, ?_⟩
   simp only [Act.put, puts]
   clear hK hK2
   obtain ⟨q1, f1⟩ := HF.out
   generalize w5.setRow (w.heap.size + 1) #[.int .i64 4, .int .i64 an, .int .i64 aq, .int .i64 0, .int .i64 0, .int .i64 0, .int .i64 0, .int .i64 0, .int .i64 0, .int .i64 0, .int .i64 0, .int .i64 0, .int .i64 de, flV 0] = w6 at *
   refine takeU (d := some 3) 16 rfl rfl hHeld (fun w' hS' => by have qS := hS'.cell; clear hS'; go_simp; (try rfl)) ?_
   simp only [puts]
   refine wpAnyH_done (by kernel_rfl) ?_ _
   clear hHeld
   go_wp2_with fail
   exact bodyPost_ret (v := .tuple #[.agg #[.int .i64 4, an, aq, .int .i64 0, .int .i64 0, .int .i64 0, .int .i64 0, .int .i64 0, .int .i64 0, .int .i64 0, .int .i64 0, .int .i64 0, de, flV 0], .bool (decide (1 ≤ de ∧ de ≤ 2))]) (by simp [results, Tryz.results187, go_sem, q1, f1]) rfl ⟨by simp, hB2.out⟩
 · rw [Bool.not_eq_true] at hcA; rw [hcA]
   refine takeU (d := some 118) 10 rfl rfl hHeld (fun w' hS' => by have qS := hS'.cell; clear hS'; go_simp; (try rfl)) ?_
   simp only [puts]
   refine skipT (d := some 119) 11 hHeld ?_
   simp only [puts]
   refine skipT (d := some 120) 12 hHeld ?_
   simp only [puts]
   refine skipT (d := some 121) 13 hHeld ?_
   simp only [puts]
   refine takeU (d := some 122) 14 rfl rfl hHeld (fun w' hS' => by have qS := hS'.cell; clear hS'; go_simp; (try rfl)) ?_
   simp only [puts]
   refine wpAnyH_all (rs := [15]) (by kernel_rfl) (by simp) (fun j hj => ?_)
   obtain rfl : j = 15 := by simpa using hj
   refine wpOp_step rfl (fun K' hK => ?_)
   rw [if_pos (by rfl)]
   refine wp_store_row 39 (.tmp 2) (.tmp 114) rfl (w.heap.size + 1) #[.int .i64 4, .int .i64 an, .int .i64 aq, .int .i64 0, .int .i64 0, .int .i64 0, .int .i64 0, .int .i64 0, .int .i64 0, .int .i64 0, .int .i64 0, .int .i64 0, .int .i64 de, flV 0] rfl rfl 39 #[.int .i64 0, .int .i64 0, .int .i64 0, .int .i64 0, .int .i64 0, .int .i64 0, .int .i64 0, .int .i64 0, .int .i64 0, .int .i64 0, .int .i64 0, .int .i64 0, .int .i64 0, flV 0] HR.out (by kernel_rfl) rfl (by simp [Value.oneCell', flV]) ?_
   obtain ⟨HF, hgr⟩ := row_end (cells := #[.int .i64 4, .int .i64 an, .int .i64 aq, .int .i64 0, .int .i64 0, .int .i64 0, .int .i64 0, .int .i64 0, .int .i64 0, .int .i64 0, .int .i64 0, .int .i64 0, .int .i64 de, flV 0]) HR.out
   have hK2 := HK.out.heap' hgr.size (hgr.block _ HK.out.lt (fun e => by injection e with e; omega))
   have hB2 := qq (HB.out.grown hgr HB.out.size (fun k hk => by injection hk with hk; omega))
   have hHeld := (hK2 : (fun w' : World => Blk w' w.heap.size #[.int .i64 4, an, aq, rg, nd, pt, pr, oc, dp, pa, st, hw, de, flV ex]) (w5.setRow (w.heap.size + 1) #[.int .i64 4, .int .i64 an, .int .i64 aq, .int .i64 0, .int .i64 0, .int .i64 0, .int .i64 0, .int .i64 0, .int .i64 0, .int .i64 0, .int .i64 0, .int .i64 0, .int .i64 de, flV 0]))
   refine hK _ _ ⟨hHeld, ?_⟩
   simp only [Act.put, puts]
   clear hK hK2
   obtain ⟨q1, f1⟩ := HF.out
   generalize w5.setRow (w.heap.size + 1) #[.int .i64 4, .int .i64 an, .int .i64 aq, .int .i64 0, .int .i64 0, .int .i64 0, .int .i64 0, .int .i64 0, .int .i64 0, .int .i64 0, .int .i64 0, .int .i64 0, .int .i64 de, flV 0] = w6 at *
   refine takeU (d := some 3) 16 rfl rfl hHeld (fun w' hS' => by have qS := hS'.cell; clear hS'; go_simp; (try rfl)) ?_
   simp only [puts]
   refine wpAnyH_done (by kernel_rfl) ?_ _
   clear hHeld
   go_wp2_with fail
   exact bodyPost_ret (v := .tuple #[.agg #[.int .i64 4, an, aq, .int .i64 0, .int .i64 0, .int .i64 0, .int .i64 0, .int .i64 0, .int .i64 0, .int .i64 0, .int .i64 0, .int .i64 0, de, flV 0], .bool (false)]) (by simp [results, Tryz.results187, go_sem, q1, f1]) rfl ⟨by simp, hB2.out⟩
theorem plain5_of (an aq rg nd pt pr oc dp pa st hw de : Int) (ex : Nat) (hx : F64 ex) (ea : Int → Addr) (w : World) (h : EnvS ea w) : Calls Tryz.prog 187 #[.agg #[.int .i64 5, an, aq, rg, nd, pt, pr, oc, dp, pa, st, hw, de, flV ex]] w (Makes (.tuple #[.agg #[.int .i64 5, an, aq, .int .i64 0, .int .i64 0, .int .i64 0, .int .i64 0, .int .i64 0, .int .i64 0, .int .i64 0, .int .i64 0, .int .i64 0, .int .i64 0, flV 0], .bool (idOk an aq)]) w) := by
 have HI := qq (fun W hW => idRight_of an aq ea W hW)
 have HB0 : Below w.heap.size w ((w.alloc (.cells #[.int .i64 5, an, aq, rg, nd, pt, pr, oc, dp, pa, st, hw, de, flV ex] 39)).alloc (.cells #[.int .i64 0, .int .i64 0, .int .i64 0, .int .i64 0, .int .i64 0, .int .i64 0, .int .i64 0, .int .i64 0, .int .i64 0, .int .i64 0, .int .i64 0, .int .i64 0, .int .i64 0, flV 0] 39)) := (((Below.refl _ _).alloc (Nat.le_refl _) _).alloc (by simp) _)
 have HE := qq (h.below HB0).drew'; have HB := qq HB0.drew
 have HK0 : Blk ((w.alloc (.cells #[.int .i64 5, an, aq, rg, nd, pt, pr, oc, dp, pa, st, hw, de, flV ex] 39)).alloc (.cells #[.int .i64 0, .int .i64 0, .int .i64 0, .int .i64 0, .int .i64 0, .int .i64 0, .int .i64 0, .int .i64 0, .int .i64 0, .int .i64 0, .int .i64 0, .int .i64 0, .int .i64 0, flV 0] 39)) w.heap.size #[.int .i64 5, .int .i64 an, .int .i64 aq, .int .i64 rg, .int .i64 nd, .int .i64 pt, .int .i64 pr, .int .i64 oc, .int .i64 dp, .int .i64 pa, .int .i64 st, .int .i64 hw, .int .i64 de, flV ex] := (Blk.fresh w #[.int .i64 5, an, aq, rg, nd, pt, pr, oc, dp, pa, st, hw, de, flV ex] 39 _ rfl).alloc (.cells #[.int .i64 0, .int .i64 0, .int .i64 0, .int .i64 0, .int .i64 0, .int .i64 0, .int .i64 0, .int .i64 0, .int .i64 0, .int .i64 0, .int .i64 0, .int .i64 0, .int .i64 0, flV 0] 39)
 have HK := qq HK0.drew
 have HR : Hid (((w.alloc (.cells #[.int .i64 5, an, aq, rg, nd, pt, pr, oc, dp, pa, st, hw, de, flV ex] 39)).alloc (.cells #[.int .i64 0, .int .i64 0, .int .i64 0, .int .i64 0, .int .i64 0, .int .i64 0, .int .i64 0, .int .i64 0, .int .i64 0, .int .i64 0, .int .i64 0, .int .i64 0, .int .i64 0, flV 0] 39)).drew.heap[w.heap.size + 1]? = some (.cells #[.int .i64 0, .int .i64 0, .int .i64 0, .int .i64 0, .int .i64 0, .int .i64 0, .int .i64 0, .int .i64 0, .int .i64 0, .int .i64 0, .int .i64 0, .int .i64 0, .int .i64 0, flV 0] 39 (0, 0))) := qq (show ((w.alloc (.cells #[.int .i64 5, an, aq, rg, nd, pt, pr, oc, dp, pa, st, hw, de, flV ex] 39)).alloc (.cells #[.int .i64 0, .int .i64 0, .int .i64 0, .int .i64 0, .int .i64 0, .int .i64 0, .int .i64 0, .int .i64 0, .int .i64 0, .int .i64 0, .int .i64 0, .int .i64 0, .int .i64 0, flV 0] 39)).heap[w.heap.size + 1]? = _ from by rw [show w.heap.size + 1 = (w.alloc (.cells #[.int .i64 5, an, aq, rg, nd, pt, pr, oc, dp, pa, st, hw, de, flV ex] 39)).heap.size by simp]; first | exact heap_alloc_new _ _ | exact (Below.heap_alloc _ _ _ (by simp)).trans (heap_alloc_new _ _))
 clear h HB0 HK0
 go_enter Tryz.func187, Tryz.ntmps187
 go_wp2_with fail
 refine wp_region_held_drew (S := fun w' => Blk w' w.heap.size #[.int .i64 5, an, aq, rg, nd, pt, pr, oc, dp, pa, st, hw, de, flV ex]) (by kernel_rfl) HK.out (fun hHeld => ?_)
 generalize ((w.alloc (.cells #[.int .i64 5, an, aq, rg, nd, pt, pr, oc, dp, pa, st, hw, de, flV ex] 39)).alloc (.cells #[.int .i64 0, .int .i64 0, .int .i64 0, .int .i64 0, .int .i64 0, .int .i64 0, .int .i64 0, .int .i64 0, .int .i64 0, .int .i64 0, .int .i64 0, .int .i64 0, .int .i64 0, flV 0] 39)).drew = w5 at *
 refine takeU (d := some 125) 0 rfl rfl hHeld (fun w' hS' => by have qS := hS'.cell; clear hS'; go_simp; (try rfl)) ?_
 simp only [puts]
 refine takeU (d := some 126) 1 rfl rfl hHeld (fun w' hS' => by have qS := hS'.cell; clear hS'; go_simp; (try rfl)) ?_
 simp only [puts]
 refine takeU (d := some 127) 2 rfl rfl hHeld (fun w' hS' => by have qS := hS'.cell; clear hS'; go_simp; (try rfl)) ?_
 simp only [puts]
 refine takeU (d := some 128) 3 rfl rfl hHeld (fun w' hS' => by have qS := hS'.cell; clear hS'; go_simp; (try rfl)) ?_
 simp only [puts]
 refine takeU (d := some 129) 4 rfl rfl hHeld (fun w' hS' => by have qS := hS'.cell; clear hS'; go_simp; (try rfl)) ?_
 simp only [puts]
 refine takeU (d := some 130) 5 rfl rfl hHeld (fun w' hS' => by have qS := hS'.cell; clear hS'; go_simp; (try rfl)) ?_
 simp only [puts]
 refine takeU (d := some 131) 6 rfl rfl hHeld (fun w' hS' => by have qS := hS'.cell; clear hS'; go_simp; (try rfl)) ?_
 simp only [puts]
 have hvA : ∃ b, b = (idOk an aq) := ⟨_, rfl⟩
 refine wpAnyH_call (d := some 132) 7 141 _ _ [.agg #[an, aq]] rfl rfl (by kernel_rfl) rfl (enters_of Tryz.func141 (by kernel_rfl) rfl) (by rfl) (by rfl) ?_
 refine (HI.out _ HE.out).mono ?_; rintro e w5 ⟨rfl, hb1⟩
 have HR := qq ((hb1.block _ (Array.getElem?_eq_some_iff.1 HR.out).1).trans HR.out); have HB := qq (below_then HB.out hb1); have HK := qq (HK.out.below hb1); have HE := qq (HE.out.below hb1)
 have hHeld := (HK.out : (fun w' : World => Blk w' w.heap.size #[.int .i64 5, an, aq, rg, nd, pt, pr, oc, dp, pa, st, hw, de, flV ex]) w5)
 refine ⟨_, rfl, _, fun _ h => h, hHeld, fun hHeld => ?_⟩
 simp only [Act.put, puts]
 refine wpAnyH_all (rs := [8]) (by kernel_rfl) (by simp) (fun j hj => ?_)
 obtain rfl : j = 8 := by simpa using hj
 refine wpOp_step rfl (fun K' hK => ?_)
 rw [if_pos (by rfl)]
 refine wp_store_row 39 (.tmp 2) (.tmp 129) rfl (w.heap.size + 1) #[.int .i64 5, .int .i64 an, .int .i64 aq, .int .i64 0, .int .i64 0, .int .i64 0, .int .i64 0, .int .i64 0, .int .i64 0, .int .i64 0, .int .i64 0, .int .i64 0, .int .i64 0, flV 0] rfl rfl 39 #[.int .i64 0, .int .i64 0, .int .i64 0, .int .i64 0, .int .i64 0, .int .i64 0, .int .i64 0, .int .i64 0, .int .i64 0, .int .i64 0, .int .i64 0, .int .i64 0, .int .i64 0, flV 0] HR.out (by kernel_rfl) rfl (by simp [Value.oneCell', flV]) ?_
 obtain ⟨HF, hgr⟩ := row_end (cells := #[.int .i64 5, .int .i64 an, .int .i64 aq, .int .i64 0, .int .i64 0, .int .i64 0, .int .i64 0, .int .i64 0, .int .i64 0, .int .i64 0, .int .i64 0, .int .i64 0, .int .i64 0, flV 0]) HR.out
 have hK2 := HK.out.heap' hgr.size (hgr.block _ HK.out.lt (fun e => by injection e with e; omega))
 have hB2 := qq (HB.out.grown hgr HB.out.size (fun k hk => by injection hk with hk; omega))
 have hHeld := (hK2 : (fun w' : World => Blk w' w.heap.size #[.int .i64 5, an, aq, rg, nd, pt, pr, oc, dp, pa, st, hw, de, flV ex]) (w5.setRow (w.heap.size + 1) #[.int .i64 5, .int .i64 an, .int .i64 aq, .int .i64 0, .int .i64 0, .int .i64 0, .int .i64 0, .int .i64 0, .int .i64 0, .int .i64 0, .int .i64 0, .int .i64 0, .int .i64 0, flV 0]))
 refine hK _ _ ⟨hHeld, ?_⟩
 simp only [Act.put, puts]
 clear hK hK2
 obtain ⟨q1, f1⟩ := HF.out
 generalize w5.setRow (w.heap.size + 1) #[.int .i64 5, .int .i64 an, .int .i64 aq, .int .i64 0, .int .i64 0, .int .i64 0, .int .i64 0, .int .i64 0, .int .i64 0, .int .i64 0, .int .i64 0, .int .i64 0, .int .i64 0, flV 0] = w6 at *
 refine takeU (d := some 3) 9 rfl rfl hHeld (fun w' hS' => by have qS := hS'.cell; clear hS'; go_simp; (try rfl)) ?_
 simp only [puts]
 refine wpAnyH_done (by kernel_rfl) ?_ _
 clear hHeld
 go_wp2_with fail
 exact bodyPost_ret (v := .tuple #[.agg #[.int .i64 5, an, aq, .int .i64 0, .int .i64 0, .int .i64 0, .int .i64 0, .int .i64 0, .int .i64 0, .int .i64 0, .int .i64 0, .int .i64 0, .int .i64 0, flV 0], .bool (idOk an aq)]) (by simp [results, Tryz.results187, go_sem, q1, f1]) rfl ⟨by simp, hB2.out⟩
theorem plain6_of (an aq rg nd pt pr oc dp pa st hw de : Int) (ex : Nat) (hx : F64 ex) (ea : Int → Addr) (w : World) (h : EnvS ea w) : Calls Tryz.prog 187 #[.agg #[.int .i64 6, an, aq, rg, nd, pt, pr, oc, dp, pa, st, hw, de, flV ex]] w (Makes (.tuple #[.agg #[.int .i64 6, an, aq, .int .i64 0, .int .i64 0, pt, pr, .int .i64 0, .int .i64 0, .int .i64 0, .int .i64 0, .int .i64 0, .int .i64 0, flV 0], .bool (idOk an aq && decide (0 ≤ pt ∧ pt ≤ 7) && decide (1 ≤ pr ∧ pr ≤ 2))]) w) := by
 have HI := qq (fun W hW => idRight_of an aq ea W hW)
 have HB0 : Below w.heap.size w ((w.alloc (.cells #[.int .i64 6, an, aq, rg, nd, pt, pr, oc, dp, pa, st, hw, de, flV ex] 39)).alloc (.cells #[.int .i64 0, .int .i64 0, .int .i64 0, .int .i64 0, .int .i64 0, .int .i64 0, .int .i64 0, .int .i64 0, .int .i64 0, .int .i64 0, .int .i64 0, .int .i64 0, .int .i64 0, flV 0] 39)) := (((Below.refl _ _).alloc (Nat.le_refl _) _).alloc (by simp) _)
 have HE := qq (h.below HB0).drew'; have HB := qq HB0.drew
 have HK0 : Blk ((w.alloc (.cells #[.int .i64 6, an, aq, rg, nd, pt, pr, oc, dp, pa, st, hw, de, flV ex] 39)).alloc (.cells #[.int .i64 0, .int .i64 0, .int .i64 0, .int .i64 0, .int .i64 0, .int .i64 0, .int .i64 0, .int .i64 0, .int .i64 0, .int .i64 0, .int .i64 0, .int .i64 0, .int .i64 0, flV 0] 39)) w.heap.size #[.int .i64 6, .int .i64 an, .int .i64 aq, .int .i64 rg, .int .i64 nd, .int .i64 pt, .int .i64 pr, .int .i64 oc, .int .i64 dp, .int .i64 pa, .int .i64 st, .int .i64 hw, .int .i64 de, flV ex] := (Blk.fresh w #[.int .i64 6, an, aq, rg, nd, pt, pr, oc, dp, pa, st, hw, de, flV ex] 39 _ rfl).alloc (.cells #[.int .i64 0, .int .i64 0, .int .i64 0, .int .i64 0, .int .i64 0, .int .i64 0, .int .i64 0, .int .i64 0, .int .i64 0, .int .i64 0, .int .i64 0, .int .i64 0, .int .i64 0, flV 0] 39)
 have HK := qq HK0.drew
 have HR : Hid (((w.alloc (.cells #[.int .i64 6, an, aq, rg, nd, pt, pr, oc, dp, pa, st, hw, de, flV ex] 39)).alloc (.cells #[.int .i64 0, .int .i64 0, .int .i64 0, .int .i64 0, .int .i64 0, .int .i64 0, .int .i64 0, .int .i64 0, .int .i64 0, .int .i64 0, .int .i64 0, .int .i64 0, .int .i64 0, flV 0] 39)).drew.heap[w.heap.size + 1]? = some (.cells #[.int .i64 0, .int .i64 0, .int .i64 0, .int .i64 0, .int .i64 0, .int .i64 0, .int .i64 0, .int .i64 0, .int .i64 0, .int .i64 0, .int .i64 0, .int .i64 0, .int .i64 0, flV 0] 39 (0, 0))) := qq (show ((w.alloc (.cells #[.int .i64 6, an, aq, rg, nd, pt, pr, oc, dp, pa, st, hw, de, flV ex] 39)).alloc (.cells #[.int .i64 0, .int .i64 0, .int .i64 0, .int .i64 0, .int .i64 0, .int .i64 0, .int .i64 0, .int .i64 0, .int .i64 0, .int .i64 0, .int .i64 0, .int .i64 0, .int .i64 0, flV 0] 39)).heap[w.heap.size + 1]? = _ from by rw [show w.heap.size + 1 = (w.alloc (.cells #[.int .i64 6, an, aq, rg, nd, pt, pr, oc, dp, pa, st, hw, de, flV ex] 39)).heap.size by simp]; first | exact heap_alloc_new _ _ | exact (Below.heap_alloc _ _ _ (by simp)).trans (heap_alloc_new _ _))
 clear h HB0 HK0
 go_enter Tryz.func187, Tryz.ntmps187
 go_wp2_with fail
 refine wp_region_held_drew (S := fun w' => Blk w' w.heap.size #[.int .i64 6, an, aq, rg, nd, pt, pr, oc, dp, pa, st, hw, de, flV ex]) (by kernel_rfl) HK.out (fun hHeld => ?_)
 generalize ((w.alloc (.cells #[.int .i64 6, an, aq, rg, nd, pt, pr, oc, dp, pa, st, hw, de, flV ex] 39)).alloc (.cells #[.int .i64 0, .int .i64 0, .int .i64 0, .int .i64 0, .int .i64 0, .int .i64 0, .int .i64 0, .int .i64 0, .int .i64 0, .int .i64 0, .int .i64 0, .int .i64 0, .int .i64 0, flV 0] 39)).drew = w5 at *
 refine takeU (d := some 135) 0 rfl rfl hHeld (fun w' hS' => by have qS := hS'.cell; clear hS'; go_simp; (try rfl)) ?_
 simp only [puts]
 refine takeU (d := some 136) 1 rfl rfl hHeld (fun w' hS' => by have qS := hS'.cell; clear hS'; go_simp; (try rfl)) ?_
 simp only [puts]
 refine takeU (d := some 137) 2 rfl rfl hHeld (fun w' hS' => by have qS := hS'.cell; clear hS'; go_simp; (try rfl)) ?_
 simp only [puts]
 refine takeU (d := some 138) 3 rfl rfl hHeld (fun w' hS' => by have qS := hS'.cell; clear hS'; go_simp; (try rfl)) ?_
 simp only [puts]
 refine takeU (d := some 139) 4 rfl rfl hHeld (fun w' hS' => by have qS := hS'.cell; clear hS'; go_simp; (try rfl)) ?_
 simp only [puts]
 refine takeU (d := some 140) 5 rfl rfl hHeld (fun w' hS' => by have qS := hS'.cell; clear hS'; go_simp; (try rfl)) ?_
 simp only [puts]
 refine takeU (d := some 141) 6 rfl rfl hHeld (fun w' hS' => by have qS := hS'.cell; clear hS'; go_simp; (try rfl)) ?_
 simp only [puts]
 refine takeU (d := some 142) 7 rfl rfl hHeld (fun w' hS' => by have qS := hS'.cell; clear hS'; go_simp; (try rfl)) ?_
 simp only [puts]
 refine takeU (d := some 143) 8 rfl rfl hHeld (fun w' hS' => by have qS := hS'.cell; clear hS'; go_simp; (try rfl)) ?_
 simp only [puts]
 refine takeU (d := some 144) 9 rfl rfl hHeld (fun w' hS' => by have qS := hS'.cell; clear hS'; go_simp; (try rfl)) ?_
 simp only [puts]
 refine takeU (d := some 145) 10 rfl rfl hHeld (fun w' hS' => by have qS := hS'.cell; clear hS'; go_simp; (try rfl)) ?_
 simp only [puts]
 have hvA : ∃ b, b = (idOk an aq) := ⟨_, rfl⟩
 refine wpAnyH_call (d := some 146) 11 141 _ _ [.agg #[an, aq]] rfl rfl (by kernel_rfl) rfl (enters_of Tryz.func141 (by kernel_rfl) rfl) (by rfl) (by rfl) ?_
 refine (HI.out _ HE.out).mono ?_; rintro e w5 ⟨rfl, hb1⟩
 have HR := qq ((hb1.block _ (Array.getElem?_eq_some_iff.1 HR.out).1).trans HR.out); have HB := qq (below_then HB.out hb1); have HK := qq (HK.out.below hb1); have HE := qq (HE.out.below hb1)
 have hHeld := (HK.out : (fun w' : World => Blk w' w.heap.size #[.int .i64 6, an, aq, rg, nd, pt, pr, oc, dp, pa, st, hw, de, flV ex]) w5)
 refine ⟨_, rfl, _, fun _ h => h, hHeld, fun hHeld => ?_⟩
 simp only [Act.put, puts]
 by_cases hcA : (idOk an aq) = true
 · rw [hcA]
   refine takeU (d := some 147) 12 rfl rfl hHeld (fun w' hS' => by have qS := hS'.cell; clear hS'; go_simp; (try rfl)) ?_
   simp only [puts]
   refine takeU (d := some 148) 13 rfl rfl hHeld (fun w' hS' => by have qS := hS'.cell; clear hS'; go_simp; (try rfl)) ?_
   simp only [puts]
   refine takeU (d := some 149) 14 rfl rfl hHeld (fun w' hS' => by have qS := hS'.cell; clear hS'; go_simp; (try rfl)) ?_
   simp only [puts]
   have hvB : ∃ b, b = (decide (0 ≤ pt ∧ pt ≤ 7)) := ⟨_, rfl⟩
   refine wpAnyH_call (d := some 150) 15 251 _ _ [.int .i64 pt] rfl rfl (by kernel_rfl) rfl (enters_of Tryz.func251 (by kernel_rfl) rfl) (by rfl) (by rfl) ?_
   refine (isPart_of pt _).mono ?_; rintro e w5 ⟨rfl, rfl⟩
   refine ⟨_, rfl, _, fun _ h => h, hHeld, fun hHeld => ?_⟩
   simp only [Act.put, puts]
   by_cases hcB : (decide (0 ≤ pt ∧ pt ≤ 7)) = true
   · rw [hcB]
     refine takeU (d := some 151) 16 rfl rfl hHeld (fun w' hS' => by have qS := hS'.cell; clear hS'; go_simp; (try rfl)) ?_
     simp only [puts]
     refine takeU (d := some 152) 17 rfl rfl hHeld (fun w' hS' => by have qS := hS'.cell; clear hS'; go_simp; (try rfl)) ?_
     simp only [puts]
     refine takeU (d := some 153) 18 rfl rfl hHeld (fun w' hS' => by have qS := hS'.cell; clear hS'; go_simp; (try rfl)) ?_
     simp only [puts]
     refine takeU (d := some 154) 19 rfl rfl hHeld (fun w' hS' => by have qS := hS'.cell; clear hS'; go_simp; (try rfl)) ?_
     simp only [puts]
     have hvC : ∃ b, b = (decide (1 ≤ pr ∧ pr ≤ 2)) := ⟨_, rfl⟩
     refine wpAnyH_call (d := some 155) 20 249 _ _ [.int .i64 pr, .int .i64 1, .int .i64 2] rfl rfl (by kernel_rfl) rfl (enters_of Tryz.func249 (by kernel_rfl) rfl) (by rfl) (by rfl) ?_
     refine (within_of pr 1 2 _).mono ?_; rintro e w5 ⟨rfl, rfl⟩
     refine ⟨_, rfl, _, fun _ h => h, hHeld, fun hHeld => ?_⟩
     simp only [Act.put, puts]
     refine takeU (d := some 156) 21 rfl rfl hHeld (fun w' hS' => by have qS := hS'.cell; clear hS'; go_simp; (try rfl)) ?_
     simp only [puts]
     refine wpAnyH_all (rs := [22]) (by kernel_rfl) (by simp) (fun j hj => ?_)
     obtain rfl : j = 22 := by simpa using hj
     refine wpOp_step rfl (fun K' hK => ?_)
     rw [if_pos (by rfl)]
     refine wp_store_row 39 (.tmp 2) (.tmp 143) rfl (w.heap.size + 1) #[.int .i64 6, .int .i64 an, .int .i64 aq, .int .i64 0, .int .i64 0, .int .i64 pt, .int .i64 pr, .int .i64 0, .int .i64 0, .int .i64 0, .int .i64 0, .int .i64 0, .int .i64 0, flV 0] rfl rfl 39 #[.int .i64 0, .int .i64 0, .int .i64 0, .int .i64 0, .int .i64 0, .int .i64 0, .int .i64 0, .int .i64 0, .int .i64 0, .int .i64 0, .int .i64 0, .int .i64 0, .int .i64 0, flV 0] HR.out (by kernel_rfl) rfl (by simp [Value.oneCell', flV]) ?_
     obtain ⟨HF, hgr⟩ := row_end (cells := #[.int .i64 6, .int .i64 an, .int .i64 aq, .int .i64 0, .int .i64 0, .int .i64 pt, .int .i64 pr, .int .i64 0, .int .i64 0, .int .i64 0, .int .i64 0, .int .i64 0, .int .i64 0, flV 0]) HR.out
     have hK2 := HK.out.heap' hgr.size (hgr.block _ HK.out.lt (fun e => by injection e with e; omega))
     have hB2 := qq (HB.out.grown hgr HB.out.size (fun k hk => by injection hk with hk; omega))
     have hHeld := (hK2 : (fun w' : World => Blk w' w.heap.size #[.int .i64 6, an, aq, rg, nd, pt, pr, oc, dp, pa, st, hw, de, flV ex]) (w5.setRow (w.heap.size + 1) #[.int .i64 6, .int .i64 an, .int .i64 aq, .int .i64 0, .int .i64 0, .int .i64 pt, .int .i64 pr, .int .i64 0, .int .i64 0, .int .i64 0, .int .i64 0, .int .i64 0, .int .i64 0, flV 0]))
     refine hK _ _ ⟨hHeld, ?_⟩
     simp only [Act.put, puts]
     clear hK hK2
     obtain ⟨q1, f1⟩ := HF.out
     generalize w5.setRow (w.heap.size + 1) #[.int .i64 6, .int .i64 an, .int .i64 aq, .int .i64 0, .int .i64 0, .int .i64 pt, .int .i64 pr, .int .i64 0, .int .i64 0, .int .i64 0, .int .i64 0, .int .i64 0, .int .i64 0, flV 0] = w6 at *
     refine takeU (d := some 3) 23 rfl rfl hHeld (fun w' hS' => by have qS := hS'.cell; clear hS'; go_simp; (try rfl)) ?_
     simp only [puts]
     refine wpAnyH_done (by kernel_rfl) ?_ _
     clear hHeld
     go_wp2_with fail
     exact bodyPost_ret (v := .tuple #[.agg #[.int .i64 6, an, aq, .int .i64 0, .int .i64 0, pt, pr, .int .i64 0, .int .i64 0, .int .i64 0, .int .i64 0, .int .i64 0, .int .i64 0, flV 0], .bool (decide (1 ≤ pr ∧ pr ≤ 2))]) (by simp [results, Tryz.results187, go_sem, q1, f1]) rfl ⟨by simp, hB2.out⟩
   · rw [Bool.not_eq_true] at hcB; rw [hcB]
     refine takeU (d := some 151) 16 rfl rfl hHeld (fun w' hS' => by have qS := hS'.cell; clear hS'; go_simp; (try rfl)) ?_
     simp only [puts]
     refine takeU (d := some 152) 17 rfl rfl hHeld (fun w' hS' => by have qS := hS'.cell; clear hS'; go_simp; (try rfl)) ?_
     simp only [puts]
     refine skipT (d := some 153) 18 hHeld ?_
     simp only [puts]
     refine skipT (d := some 154) 19 hHeld ?_
     simp only [puts]
     refine skipT (d := some 155) 20 hHeld ?_
     simp only [puts]
     refine takeU (d := some 156) 21 rfl rfl hHeld (fun w' hS' => by have qS := hS'.cell; clear hS'; go_simp; (try rfl)) ?_
     simp only [puts]
     refine wpAnyH_all (rs := [22]) (by kernel_rfl) (by simp) (fun j hj => ?_)
     obtain rfl : j = 22 := by simpa using hj
     refine wpOp_step rfl (fun K' hK => ?_)
     rw [if_pos (by rfl)]
     refine wp_store_row 39 (.tmp 2) (.tmp 143) rfl (w.heap.size + 1) #[.int .i64 6, .int .i64 an, .int .i64 aq, .int .i64 0, .int .i64 0, .int .i64 pt, .int .i64 pr, .int .i64 0, .int .i64 0, .int .i64 0, .int .i64 0, .int .i64 0, .int .i64 0, flV 0] rfl rfl 39 #[.int .i64 0, .int .i64 0, .int .i64 0, .int .i64 0, .int .i64 0, .int .i64 0, .int .i64 0, .int .i64 0, .int .i64 0, .int .i64 0, .int .i64 0, .int .i64 0, .int .i64 0, flV 0] HR.out (by kernel_rfl) rfl (by simp [Value.oneCell', flV]) ?_
     obtain ⟨HF, hgr⟩ := row_end (cells := #[.int .i64 6, .int .i64 an, .int .i64 aq, .int .i64 0, .int .i64 0, .int .i64 pt, .int .i64 pr, .int .i64 0, .int .i64 0, .int .i64 0, .int .i64 0, .int .i64 0, .int .i64 0, flV 0]) HR.out
     have hK2 := HK.out.heap' hgr.size (hgr.block _ HK.out.lt (fun e => by injection e with e; omega))
     have hB2 := qq (HB.out.grown hgr HB.out.size (fun k hk => by injection hk with hk; omega))
     have hHeld := (hK2 : (fun w' : World => Blk w' w.heap.size #[.int .i64 6, an, aq, rg, nd, pt, pr, oc, dp, pa, st, hw, de, flV ex]) (w5.setRow (w.heap.size + 1) #[.int .i64 6, .int .i64 an, .int .i64 aq, .int .i64 0, .int .i64 0, .int .i64 pt, .int .i64 pr, .int .i64 0, .int .i64 0, .int .i64 0, .int .i64 0, .int .i64 0, .int .i64 0, flV 0]))
     refine hK _ _ ⟨hHeld, ?_⟩
     simp only [Act.put, puts]
     clear hK hK2
     obtain ⟨q1, f1⟩ := HF.out
     generalize w5.setRow (w.heap.size + 1) #[.int .i64 6, .int .i64 an, .int .i64 aq, .int .i64 0, .int .i64 0, .int .i64 pt, .int .i64 pr, .int .i64 0, .int .i64 0, .int .i64 0, .int .i64 0, .int .i64 0, .int .i64 0, flV 0] = w6 at *
     refine takeU (d := some 3) 23 rfl rfl hHeld (fun w' hS' => by have qS := hS'.cell; clear hS'; go_simp; (try rfl)) ?_
     simp only [puts]
     refine wpAnyH_done (by kernel_rfl) ?_ _
     clear hHeld
     go_wp2_with fail
     exact bodyPost_ret (v := .tuple #[.agg #[.int .i64 6, an, aq, .int .i64 0, .int .i64 0, pt, pr, .int .i64 0, .int .i64 0, .int .i64 0, .int .i64 0, .int .i64 0, .int .i64 0, flV 0], .bool (false)]) (by simp [results, Tryz.results187, go_sem, q1, f1]) rfl ⟨by simp, hB2.out⟩
 · rw [Bool.not_eq_true] at hcA; rw [hcA]
   refine takeU (d := some 147) 12 rfl rfl hHeld (fun w' hS' => by have qS := hS'.cell; clear hS'; go_simp; (try rfl)) ?_
   simp only [puts]
   refine skipT (d := some 148) 13 hHeld ?_
   simp only [puts]
   refine skipT (d := some 149) 14 hHeld ?_
   simp only [puts]
   refine skipT (d := some 150) 15 hHeld ?_
   simp only [puts]
   refine takeU (d := some 151) 16 rfl rfl hHeld (fun w' hS' => by have qS := hS'.cell; clear hS'; go_simp; (try rfl)) ?_
   simp only [puts]
   refine takeU (d := some 152) 17 rfl rfl hHeld (fun w' hS' => by have qS := hS'.cell; clear hS'; go_simp; (try rfl)) ?_
   simp only [puts]
   refine skipT (d := some 153) 18 hHeld ?_
   simp only [puts]
   refine skipT (d := some 154) 19 hHeld ?_
   simp only [puts]
   refine skipT (d := some 155) 20 hHeld ?_
   simp only [puts]
   refine takeU (d := some 156) 21 rfl rfl hHeld (fun w' hS' => by have qS := hS'.cell; clear hS'; go_simp; (try rfl)) ?_
   simp only [puts]
   refine wpAnyH_all (rs := [22]) (by kernel_rfl) (by simp) (fun j hj => ?_)
   obtain rfl : j = 22 := by simpa using hj
   refine wpOp_step rfl (fun K' hK => ?_)
   rw [if_pos (by rfl)]
   refine wp_store_row 39 (.tmp 2) (.tmp 143) rfl (w.heap.size + 1) #[.int .i64 6, .int .i64 an, .int .i64 aq, .int .i64 0, .int .i64 0, .int .i64 pt, .int .i64 pr, .int .i64 0, .int .i64 0, .int .i64 0, .int .i64 0, .int .i64 0, .int .i64 0, flV 0] rfl rfl 39 #[.int .i64 0, .int .i64 0, .int .i64 0, .int .i64 0, .int .i64 0, .int .i64 0, .int .i64 0, .int .i64 0, .int .i64 0, .int .i64 0, .int .i64 0, .int .i64 0, .int .i64 0, flV 0] HR.out (by kernel_rfl) rfl (by simp [Value.oneCell', flV]) ?_
   obtain ⟨HF, hgr⟩ := row_end (cells := #[.int .i64 6, .int .i64 an, .int .i64 aq, .int .i64 0, .int .i64 0, .int .i64 pt, .int .i64 pr, .int .i64 0, .int .i64 0, .int .i64 0, .int .i64 0, .int .i64 0, .int .i64 0, flV 0]) HR.out
   have hK2 := HK.out.heap' hgr.size (hgr.block _ HK.out.lt (fun e => by injection e with e; omega))
   have hB2 := qq (HB.out.grown hgr HB.out.size (fun k hk => by injection hk with hk; omega))
   have hHeld := (hK2 : (fun w' : World => Blk w' w.heap.size #[.int .i64 6, an, aq, rg, nd, pt, pr, oc, dp, pa, st, hw, de, flV ex]) (w5.setRow (w.heap.size + 1) #[.int .i64 6, .int .i64 an, .int .i64 aq, .int .i64 0, .int .i64 0, .int .i64 pt, .int .i64 pr, .int .i64 0, .int .i64 0, .int .i64 0, .int .i64 0, .int .i64 0, .int .i64 0, flV 0]))
   refine hK _ _ ⟨hHeld, ?_⟩
   simp only [Act.put, puts]
   clear hK hK2
   obtain ⟨q1, f1⟩ := HF.out
   generalize w5.setRow (w.heap.size + 1) #[.int .i64 6, .int .i64 an, .int .i64 aq, .int .i64 0, .int .i64 0, .int .i64 pt, .int .i64 pr, .int .i64 0, .int .i64 0, .int .i64 0, .int .i64 0, .int .i64 0, .int .i64 0, flV 0] = w6 at *
   refine takeU (d := some 3) 23 rfl rfl hHeld (fun w' hS' => by have qS := hS'.cell; clear hS'; go_simp; (try rfl)) ?_
   simp only [puts]
   refine wpAnyH_done (by kernel_rfl) ?_ _
   clear hHeld
   go_wp2_with fail
   exact bodyPost_ret (v := .tuple #[.agg #[.int .i64 6, an, aq, .int .i64 0, .int .i64 0, pt, pr, .int .i64 0, .int .i64 0, .int .i64 0, .int .i64 0, .int .i64 0, .int .i64 0, flV 0], .bool (false)]) (by simp [results, Tryz.results187, go_sem, q1, f1]) rfl ⟨by simp, hB2.out⟩
theorem plain7_of (an aq rg nd pt pr oc dp pa st hw de : Int) (ex : Nat) (hx : F64 ex) (ea : Int → Addr) (w : World) (h : EnvS ea w) : Calls Tryz.prog 187 #[.agg #[.int .i64 7, an, aq, rg, nd, pt, pr, oc, dp, pa, st, hw, de, flV ex]] w (Makes (.tuple #[.agg #[.int .i64 7, .int .i64 0, .int .i64 0, rg, .int .i64 0, pt, .int .i64 0, .int .i64 0, .int .i64 0, .int .i64 0, .int .i64 0, .int .i64 0, .int .i64 0, flV 0], .bool (decide (0 ≤ pt ∧ pt ≤ 7) && decide (0 ≤ rg ∧ rg ≤ 5))]) w) := by
 have HB0 : Below w.heap.size w ((w.alloc (.cells #[.int .i64 7, an, aq, rg, nd, pt, pr, oc, dp, pa, st, hw, de, flV ex] 39)).alloc (.cells #[.int .i64 0, .int .i64 0, .int .i64 0, .int .i64 0, .int .i64 0, .int .i64 0, .int .i64 0, .int .i64 0, .int .i64 0, .int .i64 0, .int .i64 0, .int .i64 0, .int .i64 0, flV 0] 39)) := (((Below.refl _ _).alloc (Nat.le_refl _) _).alloc (by simp) _)
 have HE := qq (h.below HB0).drew'; have HB := qq HB0.drew
 have HK0 : Blk ((w.alloc (.cells #[.int .i64 7, an, aq, rg, nd, pt, pr, oc, dp, pa, st, hw, de, flV ex] 39)).alloc (.cells #[.int .i64 0, .int .i64 0, .int .i64 0, .int .i64 0, .int .i64 0, .int .i64 0, .int .i64 0, .int .i64 0, .int .i64 0, .int .i64 0, .int .i64 0, .int .i64 0, .int .i64 0, flV 0] 39)) w.heap.size #[.int .i64 7, .int .i64 an, .int .i64 aq, .int .i64 rg, .int .i64 nd, .int .i64 pt, .int .i64 pr, .int .i64 oc, .int .i64 dp, .int .i64 pa, .int .i64 st, .int .i64 hw, .int .i64 de, flV ex] := (Blk.fresh w #[.int .i64 7, an, aq, rg, nd, pt, pr, oc, dp, pa, st, hw, de, flV ex] 39 _ rfl).alloc (.cells #[.int .i64 0, .int .i64 0, .int .i64 0, .int .i64 0, .int .i64 0, .int .i64 0, .int .i64 0, .int .i64 0, .int .i64 0, .int .i64 0, .int .i64 0, .int .i64 0, .int .i64 0, flV 0] 39)
 have HK := qq HK0.drew
 have HR : Hid (((w.alloc (.cells #[.int .i64 7, an, aq, rg, nd, pt, pr, oc, dp, pa, st, hw, de, flV ex] 39)).alloc (.cells #[.int .i64 0, .int .i64 0, .int .i64 0, .int .i64 0, .int .i64 0, .int .i64 0, .int .i64 0, .int .i64 0, .int .i64 0, .int .i64 0, .int .i64 0, .int .i64 0, .int .i64 0, flV 0] 39)).drew.heap[w.heap.size + 1]? = some (.cells #[.int .i64 0, .int .i64 0, .int .i64 0, .int .i64 0, .int .i64 0, .int .i64 0, .int .i64 0, .int .i64 0, .int .i64 0, .int .i64 0, .int .i64 0, .int .i64 0, .int .i64 0, flV 0] 39 (0, 0))) := qq (show ((w.alloc (.cells #[.int .i64 7, an, aq, rg, nd, pt, pr, oc, dp, pa, st, hw, de, flV ex] 39)).alloc (.cells #[.int .i64 0, .int .i64 0, .int .i64 0, .int .i64 0, .int .i64 0, .int .i64 0, .int .i64 0, .int .i64 0, .int .i64 0, .int .i64 0, .int .i64 0, .int .i64 0, .int .i64 0, flV 0] 39)).heap[w.heap.size + 1]? = _ from by rw [show w.heap.size + 1 = (w.alloc (.cells #[.int .i64 7, an, aq, rg, nd, pt, pr, oc, dp, pa, st, hw, de, flV ex] 39)).heap.size by simp]; first | exact heap_alloc_new _ _ | exact (Below.heap_alloc _ _ _ (by simp)).trans (heap_alloc_new _ _))
 clear h HB0 HK0
 go_enter Tryz.func187, Tryz.ntmps187
 go_wp2_with fail
 refine wp_region_held_drew (S := fun w' => Blk w' w.heap.size #[.int .i64 7, an, aq, rg, nd, pt, pr, oc, dp, pa, st, hw, de, flV ex]) (by kernel_rfl) HK.out (fun hHeld => ?_)
 generalize ((w.alloc (.cells #[.int .i64 7, an, aq, rg, nd, pt, pr, oc, dp, pa, st, hw, de, flV ex] 39)).alloc (.cells #[.int .i64 0, .int .i64 0, .int .i64 0, .int .i64 0, .int .i64 0, .int .i64 0, .int .i64 0, .int .i64 0, .int .i64 0, .int .i64 0, .int .i64 0, .int .i64 0, .int .i64 0, flV 0] 39)).drew = w5 at *
 refine takeU (d := some 159) 0 rfl rfl hHeld (fun w' hS' => by have qS := hS'.cell; clear hS'; go_simp; (try rfl)) ?_
 simp only [puts]
 refine takeU (d := some 160) 1 rfl rfl hHeld (fun w' hS' => by have qS := hS'.cell; clear hS'; go_simp; (try rfl)) ?_
 simp only [puts]
 refine takeU (d := some 161) 2 rfl rfl hHeld (fun w' hS' => by have qS := hS'.cell; clear hS'; go_simp; (try rfl)) ?_
 simp only [puts]
 refine takeU (d := some 162) 3 rfl rfl hHeld (fun w' hS' => by have qS := hS'.cell; clear hS'; go_simp; (try rfl)) ?_
 simp only [puts]
 refine takeU (d := some 163) 4 rfl rfl hHeld (fun w' hS' => by have qS := hS'.cell; clear hS'; go_simp; (try rfl)) ?_
 simp only [puts]
 refine takeU (d := some 164) 5 rfl rfl hHeld (fun w' hS' => by have qS := hS'.cell; clear hS'; go_simp; (try rfl)) ?_
 simp only [puts]
 refine takeU (d := some 165) 6 rfl rfl hHeld (fun w' hS' => by have qS := hS'.cell; clear hS'; go_simp; (try rfl)) ?_
 simp only [puts]
 refine takeU (d := some 166) 7 rfl rfl hHeld (fun w' hS' => by have qS := hS'.cell; clear hS'; go_simp; (try rfl)) ?_
 simp only [puts]
 refine takeU (d := some 167) 8 rfl rfl hHeld (fun w' hS' => by have qS := hS'.cell; clear hS'; go_simp; (try rfl)) ?_
 simp only [puts]
 have hvA : ∃ b, b = (decide (0 ≤ pt ∧ pt ≤ 7)) := ⟨_, rfl⟩
 refine wpAnyH_call (d := some 168) 9 251 _ _ [.int .i64 pt] rfl rfl (by kernel_rfl) rfl (enters_of Tryz.func251 (by kernel_rfl) rfl) (by rfl) (by rfl) ?_
 refine (isPart_of pt _).mono ?_; rintro e w5 ⟨rfl, rfl⟩
 refine ⟨_, rfl, _, fun _ h => h, hHeld, fun hHeld => ?_⟩
 simp only [Act.put, puts]
 by_cases hcA : (decide (0 ≤ pt ∧ pt ≤ 7)) = true
 · rw [hcA]
   refine takeU (d := some 169) 10 rfl rfl hHeld (fun w' hS' => by have qS := hS'.cell; clear hS'; go_simp; (try rfl)) ?_
   simp only [puts]
   refine takeU (d := some 170) 11 rfl rfl hHeld (fun w' hS' => by have qS := hS'.cell; clear hS'; go_simp; (try rfl)) ?_
   simp only [puts]
   refine takeU (d := some 171) 12 rfl rfl hHeld (fun w' hS' => by have qS := hS'.cell; clear hS'; go_simp; (try rfl)) ?_
   simp only [puts]
   have hvB : ∃ b, b = (decide (0 ≤ rg ∧ rg ≤ 5)) := ⟨_, rfl⟩
   refine wpAnyH_call (d := some 172) 13 250 _ _ [.int .i64 rg] rfl rfl (by kernel_rfl) rfl (enters_of Tryz.func250 (by kernel_rfl) rfl) (by rfl) (by rfl) ?_
   refine (isReg_of rg _).mono ?_; rintro e w5 ⟨rfl, rfl⟩
   refine ⟨_, rfl, _, fun _ h => h, hHeld, fun hHeld => ?_⟩
   simp only [Act.put, puts]
   refine takeU (d := some 173) 14 rfl rfl hHeld (fun w' hS' => by have qS := hS'.cell; clear hS'; go_simp; (try rfl)) ?_
   simp only [puts]
   refine wpAnyH_all (rs := [15]) (by kernel_rfl) (by simp) (fun j hj => ?_)
   obtain rfl : j = 15 := by simpa using hj
   refine wpOp_step rfl (fun K' hK => ?_)
   rw [if_pos (by rfl)]
   refine wp_store_row 39 (.tmp 2) (.tmp 165) rfl (w.heap.size + 1) #[.int .i64 7, .int .i64 0, .int .i64 0, .int .i64 rg, .int .i64 0, .int .i64 pt, .int .i64 0, .int .i64 0, .int .i64 0, .int .i64 0, .int .i64 0, .int .i64 0, .int .i64 0, flV 0] rfl rfl 39 #[.int .i64 0, .int .i64 0, .int .i64 0, .int .i64 0, .int .i64 0, .int .i64 0, .int .i64 0, .int .i64 0, .int .i64 0, .int .i64 0, .int .i64 0, .int .i64 0, .int .i64 0, flV 0] HR.out (by kernel_rfl) rfl (by simp [Value.oneCell', flV]) ?_
   obtain ⟨HF, hgr⟩ := row_end (cells := #[.int .i64 7, .int .i64 0, .int .i64 0, .int .i64 rg, .int .i64 0, .int .i64 pt, .int .i64 0, .int .i64 0, .int .i64 0, .int .i64 0, .int .i64 0, .int .i64 0, .int .i64 0, flV 0]) HR.out
   have hK2 := HK.out.heap' hgr.size (hgr.block _ HK.out.lt (fun e => by injection e with e; omega))
   have hB2 := qq (HB.out.grown hgr HB.out.size (fun k hk => by injection hk with hk; omega))
   have hHeld := (hK2 : (fun w' : World => Blk w' w.heap.size #[.int .i64 7, an, aq, rg, nd, pt, pr, oc, dp, pa, st, hw, de, flV ex]) (w5.setRow (w.heap.size + 1) #[.int .i64 7, .int .i64 0, .int .i64 0, .int .i64 rg, .int .i64 0, .int .i64 pt, .int .i64 0, .int .i64 0, .int .i64 0, .int .i64 0, .int .i64 0, .int .i64 0, .int .i64 0, flV 0]))
   refine hK _ _ ⟨hHeld, ?_⟩
   simp only [Act.put, puts]
   clear hK hK2
   obtain ⟨q1, f1⟩ := HF.out
   generalize w5.setRow (w.heap.size + 1) #[.int .i64 7, .int .i64 0, .int .i64 0, .int .i64 rg, .int .i64 0, .int .i64 pt, .int .i64 0, .int .i64 0, .int .i64 0, .int .i64 0, .int .i64 0, .int .i64 0, .int .i64 0, flV 0] = w6 at *
   refine takeU (d := some 3) 16 rfl rfl hHeld (fun w' hS' => by have qS := hS'.cell; clear hS'; go_simp; (try rfl)) ?_
   simp only [puts]
   refine wpAnyH_done (by kernel_rfl) ?_ _
   clear hHeld
   go_wp2_with fail
   exact bodyPost_ret (v := .tuple #[.agg #[.int .i64 7, .int .i64 0, .int .i64 0, rg, .int .i64 0, pt, .int .i64 0, .int .i64 0, .int .i64 0, .int .i64 0, .int .i64 0, .int .i64 0, .int .i64 0, flV 0], .bool (decide (0 ≤ rg ∧ rg ≤ 5))]) (by simp [results, Tryz.results187, go_sem, q1, f1]) rfl ⟨by simp, hB2.out⟩
 · rw [Bool.not_eq_true] at hcA; rw [hcA]
   refine takeU (d := some 169) 10 rfl rfl hHeld (fun w' hS' => by have qS := hS'.cell; clear hS'; go_simp; (try rfl)) ?_
   simp only [puts]
   refine skipT (d := some 170) 11 hHeld ?_
   simp only [puts]
   refine skipT (d := some 171) 12 hHeld ?_
   simp only [puts]
   refine skipT (d := some 172) 13 hHeld ?_
   simp only [puts]
   refine takeU (d := some 173) 14 rfl rfl hHeld (fun w' hS' => by have qS := hS'.cell; clear hS'; go_simp; (try rfl)) ?_
   simp only [puts]
   refine wpAnyH_all (rs := [15]) (by kernel_rfl) (by simp) (fun j hj => ?_)
   obtain rfl : j = 15 := by simpa using hj
   refine wpOp_step rfl (fun K' hK => ?_)
   rw [if_pos (by rfl)]
   refine wp_store_row 39 (.tmp 2) (.tmp 165) rfl (w.heap.size + 1) #[.int .i64 7, .int .i64 0, .int .i64 0, .int .i64 rg, .int .i64 0, .int .i64 pt, .int .i64 0, .int .i64 0, .int .i64 0, .int .i64 0, .int .i64 0, .int .i64 0, .int .i64 0, flV 0] rfl rfl 39 #[.int .i64 0, .int .i64 0, .int .i64 0, .int .i64 0, .int .i64 0, .int .i64 0, .int .i64 0, .int .i64 0, .int .i64 0, .int .i64 0, .int .i64 0, .int .i64 0, .int .i64 0, flV 0] HR.out (by kernel_rfl) rfl (by simp [Value.oneCell', flV]) ?_
   obtain ⟨HF, hgr⟩ := row_end (cells := #[.int .i64 7, .int .i64 0, .int .i64 0, .int .i64 rg, .int .i64 0, .int .i64 pt, .int .i64 0, .int .i64 0, .int .i64 0, .int .i64 0, .int .i64 0, .int .i64 0, .int .i64 0, flV 0]) HR.out
   have hK2 := HK.out.heap' hgr.size (hgr.block _ HK.out.lt (fun e => by injection e with e; omega))
   have hB2 := qq (HB.out.grown hgr HB.out.size (fun k hk => by injection hk with hk; omega))
   have hHeld := (hK2 : (fun w' : World => Blk w' w.heap.size #[.int .i64 7, an, aq, rg, nd, pt, pr, oc, dp, pa, st, hw, de, flV ex]) (w5.setRow (w.heap.size + 1) #[.int .i64 7, .int .i64 0, .int .i64 0, .int .i64 rg, .int .i64 0, .int .i64 pt, .int .i64 0, .int .i64 0, .int .i64 0, .int .i64 0, .int .i64 0, .int .i64 0, .int .i64 0, flV 0]))
   refine hK _ _ ⟨hHeld, ?_⟩
   simp only [Act.put, puts]
   clear hK hK2
   obtain ⟨q1, f1⟩ := HF.out
   generalize w5.setRow (w.heap.size + 1) #[.int .i64 7, .int .i64 0, .int .i64 0, .int .i64 rg, .int .i64 0, .int .i64 pt, .int .i64 0, .int .i64 0, .int .i64 0, .int .i64 0, .int .i64 0, .int .i64 0, .int .i64 0, flV 0] = w6 at *
   refine takeU (d := some 3) 16 rfl rfl hHeld (fun w' hS' => by have qS := hS'.cell; clear hS'; go_simp; (try rfl)) ?_
   simp only [puts]
   refine wpAnyH_done (by kernel_rfl) ?_ _
   clear hHeld
   go_wp2_with fail
   exact bodyPost_ret (v := .tuple #[.agg #[.int .i64 7, .int .i64 0, .int .i64 0, rg, .int .i64 0, pt, .int .i64 0, .int .i64 0, .int .i64 0, .int .i64 0, .int .i64 0, .int .i64 0, .int .i64 0, flV 0], .bool (false)]) (by simp [results, Tryz.results187, go_sem, q1, f1]) rfl ⟨by simp, hB2.out⟩
theorem plain8_of (an aq rg nd pt pr oc dp pa st hw de : Int) (ex : Nat) (hx : F64 ex) (ea : Int → Addr) (w : World) (h : EnvS ea w) : Calls Tryz.prog 187 #[.agg #[.int .i64 8, an, aq, rg, nd, pt, pr, oc, dp, pa, st, hw, de, flV ex]] w (Makes (.tuple #[.agg #[.int .i64 8, .int .i64 0, .int .i64 0, .int .i64 0, .int .i64 0, pt, .int .i64 0, .int .i64 0, .int .i64 0, .int .i64 0, st, hw, .int .i64 0, flV 0], .bool (decide (0 ≤ pt ∧ pt ≤ 7) && stOk st hw)]) w) := by
 have HB0 : Below w.heap.size w ((w.alloc (.cells #[.int .i64 8, an, aq, rg, nd, pt, pr, oc, dp, pa, st, hw, de, flV ex] 39)).alloc (.cells #[.int .i64 0, .int .i64 0, .int .i64 0, .int .i64 0, .int .i64 0, .int .i64 0, .int .i64 0, .int .i64 0, .int .i64 0, .int .i64 0, .int .i64 0, .int .i64 0, .int .i64 0, flV 0] 39)) := (((Below.refl _ _).alloc (Nat.le_refl _) _).alloc (by simp) _)
 have HE := qq (h.below HB0).drew'; have HB := qq HB0.drew
 have HK0 : Blk ((w.alloc (.cells #[.int .i64 8, an, aq, rg, nd, pt, pr, oc, dp, pa, st, hw, de, flV ex] 39)).alloc (.cells #[.int .i64 0, .int .i64 0, .int .i64 0, .int .i64 0, .int .i64 0, .int .i64 0, .int .i64 0, .int .i64 0, .int .i64 0, .int .i64 0, .int .i64 0, .int .i64 0, .int .i64 0, flV 0] 39)) w.heap.size #[.int .i64 8, .int .i64 an, .int .i64 aq, .int .i64 rg, .int .i64 nd, .int .i64 pt, .int .i64 pr, .int .i64 oc, .int .i64 dp, .int .i64 pa, .int .i64 st, .int .i64 hw, .int .i64 de, flV ex] := (Blk.fresh w #[.int .i64 8, an, aq, rg, nd, pt, pr, oc, dp, pa, st, hw, de, flV ex] 39 _ rfl).alloc (.cells #[.int .i64 0, .int .i64 0, .int .i64 0, .int .i64 0, .int .i64 0, .int .i64 0, .int .i64 0, .int .i64 0, .int .i64 0, .int .i64 0, .int .i64 0, .int .i64 0, .int .i64 0, flV 0] 39)
 have HK := qq HK0.drew
 have HR : Hid (((w.alloc (.cells #[.int .i64 8, an, aq, rg, nd, pt, pr, oc, dp, pa, st, hw, de, flV ex] 39)).alloc (.cells #[.int .i64 0, .int .i64 0, .int .i64 0, .int .i64 0, .int .i64 0, .int .i64 0, .int .i64 0, .int .i64 0, .int .i64 0, .int .i64 0, .int .i64 0, .int .i64 0, .int .i64 0, flV 0] 39)).drew.heap[w.heap.size + 1]? = some (.cells #[.int .i64 0, .int .i64 0, .int .i64 0, .int .i64 0, .int .i64 0, .int .i64 0, .int .i64 0, .int .i64 0, .int .i64 0, .int .i64 0, .int .i64 0, .int .i64 0, .int .i64 0, flV 0] 39 (0, 0))) := qq (show ((w.alloc (.cells #[.int .i64 8, an, aq, rg, nd, pt, pr, oc, dp, pa, st, hw, de, flV ex] 39)).alloc (.cells #[.int .i64 0, .int .i64 0, .int .i64 0, .int .i64 0, .int .i64 0, .int .i64 0, .int .i64 0, .int .i64 0, .int .i64 0, .int .i64 0, .int .i64 0, .int .i64 0, .int .i64 0, flV 0] 39)).heap[w.heap.size + 1]? = _ from by rw [show w.heap.size + 1 = (w.alloc (.cells #[.int .i64 8, an, aq, rg, nd, pt, pr, oc, dp, pa, st, hw, de, flV ex] 39)).heap.size by simp]; first | exact heap_alloc_new _ _ | exact (Below.heap_alloc _ _ _ (by simp)).trans (heap_alloc_new _ _))
 clear h HB0 HK0
 go_enter Tryz.func187, Tryz.ntmps187
 go_wp2_with fail
 refine wp_region_held_drew (S := fun w' => Blk w' w.heap.size #[.int .i64 8, an, aq, rg, nd, pt, pr, oc, dp, pa, st, hw, de, flV ex]) (by kernel_rfl) HK.out (fun hHeld => ?_)
 generalize ((w.alloc (.cells #[.int .i64 8, an, aq, rg, nd, pt, pr, oc, dp, pa, st, hw, de, flV ex] 39)).alloc (.cells #[.int .i64 0, .int .i64 0, .int .i64 0, .int .i64 0, .int .i64 0, .int .i64 0, .int .i64 0, .int .i64 0, .int .i64 0, .int .i64 0, .int .i64 0, .int .i64 0, .int .i64 0, flV 0] 39)).drew = w5 at *
 refine takeU (d := some 176) 0 rfl rfl hHeld (fun w' hS' => by have qS := hS'.cell; clear hS'; go_simp; (try rfl)) ?_
 simp only [puts]
 refine takeU (d := some 177) 1 rfl rfl hHeld (fun w' hS' => by have qS := hS'.cell; clear hS'; go_simp; (try rfl)) ?_
 simp only [puts]
 refine takeU (d := some 178) 2 rfl rfl hHeld (fun w' hS' => by have qS := hS'.cell; clear hS'; go_simp; (try rfl)) ?_
 simp only [puts]
 refine takeU (d := some 179) 3 rfl rfl hHeld (fun w' hS' => by have qS := hS'.cell; clear hS'; go_simp; (try rfl)) ?_
 simp only [puts]
 refine takeU (d := some 180) 4 rfl rfl hHeld (fun w' hS' => by have qS := hS'.cell; clear hS'; go_simp; (try rfl)) ?_
 simp only [puts]
 refine takeU (d := some 181) 5 rfl rfl hHeld (fun w' hS' => by have qS := hS'.cell; clear hS'; go_simp; (try rfl)) ?_
 simp only [puts]
 refine takeU (d := some 182) 6 rfl rfl hHeld (fun w' hS' => by have qS := hS'.cell; clear hS'; go_simp; (try rfl)) ?_
 simp only [puts]
 refine takeU (d := some 183) 7 rfl rfl hHeld (fun w' hS' => by have qS := hS'.cell; clear hS'; go_simp; (try rfl)) ?_
 simp only [puts]
 refine takeU (d := some 184) 8 rfl rfl hHeld (fun w' hS' => by have qS := hS'.cell; clear hS'; go_simp; (try rfl)) ?_
 simp only [puts]
 refine takeU (d := some 185) 9 rfl rfl hHeld (fun w' hS' => by have qS := hS'.cell; clear hS'; go_simp; (try rfl)) ?_
 simp only [puts]
 refine takeU (d := some 186) 10 rfl rfl hHeld (fun w' hS' => by have qS := hS'.cell; clear hS'; go_simp; (try rfl)) ?_
 simp only [puts]
 have hvA : ∃ b, b = (decide (0 ≤ pt ∧ pt ≤ 7)) := ⟨_, rfl⟩
 refine wpAnyH_call (d := some 187) 11 251 _ _ [.int .i64 pt] rfl rfl (by kernel_rfl) rfl (enters_of Tryz.func251 (by kernel_rfl) rfl) (by rfl) (by rfl) ?_
 refine (isPart_of pt _).mono ?_; rintro e w5 ⟨rfl, rfl⟩
 refine ⟨_, rfl, _, fun _ h => h, hHeld, fun hHeld => ?_⟩
 simp only [Act.put, puts]
 by_cases hcA : (decide (0 ≤ pt ∧ pt ≤ 7)) = true
 · rw [hcA]
   refine takeU (d := some 188) 12 rfl rfl hHeld (fun w' hS' => by have qS := hS'.cell; clear hS'; go_simp; (try rfl)) ?_
   simp only [puts]
   refine takeU (d := some 189) 13 rfl rfl hHeld (fun w' hS' => by have qS := hS'.cell; clear hS'; go_simp; (try rfl)) ?_
   simp only [puts]
   refine takeU (d := some 190) 14 rfl rfl hHeld (fun w' hS' => by have qS := hS'.cell; clear hS'; go_simp; (try rfl)) ?_
   simp only [puts]
   refine takeU (d := some 191) 15 rfl rfl hHeld (fun w' hS' => by have qS := hS'.cell; clear hS'; go_simp; (try rfl)) ?_
   simp only [puts]
   refine takeU (d := some 192) 16 rfl rfl hHeld (fun w' hS' => by have qS := hS'.cell; clear hS'; go_simp; (try rfl)) ?_
   simp only [puts]
   have hvB : ∃ b, b = (stOk st hw) := ⟨_, rfl⟩
   refine wpAnyH_call (d := some 193) 17 252 _ _ [.int .i64 st, .int .i64 hw] rfl rfl (by kernel_rfl) rfl (enters_of Tryz.func252 (by kernel_rfl) rfl) (by rfl) (by rfl) ?_
   refine (isState_of st hw _).mono ?_; rintro e w5 ⟨rfl, rfl⟩
   refine ⟨_, rfl, _, fun _ h => h, hHeld, fun hHeld => ?_⟩
   simp only [Act.put, puts]
   refine takeU (d := some 194) 18 rfl rfl hHeld (fun w' hS' => by have qS := hS'.cell; clear hS'; go_simp; (try rfl)) ?_
   simp only [puts]
   refine wpAnyH_all (rs := [19]) (by kernel_rfl) (by simp) (fun j hj => ?_)
   obtain rfl : j = 19 := by simpa using hj
   refine wpOp_step rfl (fun K' hK => ?_)
   rw [if_pos (by rfl)]
   refine wp_store_row 39 (.tmp 2) (.tmp 184) rfl (w.heap.size + 1) #[.int .i64 8, .int .i64 0, .int .i64 0, .int .i64 0, .int .i64 0, .int .i64 pt, .int .i64 0, .int .i64 0, .int .i64 0, .int .i64 0, .int .i64 st, .int .i64 hw, .int .i64 0, flV 0] rfl rfl 39 #[.int .i64 0, .int .i64 0, .int .i64 0, .int .i64 0, .int .i64 0, .int .i64 0, .int .i64 0, .int .i64 0, .int .i64 0, .int .i64 0, .int .i64 0, .int .i64 0, .int .i64 0, flV 0] HR.out (by kernel_rfl) rfl (by simp [Value.oneCell', flV]) ?_
   obtain ⟨HF, hgr⟩ := row_end (cells := #[.int .i64 8, .int .i64 0, .int .i64 0, .int .i64 0, .int .i64 0, .int .i64 pt, .int .i64 0, .int .i64 0, .int .i64 0, .int .i64 0, .int .i64 st, .int .i64 hw, .int .i64 0, flV 0]) HR.out
   have hK2 := HK.out.heap' hgr.size (hgr.block _ HK.out.lt (fun e => by injection e with e; omega))
   have hB2 := qq (HB.out.grown hgr HB.out.size (fun k hk => by injection hk with hk; omega))
   have hHeld := (hK2 : (fun w' : World => Blk w' w.heap.size #[.int .i64 8, an, aq, rg, nd, pt, pr, oc, dp, pa, st, hw, de, flV ex]) (w5.setRow (w.heap.size + 1) #[.int .i64 8, .int .i64 0, .int .i64 0, .int .i64 0, .int .i64 0, .int .i64 pt, .int .i64 0, .int .i64 0, .int .i64 0, .int .i64 0, .int .i64 st, .int .i64 hw, .int .i64 0, flV 0]))
   refine hK _ _ ⟨hHeld, ?_⟩
   simp only [Act.put, puts]
   clear hK hK2
   obtain ⟨q1, f1⟩ := HF.out
   generalize w5.setRow (w.heap.size + 1) #[.int .i64 8, .int .i64 0, .int .i64 0, .int .i64 0, .int .i64 0, .int .i64 pt, .int .i64 0, .int .i64 0, .int .i64 0, .int .i64 0, .int .i64 st, .int .i64 hw, .int .i64 0, flV 0] = w6 at *
   refine takeU (d := some 3) 20 rfl rfl hHeld (fun w' hS' => by have qS := hS'.cell; clear hS'; go_simp; (try rfl)) ?_
   simp only [puts]
   refine wpAnyH_done (by kernel_rfl) ?_ _
   clear hHeld
   go_wp2_with fail
   exact bodyPost_ret (v := .tuple #[.agg #[.int .i64 8, .int .i64 0, .int .i64 0, .int .i64 0, .int .i64 0, pt, .int .i64 0, .int .i64 0, .int .i64 0, .int .i64 0, st, hw, .int .i64 0, flV 0], .bool (stOk st hw)]) (by simp [results, Tryz.results187, go_sem, q1, f1]) rfl ⟨by simp, hB2.out⟩
 · rw [Bool.not_eq_true] at hcA; rw [hcA]
   refine takeU (d := some 188) 12 rfl rfl hHeld (fun w' hS' => by have qS := hS'.cell; clear hS'; go_simp; (try rfl)) ?_
   simp only [puts]
   refine skipT (d := some 189) 13 hHeld ?_
   simp only [puts]
   refine skipT (d := some 190) 14 hHeld ?_
   simp only [puts]
   refine skipT (d := some 191) 15 hHeld ?_
   simp only [puts]
   refine skipT (d := some 192) 16 hHeld ?_
   simp only [puts]
   refine skipT (d := some 193) 17 hHeld ?_
   simp only [puts]
   refine takeU (d := some 194) 18 rfl rfl hHeld (fun w' hS' => by have qS := hS'.cell; clear hS'; go_simp; (try rfl)) ?_
   simp only [puts]
   refine wpAnyH_all (rs := [19]) (by kernel_rfl) (by simp) (fun j hj => ?_)
   obtain rfl : j = 19 := by simpa using hj
   refine wpOp_step rfl (fun K' hK => ?_)
   rw [if_pos (by rfl)]
   refine wp_store_row 39 (.tmp 2) (.tmp 184) rfl (w.heap.size + 1) #[.int .i64 8, .int .i64 0, .int .i64 0, .int .i64 0, .int .i64 0, .int .i64 pt, .int .i64 0, .int .i64 0, .int .i64 0, .int .i64 0, .int .i64 st, .int .i64 hw, .int .i64 0, flV 0] rfl rfl 39 #[.int .i64 0, .int .i64 0, .int .i64 0, .int .i64 0, .int .i64 0, .int .i64 0, .int .i64 0, .int .i64 0, .int .i64 0, .int .i64 0, .int .i64 0, .int .i64 0, .int .i64 0, flV 0] HR.out (by kernel_rfl) rfl (by simp [Value.oneCell', flV]) ?_
   obtain ⟨HF, hgr⟩ := row_end (cells := #[.int .i64 8, .int .i64 0, .int .i64 0, .int .i64 0, .int .i64 0, .int .i64 pt, .int .i64 0, .int .i64 0, .int .i64 0, .int .i64 0, .int .i64 st, .int .i64 hw, .int .i64 0, flV 0]) HR.out
   have hK2 := HK.out.heap' hgr.size (hgr.block _ HK.out.lt (fun e => by injection e with e; omega))
   have hB2 := qq (HB.out.grown hgr HB.out.size (fun k hk => by injection hk with hk; omega))
   have hHeld := (hK2 : (fun w' : World => Blk w' w.heap.size #[.int .i64 8, an, aq, rg, nd, pt, pr, oc, dp, pa, st, hw, de, flV ex]) (w5.setRow (w.heap.size + 1) #[.int .i64 8, .int .i64 0, .int .i64 0, .int .i64 0, .int .i64 0, .int .i64 pt, .int .i64 0, .int .i64 0, .int .i64 0, .int .i64 0, .int .i64 st, .int .i64 hw, .int .i64 0, flV 0]))
   refine hK _ _ ⟨hHeld, ?_⟩
   simp only [Act.put, puts]
   clear hK hK2
   obtain ⟨q1, f1⟩ := HF.out
   generalize w5.setRow (w.heap.size + 1) #[.int .i64 8, .int .i64 0, .int .i64 0, .int .i64 0, .int .i64 0, .int .i64 pt, .int .i64 0, .int .i64 0, .int .i64 0, .int .i64 0, .int .i64 st, .int .i64 hw, .int .i64 0, flV 0] = w6 at *
   refine takeU (d := some 3) 20 rfl rfl hHeld (fun w' hS' => by have qS := hS'.cell; clear hS'; go_simp; (try rfl)) ?_
   simp only [puts]
   refine wpAnyH_done (by kernel_rfl) ?_ _
   clear hHeld
   go_wp2_with fail
   exact bodyPost_ret (v := .tuple #[.agg #[.int .i64 8, .int .i64 0, .int .i64 0, .int .i64 0, .int .i64 0, pt, .int .i64 0, .int .i64 0, .int .i64 0, .int .i64 0, st, hw, .int .i64 0, flV 0], .bool (false)]) (by simp [results, Tryz.results187, go_sem, q1, f1]) rfl ⟨by simp, hB2.out⟩
end Go.Proofs.YtlkajejbfojkeaaGreatDoor
