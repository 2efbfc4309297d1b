/- RfcB, RfcC, Sort, TabM, TabN -/
import Derived.Test.YtlkajejbfojkeaaGreatDoorRows
import Derived.WalkKit
import Derived.WalkSpells
import Derived.WalkLawsBesides
import Derived.BigQuiet
import Derived.Deep.QuietTactic
import Derived.StillTailTactics
import Derived.Handy
import Derived.Lib.Hide
import Derived.Test.YtlkajejbfojkeaaGreatDoorSStoSToRfcA
import Derived.Test.YtlkajejbfojkeaaGreatDoorSStoBToFacE
import Derived.Test.YtlkajejbfojkeaaGreatDoorSToldBToStoN
import Derived.Test.YtlkajejbfojkeaaGreatDoorSPaCToFacI
import Derived.Test.YtlkajejbfojkeaaGreatDoorSTabPlainToMovB
import Derived.Test.YtlkajejbfojkeaaGreatDoorSFacDToStoC
set_option linter.unusedSimpArgs false
set_option linter.unusedVariables false
namespace Go.Proofs.YtlkajejbfojkeaaGreatDoor
open Go.RowKit Go.Shelf

theorem raw_bits (x : Nat) : ((x : Int) == (fplain x : Nat)) = decide (fplain x = x) := by
 by_cases h : fplain x = x
 · rw [h]; simp
 · rw [decide_eq_false h, beq_eq_false_iff_ne]; intro e; exact h (by omega)
set_option maxHeartbeats 4000000 in
theorem rright09_of (n q oc dp : Int) (ex : Nat) (hx : F64 ex) (w : World) : Calls Tryz.prog 136 #[.agg #[.int .i64 n, .int .i64 q, .int .i64 oc, .int .i64 dp, flV ex]] w (Makes (.bool (ctxOk n q oc dp ex)) w) := by
 have HI := Lib.hid (fun W => rright05_of n q W)
 have HD := Lib.hid (fun W => rdelay_of ex hx W); have HA := Lib.hid (fun W => raw_of ex W); have HT := Lib.hid (fun W => rbits_of ex hx W)
 have HK := Lib.hid (Blk.fresh w #[.int .i64 n, .int .i64 q, .int .i64 oc, .int .i64 dp, flV ex] 48 _ rfl).drew
 have HB := Lib.hid ((Below.refl w.heap.size w).alloc (Nat.le_refl _) (.cells #[.int .i64 n, .int .i64 q, .int .i64 oc, .int .i64 dp, flV ex] 48)).drew
 have hrb := raw_bits ex
 unfold ctxOk
 generalize decide (fplain ex = ex) = bp at *
 generalize fdelay ex = bd at *
 generalize idOk n q = bi at *
 clear hx
 cases bi with
 | false =>
   skip
   go_enter Tryz.func136, Tryz.ntmps136
   go_wp2_with fail
   refine wp_region_held_drew (S := fun w' => Blk w' w.heap.size #[.int .i64 n, .int .i64 q, .int .i64 oc, .int .i64 dp, flV ex]) (by kernel_rfl) HK.out (fun hHeld => ?_)
   refine takeT (v := ?_) (d := some 3) 0 hHeld ?_ ?_
   rotate_left 1
   · (intro w' hS'; have qS := hS'.cell; clear hS'; go_simp; (try with_reducible rfl))
   simp only [puts]
   refine takeT (v := ?_) (d := some 4) 1 hHeld ?_ ?_
   rotate_left 1
   · (intro w' hS'; have qS := hS'.cell; clear hS'; go_simp; (try with_reducible rfl))
   simp only [puts]
   refine wpAnyH_call (d := some 5) 2 197 _ _ [.agg #[.int .i64 n, .int .i64 q]] rfl rfl (by kernel_rfl) rfl (enters_of Tryz.func197 (by kernel_rfl) rfl) (by rfl) (by rfl) ?_
   refine (HI.out _).mono ?_; rintro e w5 ⟨rfl, hb1⟩
   have HB := Lib.hid (below_then HB.out hb1); have hHeld := hHeld.below hb1
   refine ⟨_, rfl, _, fun _ h => h, hHeld, fun hHeld => ?_⟩
   simp only [Act.put, puts]
   refine takeT (v := ?_) (d := some 6) 3 hHeld ?_ ?_
   rotate_left 1
   · (intro w' hS'; have qS := hS'.cell; clear hS'; go_simp; (try with_reducible rfl))
   simp only [puts]
   refine skipT (d := some 7) 4 hHeld ?_
   simp only [puts]
   refine skipT (d := some 8) 5 hHeld ?_
   simp only [puts]
   refine skipT (d := some 9) 6 hHeld ?_
   simp only [puts]
   refine skipT (d := some 10) 7 hHeld ?_
   simp only [puts]
   refine skipT (d := some 11) 8 hHeld ?_
   simp only [puts]
   refine skipT (d := some 12) 9 hHeld ?_
   simp only [puts]
   refine skipT (d := some 13) 10 hHeld ?_
   simp only [puts]
   refine skipT (d := some 14) 11 hHeld ?_
   simp only [puts]
   refine takeT (v := ?_) (d := some 15) 12 hHeld ?_ ?_
   rotate_left 1
   · (intro w' hS'; have qS := hS'.cell; clear hS'; go_simp; (try with_reducible rfl))
   simp only [puts]
   refine takeT (v := ?_) (d := some 16) 13 hHeld ?_ ?_
   rotate_left 1
   · (intro w' hS'; have qS := hS'.cell; clear hS'; go_simp; (try with_reducible rfl))
   simp only [puts]
   refine skipT (d := some 17) 14 hHeld ?_
   simp only [puts]
   refine skipT (d := some 18) 15 hHeld ?_
   simp only [puts]
   refine skipT (d := some 19) 16 hHeld ?_
   simp only [puts]
   refine takeT (v := ?_) (d := some 20) 17 hHeld ?_ ?_
   rotate_left 1
   · (intro w' hS'; have qS := hS'.cell; clear hS'; go_simp; (try with_reducible rfl))
   simp only [puts]
   refine takeT (v := ?_) (d := some 21) 18 hHeld ?_ ?_
   rotate_left 1
   · (intro w' hS'; have qS := hS'.cell; clear hS'; go_simp; (try with_reducible rfl))
   simp only [puts]
   refine skipT (d := some 22) 19 hHeld ?_
   simp only [puts]
   refine skipT (d := some 23) 20 hHeld ?_
   simp only [puts]
   refine skipT (d := some 24) 21 hHeld ?_
   simp only [puts]
   refine takeT (v := ?_) (d := some 25) 22 hHeld ?_ ?_
   rotate_left 1
   · (intro w' hS'; have qS := hS'.cell; clear hS'; go_simp; (try with_reducible rfl))
   simp only [puts]
   refine takeT (v := ?_) (d := some 26) 23 hHeld ?_ ?_
   rotate_left 1
   · (intro w' hS'; have qS := hS'.cell; clear hS'; go_simp; (try with_reducible rfl))
   simp only [puts]
   refine skipT (d := some 27) 24 hHeld ?_
   simp only [puts]
   refine skipT (d := some 28) 25 hHeld ?_
   simp only [puts]
   refine skipT (d := some 29) 26 hHeld ?_
   simp only [puts]
   refine takeT (v := ?_) (d := some 30) 27 hHeld ?_ ?_
   rotate_left 1
   · (intro w' hS'; have qS := hS'.cell; clear hS'; go_simp; (try with_reducible rfl))
   simp only [puts]
   refine takeT (v := ?_) (d := some 31) 28 hHeld ?_ ?_
   rotate_left 1
   · (intro w' hS'; have qS := hS'.cell; clear hS'; go_simp; (try with_reducible rfl))
   simp only [puts]
   refine skipT (d := some 32) 29 hHeld ?_
   simp only [puts]
   refine skipT (d := some 33) 30 hHeld ?_
   simp only [puts]
   refine skipT (d := some 34) 31 hHeld ?_
   simp only [puts]
   refine skipT (d := some 35) 32 hHeld ?_
   simp only [puts]
   refine skipT (d := some 36) 33 hHeld ?_
   simp only [puts]
   refine skipT (d := some 37) 34 hHeld ?_
   simp only [puts]
   refine skipT (d := some 38) 35 hHeld ?_
   simp only [puts]
   refine takeT (v := ?_) (d := some 39) 36 hHeld ?_ ?_
   rotate_left 1
   · (intro w' hS'; have qS := hS'.cell; clear hS'; go_simp; (try with_reducible rfl))
   simp only [puts]
   refine takeT (v := ?_) (d := some 2) 37 hHeld ?_ ?_
   rotate_left 1
   · (intro w' hS'; have qS := hS'.cell; clear hS'; go_simp; (try with_reducible rfl))
   simp only [puts]
   refine wpAnyH_done (by kernel_rfl) ?_ _
   go_wp2_with fail
   go_ret
   exact ⟨ret_bool (by simp [*] <;> omega), HB.out⟩
 | true =>
   by_cases h1 : oc = 1
   · have e1 : (oc == 1) = true := by simpa using h1
     rw [show decide ((oc = 1 ∨ oc = 2) ∧ 0 ≤ dp ∧ dp ≤ 3) = decide (0 ≤ dp ∧ dp ≤ 3) from decide_eq_decide.2 ⟨fun x => x.2, fun x => ⟨.inl h1, x⟩⟩]
     clear h1
     by_cases h3 : 0 ≤ dp
     · by_cases h4 : dp ≤ 3
       · cases bd with
         | false =>
           skip
           go_enter Tryz.func136, Tryz.ntmps136
           go_wp2_with fail
           refine wp_region_held_drew (S := fun w' => Blk w' w.heap.size #[.int .i64 n, .int .i64 q, .int .i64 oc, .int .i64 dp, flV ex]) (by kernel_rfl) HK.out (fun hHeld => ?_)
           refine takeT (v := ?_) (d := some 3) 0 hHeld ?_ ?_
           rotate_left 1
           · (intro w' hS'; have qS := hS'.cell; clear hS'; go_simp; (try with_reducible rfl))
           simp only [puts]
           refine takeT (v := ?_) (d := some 4) 1 hHeld ?_ ?_
           rotate_left 1
           · (intro w' hS'; have qS := hS'.cell; clear hS'; go_simp; (try with_reducible rfl))
           simp only [puts]
           refine wpAnyH_call (d := some 5) 2 197 _ _ [.agg #[.int .i64 n, .int .i64 q]] rfl rfl (by kernel_rfl) rfl (enters_of Tryz.func197 (by kernel_rfl) rfl) (by rfl) (by rfl) ?_
           refine (HI.out _).mono ?_; rintro e w5 ⟨rfl, hb1⟩
           have HB := Lib.hid (below_then HB.out hb1); have hHeld := hHeld.below hb1
           refine ⟨_, rfl, _, fun _ h => h, hHeld, fun hHeld => ?_⟩
           simp only [Act.put, puts]
           refine takeT (v := ?_) (d := some 6) 3 hHeld ?_ ?_
           rotate_left 1
           · (intro w' hS'; have qS := hS'.cell; clear hS'; go_simp; (try with_reducible rfl))
           simp only [puts]
           refine takeT (v := ?_) (d := some 7) 4 hHeld ?_ ?_
           rotate_left 1
           · (intro w' hS'; have qS := hS'.cell; clear hS'; go_simp; (try with_reducible rfl))
           simp only [puts]
           refine takeT (v := ?_) (d := some 8) 5 hHeld ?_ ?_
           rotate_left 1
           · (intro w' hS'; have qS := hS'.cell; clear hS'; go_simp; (try with_reducible rfl))
           simp only [puts]
           refine takeT (v := ?_) (d := some 9) 6 hHeld ?_ ?_
           rotate_left 1
           · (intro w' hS'; have qS := hS'.cell; clear hS'; go_simp; (try with_reducible rfl))
           simp only [puts]
           refine takeT (v := ?_) (d := some 10) 7 hHeld ?_ ?_
           rotate_left 1
           · (intro w' hS'; have qS := hS'.cell; clear hS'; go_simp; (try with_reducible rfl))
           simp only [puts]
           refine skipT (d := some 11) 8 hHeld ?_
           simp only [puts]
           refine skipT (d := some 12) 9 hHeld ?_
           simp only [puts]
           refine skipT (d := some 13) 10 hHeld ?_
           simp only [puts]
           refine takeT (v := ?_) (d := some 14) 11 hHeld ?_ ?_
           rotate_left 1
           · (intro w' hS'; have qS := hS'.cell; clear hS'; go_simp; (try with_reducible rfl))
           simp only [puts]
           refine takeT (v := ?_) (d := some 15) 12 hHeld ?_ ?_
           rotate_left 1
           · (intro w' hS'; have qS := hS'.cell; clear hS'; go_simp; (try with_reducible rfl))
           simp only [puts]
           refine takeT (v := ?_) (d := some 16) 13 hHeld ?_ ?_
           rotate_left 1
           · (intro w' hS'; have qS := hS'.cell; clear hS'; go_simp; (try with_reducible rfl))
           simp only [puts]
           refine takeT (v := ?_) (d := some 17) 14 hHeld ?_ ?_
           rotate_left 1
           · (intro w' hS'; have qS := hS'.cell; clear hS'; go_simp; (try with_reducible rfl))
           simp only [puts]
           refine takeT (v := ?_) (d := some 18) 15 hHeld ?_ ?_
           rotate_left 1
           · (intro w' hS'; have qS := hS'.cell; clear hS'; go_simp; (try with_reducible rfl))
           simp only [puts]
           refine takeT (v := ?_) (d := some 19) 16 hHeld ?_ ?_
           rotate_left 1
           · (intro w' hS'; have qS := hS'.cell; clear hS'; go_simp; (try with_reducible rfl))
           simp only [puts]
           refine takeT (v := ?_) (d := some 20) 17 hHeld ?_ ?_
           rotate_left 1
           · (intro w' hS'; have qS := hS'.cell; clear hS'; go_simp; (try with_reducible rfl))
           simp only [puts]
           refine takeT (v := ?_) (d := some 21) 18 hHeld ?_ ?_
           rotate_left 1
           · (intro w' hS'; have qS := hS'.cell; clear hS'; go_simp; (try with_reducible rfl))
           simp only [puts]
           refine takeT (v := ?_) (d := some 22) 19 hHeld ?_ ?_
           rotate_left 1
           · (intro w' hS'; have qS := hS'.cell; clear hS'; go_simp; (try with_reducible rfl))
           simp only [puts]
           refine takeT (v := ?_) (d := some 23) 20 hHeld ?_ ?_
           rotate_left 1
           · (intro w' hS'; have qS := hS'.cell; clear hS'; go_simp; (try with_reducible rfl))
           simp only [puts]
           refine takeT (v := ?_) (d := some 24) 21 hHeld ?_ ?_
           rotate_left 1
           · (intro w' hS'; have qS := hS'.cell; clear hS'; go_simp; (try with_reducible rfl))
           simp only [puts]
           refine takeT (v := ?_) (d := some 25) 22 hHeld ?_ ?_
           rotate_left 1
           · (intro w' hS'; have qS := hS'.cell; clear hS'; go_simp; (try with_reducible rfl))
           simp only [puts]
           refine takeT (v := ?_) (d := some 26) 23 hHeld ?_ ?_
           rotate_left 1
           · (intro w' hS'; have qS := hS'.cell; clear hS'; go_simp; (try with_reducible rfl))
           simp only [puts]
           refine takeT (v := ?_) (d := some 27) 24 hHeld ?_ ?_
           rotate_left 1
           · (intro w' hS'; have qS := hS'.cell; clear hS'; go_simp; (try with_reducible rfl))
           simp only [puts]
           refine takeT (v := ?_) (d := some 28) 25 hHeld ?_ ?_
           rotate_left 1
           · (intro w' hS'; have qS := hS'.cell; clear hS'; go_simp; (try with_reducible rfl))
           simp only [puts]
           refine wpAnyH_call (d := some 29) 26 223 _ _ [flV ex] rfl rfl (by kernel_rfl) rfl (enters_of Tryz.func223 (by kernel_rfl) rfl) (by rfl) (by rfl) ?_
           refine (HD.out _).mono ?_; rintro e w5 ⟨rfl, rfl⟩
           refine ⟨_, rfl, _, fun _ h => h, hHeld, fun hHeld => ?_⟩
           simp only [Act.put, puts]
           refine takeT (v := ?_) (d := some 30) 27 hHeld ?_ ?_
           rotate_left 1
           · (intro w' hS'; have qS := hS'.cell; clear hS'; go_simp; (try with_reducible rfl))
           simp only [puts]
           refine takeT (v := ?_) (d := some 31) 28 hHeld ?_ ?_
           rotate_left 1
           · (intro w' hS'; have qS := hS'.cell; clear hS'; go_simp; (try with_reducible rfl))
           simp only [puts]
           refine skipT (d := some 32) 29 hHeld ?_
           simp only [puts]
           refine skipT (d := some 33) 30 hHeld ?_
           simp only [puts]
           refine skipT (d := some 34) 31 hHeld ?_
           simp only [puts]
           refine skipT (d := some 35) 32 hHeld ?_
           simp only [puts]
           refine skipT (d := some 36) 33 hHeld ?_
           simp only [puts]
           refine skipT (d := some 37) 34 hHeld ?_
           simp only [puts]
           refine skipT (d := some 38) 35 hHeld ?_
           simp only [puts]
           refine takeT (v := ?_) (d := some 39) 36 hHeld ?_ ?_
           rotate_left 1
           · (intro w' hS'; have qS := hS'.cell; clear hS'; go_simp; (try with_reducible rfl))
           simp only [puts]
           refine takeT (v := ?_) (d := some 2) 37 hHeld ?_ ?_
           rotate_left 1
           · (intro w' hS'; have qS := hS'.cell; clear hS'; go_simp; (try with_reducible rfl))
           simp only [puts]
           refine wpAnyH_done (by kernel_rfl) ?_ _
           go_wp2_with fail
           go_ret
           exact ⟨ret_bool (by simp [*] <;> omega), HB.out⟩
         | true =>
           skip
           go_enter Tryz.func136, Tryz.ntmps136
           go_wp2_with fail
           refine wp_region_held_drew (S := fun w' => Blk w' w.heap.size #[.int .i64 n, .int .i64 q, .int .i64 oc, .int .i64 dp, flV ex]) (by kernel_rfl) HK.out (fun hHeld => ?_)
           refine takeT (v := ?_) (d := some 3) 0 hHeld ?_ ?_
           rotate_left 1
           · (intro w' hS'; have qS := hS'.cell; clear hS'; go_simp; (try with_reducible rfl))
           simp only [puts]
           refine takeT (v := ?_) (d := some 4) 1 hHeld ?_ ?_
           rotate_left 1
           · (intro w' hS'; have qS := hS'.cell; clear hS'; go_simp; (try with_reducible rfl))
           simp only [puts]
           refine wpAnyH_call (d := some 5) 2 197 _ _ [.agg #[.int .i64 n, .int .i64 q]] rfl rfl (by kernel_rfl) rfl (enters_of Tryz.func197 (by kernel_rfl) rfl) (by rfl) (by rfl) ?_
           refine (HI.out _).mono ?_; rintro e w5 ⟨rfl, hb1⟩
           have HB := Lib.hid (below_then HB.out hb1); have hHeld := hHeld.below hb1
           refine ⟨_, rfl, _, fun _ h => h, hHeld, fun hHeld => ?_⟩
           simp only [Act.put, puts]
           refine takeT (v := ?_) (d := some 6) 3 hHeld ?_ ?_
           rotate_left 1
           · (intro w' hS'; have qS := hS'.cell; clear hS'; go_simp; (try with_reducible rfl))
           simp only [puts]
           refine takeT (v := ?_) (d := some 7) 4 hHeld ?_ ?_
           rotate_left 1
           · (intro w' hS'; have qS := hS'.cell; clear hS'; go_simp; (try with_reducible rfl))
           simp only [puts]
           refine takeT (v := ?_) (d := some 8) 5 hHeld ?_ ?_
           rotate_left 1
           · (intro w' hS'; have qS := hS'.cell; clear hS'; go_simp; (try with_reducible rfl))
           simp only [puts]
           refine takeT (v := ?_) (d := some 9) 6 hHeld ?_ ?_
           rotate_left 1
           · (intro w' hS'; have qS := hS'.cell; clear hS'; go_simp; (try with_reducible rfl))
           simp only [puts]
           refine takeT (v := ?_) (d := some 10) 7 hHeld ?_ ?_
           rotate_left 1
           · (intro w' hS'; have qS := hS'.cell; clear hS'; go_simp; (try with_reducible rfl))
           simp only [puts]
           refine skipT (d := some 11) 8 hHeld ?_
           simp only [puts]
           refine skipT (d := some 12) 9 hHeld ?_
           simp only [puts]
           refine skipT (d := some 13) 10 hHeld ?_
           simp only [puts]
           refine takeT (v := ?_) (d := some 14) 11 hHeld ?_ ?_
           rotate_left 1
           · (intro w' hS'; have qS := hS'.cell; clear hS'; go_simp; (try with_reducible rfl))
           simp only [puts]
           refine takeT (v := ?_) (d := some 15) 12 hHeld ?_ ?_
           rotate_left 1
           · (intro w' hS'; have qS := hS'.cell; clear hS'; go_simp; (try with_reducible rfl))
           simp only [puts]
           refine takeT (v := ?_) (d := some 16) 13 hHeld ?_ ?_
           rotate_left 1
           · (intro w' hS'; have qS := hS'.cell; clear hS'; go_simp; (try with_reducible rfl))
           simp only [puts]
           refine takeT (v := ?_) (d := some 17) 14 hHeld ?_ ?_
           rotate_left 1
           · (intro w' hS'; have qS := hS'.cell; clear hS'; go_simp; (try with_reducible rfl))
           simp only [puts]
           refine takeT (v := ?_) (d := some 18) 15 hHeld ?_ ?_
           rotate_left 1
           · (intro w' hS'; have qS := hS'.cell; clear hS'; go_simp; (try with_reducible rfl))
           simp only [puts]
           refine takeT (v := ?_) (d := some 19) 16 hHeld ?_ ?_
           rotate_left 1
           · (intro w' hS'; have qS := hS'.cell; clear hS'; go_simp; (try with_reducible rfl))
           simp only [puts]
           refine takeT (v := ?_) (d := some 20) 17 hHeld ?_ ?_
           rotate_left 1
           · (intro w' hS'; have qS := hS'.cell; clear hS'; go_simp; (try with_reducible rfl))
           simp only [puts]
           refine takeT (v := ?_) (d := some 21) 18 hHeld ?_ ?_
           rotate_left 1
           · (intro w' hS'; have qS := hS'.cell; clear hS'; go_simp; (try with_reducible rfl))
           simp only [puts]
           refine takeT (v := ?_) (d := some 22) 19 hHeld ?_ ?_
           rotate_left 1
           · (intro w' hS'; have qS := hS'.cell; clear hS'; go_simp; (try with_reducible rfl))
           simp only [puts]
           refine takeT (v := ?_) (d := some 23) 20 hHeld ?_ ?_
           rotate_left 1
           · (intro w' hS'; have qS := hS'.cell; clear hS'; go_simp; (try with_reducible rfl))
           simp only [puts]
           refine takeT (v := ?_) (d := some 24) 21 hHeld ?_ ?_
           rotate_left 1
           · (intro w' hS'; have qS := hS'.cell; clear hS'; go_simp; (try with_reducible rfl))
           simp only [puts]
           refine takeT (v := ?_) (d := some 25) 22 hHeld ?_ ?_
           rotate_left 1
           · (intro w' hS'; have qS := hS'.cell; clear hS'; go_simp; (try with_reducible rfl))
           simp only [puts]
           refine takeT (v := ?_) (d := some 26) 23 hHeld ?_ ?_
           rotate_left 1
           · (intro w' hS'; have qS := hS'.cell; clear hS'; go_simp; (try with_reducible rfl))
           simp only [puts]
           refine takeT (v := ?_) (d := some 27) 24 hHeld ?_ ?_
           rotate_left 1
           · (intro w' hS'; have qS := hS'.cell; clear hS'; go_simp; (try with_reducible rfl))
           simp only [puts]
           refine takeT (v := ?_) (d := some 28) 25 hHeld ?_ ?_
           rotate_left 1
           · (intro w' hS'; have qS := hS'.cell; clear hS'; go_simp; (try with_reducible rfl))
           simp only [puts]
           refine wpAnyH_call (d := some 29) 26 223 _ _ [flV ex] rfl rfl (by kernel_rfl) rfl (enters_of Tryz.func223 (by kernel_rfl) rfl) (by rfl) (by rfl) ?_
           refine (HD.out _).mono ?_; rintro e w5 ⟨rfl, rfl⟩
           refine ⟨_, rfl, _, fun _ h => h, hHeld, fun hHeld => ?_⟩
           simp only [Act.put, puts]
           refine takeT (v := ?_) (d := some 30) 27 hHeld ?_ ?_
           rotate_left 1
           · (intro w' hS'; have qS := hS'.cell; clear hS'; go_simp; (try with_reducible rfl))
           simp only [puts]
           refine takeT (v := ?_) (d := some 31) 28 hHeld ?_ ?_
           rotate_left 1
           · (intro w' hS'; have qS := hS'.cell; clear hS'; go_simp; (try with_reducible rfl))
           simp only [puts]
           refine takeT (v := ?_) (d := some 32) 29 hHeld ?_ ?_
           rotate_left 1
           · (intro w' hS'; have qS := hS'.cell; clear hS'; go_simp; (try with_reducible rfl))
           simp only [puts]
           refine takeT (v := ?_) (d := some 33) 30 hHeld ?_ ?_
           rotate_left 1
           · (intro w' hS'; have qS := hS'.cell; clear hS'; go_simp; (try with_reducible rfl))
           simp only [puts]
           refine takeT (v := ?_) (d := some 35) 32 hHeld ?_ ?_
           rotate_left 1
           · (intro w' hS'; have qS := hS'.cell; clear hS'; go_simp; (try with_reducible rfl))
           simp only [puts]
           refine takeT (v := ?_) (d := some 36) 33 hHeld ?_ ?_
           rotate_left 1
           · (intro w' hS'; have qS := hS'.cell; clear hS'; go_simp; (try with_reducible rfl))
           simp only [puts]
           refine wpAnyH_call (d := some 34) 31 200 _ _ [flV ex] rfl rfl (by kernel_rfl) rfl (enters_of Tryz.func200 (by kernel_rfl) rfl) (by rfl) (by rfl) ?_
           refine (HA.out _).mono ?_; rintro e w5 ⟨rfl, rfl⟩
           refine ⟨_, rfl, _, fun _ h => h, hHeld, fun hHeld => ?_⟩
           simp only [Act.put, puts]
           refine wpAnyH_call (d := some 37) 34 120 _ _ [flV ex] rfl rfl (by kernel_rfl) rfl (enters_of Tryz.func120 (by kernel_rfl) rfl) (by rfl) (by rfl) ?_
           refine (HT.out _).mono ?_; rintro e w5 ⟨rfl, rfl⟩
           refine ⟨_, rfl, _, fun _ h => h, hHeld, fun hHeld => ?_⟩
           simp only [Act.put, puts]
           refine takeT (v := ?_) (d := some 38) 35 hHeld ?_ ?_
           rotate_left 1
           · (intro w' hS'; have qS := hS'.cell; clear hS'; go_simp; (try with_reducible rfl))
           simp only [puts]
           refine takeT (v := ?_) (d := some 39) 36 hHeld ?_ ?_
           rotate_left 1
           · (intro w' hS'; have qS := hS'.cell; clear hS'; go_simp; (try with_reducible rfl))
           simp only [puts]
           refine takeT (v := ?_) (d := some 2) 37 hHeld ?_ ?_
           rotate_left 1
           · (intro w' hS'; have qS := hS'.cell; clear hS'; go_simp; (try with_reducible rfl))
           simp only [puts]
           refine wpAnyH_done (by kernel_rfl) ?_ _
           go_wp2_with fail
           go_ret
           exact ⟨ret_bool (by simp [*] <;> omega), HB.out⟩
       · have e4 : decide (dp ≤ 3) = false := decide_eq_false h4
         skip
         go_enter Tryz.func136, Tryz.ntmps136
         go_wp2_with fail
         refine wp_region_held_drew (S := fun w' => Blk w' w.heap.size #[.int .i64 n, .int .i64 q, .int .i64 oc, .int .i64 dp, flV ex]) (by kernel_rfl) HK.out (fun hHeld => ?_)
         refine takeT (v := ?_) (d := some 3) 0 hHeld ?_ ?_
         rotate_left 1
         · (intro w' hS'; have qS := hS'.cell; clear hS'; go_simp; (try with_reducible rfl))
         simp only [puts]
         refine takeT (v := ?_) (d := some 4) 1 hHeld ?_ ?_
         rotate_left 1
         · (intro w' hS'; have qS := hS'.cell; clear hS'; go_simp; (try with_reducible rfl))
         simp only [puts]
         refine wpAnyH_call (d := some 5) 2 197 _ _ [.agg #[.int .i64 n, .int .i64 q]] rfl rfl (by kernel_rfl) rfl (enters_of Tryz.func197 (by kernel_rfl) rfl) (by rfl) (by rfl) ?_
         refine (HI.out _).mono ?_; rintro e w5 ⟨rfl, hb1⟩
         have HB := Lib.hid (below_then HB.out hb1); have hHeld := hHeld.below hb1
         refine ⟨_, rfl, _, fun _ h => h, hHeld, fun hHeld => ?_⟩
         simp only [Act.put, puts]
         refine takeT (v := ?_) (d := some 6) 3 hHeld ?_ ?_
         rotate_left 1
         · (intro w' hS'; have qS := hS'.cell; clear hS'; go_simp; (try with_reducible rfl))
         simp only [puts]
         refine takeT (v := ?_) (d := some 7) 4 hHeld ?_ ?_
         rotate_left 1
         · (intro w' hS'; have qS := hS'.cell; clear hS'; go_simp; (try with_reducible rfl))
         simp only [puts]
         refine takeT (v := ?_) (d := some 8) 5 hHeld ?_ ?_
         rotate_left 1
         · (intro w' hS'; have qS := hS'.cell; clear hS'; go_simp; (try with_reducible rfl))
         simp only [puts]
         refine takeT (v := ?_) (d := some 9) 6 hHeld ?_ ?_
         rotate_left 1
         · (intro w' hS'; have qS := hS'.cell; clear hS'; go_simp; (try with_reducible rfl))
         simp only [puts]
         refine takeT (v := ?_) (d := some 10) 7 hHeld ?_ ?_
         rotate_left 1
         · (intro w' hS'; have qS := hS'.cell; clear hS'; go_simp; (try with_reducible rfl))
         simp only [puts]
         refine skipT (d := some 11) 8 hHeld ?_
         simp only [puts]
         refine skipT (d := some 12) 9 hHeld ?_
         simp only [puts]
         refine skipT (d := some 13) 10 hHeld ?_
         simp only [puts]
         refine takeT (v := ?_) (d := some 14) 11 hHeld ?_ ?_
         rotate_left 1
         · (intro w' hS'; have qS := hS'.cell; clear hS'; go_simp; (try with_reducible rfl))
         simp only [puts]
         refine takeT (v := ?_) (d := some 15) 12 hHeld ?_ ?_
         rotate_left 1
         · (intro w' hS'; have qS := hS'.cell; clear hS'; go_simp; (try with_reducible rfl))
         simp only [puts]
         refine takeT (v := ?_) (d := some 16) 13 hHeld ?_ ?_
         rotate_left 1
         · (intro w' hS'; have qS := hS'.cell; clear hS'; go_simp; (try with_reducible rfl))
         simp only [puts]
         refine takeT (v := ?_) (d := some 17) 14 hHeld ?_ ?_
         rotate_left 1
         · (intro w' hS'; have qS := hS'.cell; clear hS'; go_simp; (try with_reducible rfl))
         simp only [puts]
         refine takeT (v := ?_) (d := some 18) 15 hHeld ?_ ?_
         rotate_left 1
         · (intro w' hS'; have qS := hS'.cell; clear hS'; go_simp; (try with_reducible rfl))
         simp only [puts]
         refine takeT (v := ?_) (d := some 19) 16 hHeld ?_ ?_
         rotate_left 1
         · (intro w' hS'; have qS := hS'.cell; clear hS'; go_simp; (try with_reducible rfl))
         simp only [puts]
         refine takeT (v := ?_) (d := some 20) 17 hHeld ?_ ?_
         rotate_left 1
         · (intro w' hS'; have qS := hS'.cell; clear hS'; go_simp; (try with_reducible rfl))
         simp only [puts]
         refine takeT (v := ?_) (d := some 21) 18 hHeld ?_ ?_
         rotate_left 1
         · (intro w' hS'; have qS := hS'.cell; clear hS'; go_simp; (try with_reducible rfl))
         simp only [puts]
         refine takeT (v := ?_) (d := some 22) 19 hHeld ?_ ?_
         rotate_left 1
         · (intro w' hS'; have qS := hS'.cell; clear hS'; go_simp; (try with_reducible rfl))
         simp only [puts]
         refine takeT (v := ?_) (d := some 23) 20 hHeld ?_ ?_
         rotate_left 1
         · (intro w' hS'; have qS := hS'.cell; clear hS'; go_simp; (try with_reducible rfl))
         simp only [puts]
         refine takeT (v := ?_) (d := some 24) 21 hHeld ?_ ?_
         rotate_left 1
         · (intro w' hS'; have qS := hS'.cell; clear hS'; go_simp; (try with_reducible rfl))
         simp only [puts]
         refine takeT (v := ?_) (d := some 25) 22 hHeld ?_ ?_
         rotate_left 1
         · (intro w' hS'; have qS := hS'.cell; clear hS'; go_simp; (try with_reducible rfl))
         simp only [puts]
         refine takeT (v := ?_) (d := some 26) 23 hHeld ?_ ?_
         rotate_left 1
         · (intro w' hS'; have qS := hS'.cell; clear hS'; go_simp; (try with_reducible rfl))
         simp only [puts]
         refine skipT (d := some 27) 24 hHeld ?_
         simp only [puts]
         refine skipT (d := some 28) 25 hHeld ?_
         simp only [puts]
         refine skipT (d := some 29) 26 hHeld ?_
         simp only [puts]
         refine takeT (v := ?_) (d := some 30) 27 hHeld ?_ ?_
         rotate_left 1
         · (intro w' hS'; have qS := hS'.cell; clear hS'; go_simp; (try with_reducible rfl))
         simp only [puts]
         refine takeT (v := ?_) (d := some 31) 28 hHeld ?_ ?_
         rotate_left 1
         · (intro w' hS'; have qS := hS'.cell; clear hS'; go_simp; (try with_reducible rfl))
         simp only [puts]
         refine skipT (d := some 32) 29 hHeld ?_
         simp only [puts]
         refine skipT (d := some 33) 30 hHeld ?_
         simp only [puts]
         refine skipT (d := some 34) 31 hHeld ?_
         simp only [puts]
         refine skipT (d := some 35) 32 hHeld ?_
         simp only [puts]
         refine skipT (d := some 36) 33 hHeld ?_
         simp only [puts]
         refine skipT (d := some 37) 34 hHeld ?_
         simp only [puts]
         refine skipT (d := some 38) 35 hHeld ?_
         simp only [puts]
         refine takeT (v := ?_) (d := some 39) 36 hHeld ?_ ?_
         rotate_left 1
         · (intro w' hS'; have qS := hS'.cell; clear hS'; go_simp; (try with_reducible rfl))
         simp only [puts]
         refine takeT (v := ?_) (d := some 2) 37 hHeld ?_ ?_
         rotate_left 1
         · (intro w' hS'; have qS := hS'.cell; clear hS'; go_simp; (try with_reducible rfl))
         simp only [puts]
         refine wpAnyH_done (by kernel_rfl) ?_ _
         go_wp2_with fail
         go_ret
         exact ⟨ret_bool (by simp [*] <;> omega), HB.out⟩
     · have e3 : decide (0 ≤ dp) = false := decide_eq_false h3
       skip
       go_enter Tryz.func136, Tryz.ntmps136
       go_wp2_with fail
       refine wp_region_held_drew (S := fun w' => Blk w' w.heap.size #[.int .i64 n, .int .i64 q, .int .i64 oc, .int .i64 dp, flV ex]) (by kernel_rfl) HK.out (fun hHeld => ?_)
       refine takeT (v := ?_) (d := some 3) 0 hHeld ?_ ?_
       rotate_left 1
       · (intro w' hS'; have qS := hS'.cell; clear hS'; go_simp; (try with_reducible rfl))
       simp only [puts]
       refine takeT (v := ?_) (d := some 4) 1 hHeld ?_ ?_
       rotate_left 1
       · (intro w' hS'; have qS := hS'.cell; clear hS'; go_simp; (try with_reducible rfl))
       simp only [puts]
       refine wpAnyH_call (d := some 5) 2 197 _ _ [.agg #[.int .i64 n, .int .i64 q]] rfl rfl (by kernel_rfl) rfl (enters_of Tryz.func197 (by kernel_rfl) rfl) (by rfl) (by rfl) ?_
       refine (HI.out _).mono ?_; rintro e w5 ⟨rfl, hb1⟩
       have HB := Lib.hid (below_then HB.out hb1); have hHeld := hHeld.below hb1
       refine ⟨_, rfl, _, fun _ h => h, hHeld, fun hHeld => ?_⟩
       simp only [Act.put, puts]
       refine takeT (v := ?_) (d := some 6) 3 hHeld ?_ ?_
       rotate_left 1
       · (intro w' hS'; have qS := hS'.cell; clear hS'; go_simp; (try with_reducible rfl))
       simp only [puts]
       refine takeT (v := ?_) (d := some 7) 4 hHeld ?_ ?_
       rotate_left 1
       · (intro w' hS'; have qS := hS'.cell; clear hS'; go_simp; (try with_reducible rfl))
       simp only [puts]
       refine takeT (v := ?_) (d := some 8) 5 hHeld ?_ ?_
       rotate_left 1
       · (intro w' hS'; have qS := hS'.cell; clear hS'; go_simp; (try with_reducible rfl))
       simp only [puts]
       refine takeT (v := ?_) (d := some 9) 6 hHeld ?_ ?_
       rotate_left 1
       · (intro w' hS'; have qS := hS'.cell; clear hS'; go_simp; (try with_reducible rfl))
       simp only [puts]
       refine takeT (v := ?_) (d := some 10) 7 hHeld ?_ ?_
       rotate_left 1
       · (intro w' hS'; have qS := hS'.cell; clear hS'; go_simp; (try with_reducible rfl))
       simp only [puts]
       refine skipT (d := some 11) 8 hHeld ?_
       simp only [puts]
       refine skipT (d := some 12) 9 hHeld ?_
       simp only [puts]
       refine skipT (d := some 13) 10 hHeld ?_
       simp only [puts]
       refine takeT (v := ?_) (d := some 14) 11 hHeld ?_ ?_
       rotate_left 1
       · (intro w' hS'; have qS := hS'.cell; clear hS'; go_simp; (try with_reducible rfl))
       simp only [puts]
       refine takeT (v := ?_) (d := some 15) 12 hHeld ?_ ?_
       rotate_left 1
       · (intro w' hS'; have qS := hS'.cell; clear hS'; go_simp; (try with_reducible rfl))
       simp only [puts]
       refine takeT (v := ?_) (d := some 16) 13 hHeld ?_ ?_
       rotate_left 1
       · (intro w' hS'; have qS := hS'.cell; clear hS'; go_simp; (try with_reducible rfl))
       simp only [puts]
       refine takeT (v := ?_) (d := some 17) 14 hHeld ?_ ?_
       rotate_left 1
       · (intro w' hS'; have qS := hS'.cell; clear hS'; go_simp; (try with_reducible rfl))
       simp only [puts]
       refine takeT (v := ?_) (d := some 18) 15 hHeld ?_ ?_
       rotate_left 1
       · (intro w' hS'; have qS := hS'.cell; clear hS'; go_simp; (try with_reducible rfl))
       simp only [puts]
       refine takeT (v := ?_) (d := some 19) 16 hHeld ?_ ?_
       rotate_left 1
       · (intro w' hS'; have qS := hS'.cell; clear hS'; go_simp; (try with_reducible rfl))
       simp only [puts]
       refine takeT (v := ?_) (d := some 20) 17 hHeld ?_ ?_
       rotate_left 1
       · (intro w' hS'; have qS := hS'.cell; clear hS'; go_simp; (try with_reducible rfl))
       simp only [puts]
       refine takeT (v := ?_) (d := some 21) 18 hHeld ?_ ?_
       rotate_left 1
       · (intro w' hS'; have qS := hS'.cell; clear hS'; go_simp; (try with_reducible rfl))
       simp only [puts]
       refine skipT (d := some 22) 19 hHeld ?_
       simp only [puts]
       refine skipT (d := some 23) 20 hHeld ?_
       simp only [puts]
       refine skipT (d := some 24) 21 hHeld ?_
       simp only [puts]
       refine takeT (v := ?_) (d := some 25) 22 hHeld ?_ ?_
       rotate_left 1
       · (intro w' hS'; have qS := hS'.cell; clear hS'; go_simp; (try with_reducible rfl))
       simp only [puts]
       refine takeT (v := ?_) (d := some 26) 23 hHeld ?_ ?_
       rotate_left 1
       · (intro w' hS'; have qS := hS'.cell; clear hS'; go_simp; (try with_reducible rfl))
       simp only [puts]
       refine skipT (d := some 27) 24 hHeld ?_
       simp only [puts]
       refine skipT (d := some 28) 25 hHeld ?_
       simp only [puts]
       refine skipT (d := some 29) 26 hHeld ?_
       simp only [puts]
       refine takeT (v := ?_) (d := some 30) 27 hHeld ?_ ?_
       rotate_left 1
       · (intro w' hS'; have qS := hS'.cell; clear hS'; go_simp; (try with_reducible rfl))
       simp only [puts]
       refine takeT (v := ?_) (d := some 31) 28 hHeld ?_ ?_
       rotate_left 1
       · (intro w' hS'; have qS := hS'.cell; clear hS'; go_simp; (try with_reducible rfl))
       simp only [puts]
       refine skipT (d := some 32) 29 hHeld ?_
       simp only [puts]
       refine skipT (d := some 33) 30 hHeld ?_
       simp only [puts]
       refine skipT (d := some 34) 31 hHeld ?_
       simp only [puts]
       refine skipT (d := some 35) 32 hHeld ?_
       simp only [puts]
       refine skipT (d := some 36) 33 hHeld ?_
       simp only [puts]
       refine skipT (d := some 37) 34 hHeld ?_
       simp only [puts]
       refine skipT (d := some 38) 35 hHeld ?_
       simp only [puts]
       refine takeT (v := ?_) (d := some 39) 36 hHeld ?_ ?_
       rotate_left 1
       · (intro w' hS'; have qS := hS'.cell; clear hS'; go_simp; (try with_reducible rfl))
       simp only [puts]
       refine takeT (v := ?_) (d := some 2) 37 hHeld ?_ ?_
       rotate_left 1
       · (intro w' hS'; have qS := hS'.cell; clear hS'; go_simp; (try with_reducible rfl))
       simp only [puts]
       refine wpAnyH_done (by kernel_rfl) ?_ _
       go_wp2_with fail
       go_ret
       exact ⟨ret_bool (by simp [*] <;> omega), HB.out⟩
   · have e1 : (oc == 1) = false := by simpa using h1
     by_cases h2 : oc = 2
     · have e2 : (oc == 2) = true := by simpa using h2
       rw [show decide ((oc = 1 ∨ oc = 2) ∧ 0 ≤ dp ∧ dp ≤ 3) = decide (0 ≤ dp ∧ dp ≤ 3) from decide_eq_decide.2 ⟨fun x => x.2, fun x => ⟨.inr h2, x⟩⟩]
       clear h1 h2
       by_cases h3 : 0 ≤ dp
       · by_cases h4 : dp ≤ 3
         · cases bd with
           | false =>
             skip
             go_enter Tryz.func136, Tryz.ntmps136
             go_wp2_with fail
             refine wp_region_held_drew (S := fun w' => Blk w' w.heap.size #[.int .i64 n, .int .i64 q, .int .i64 oc, .int .i64 dp, flV ex]) (by kernel_rfl) HK.out (fun hHeld => ?_)
             refine takeT (v := ?_) (d := some 3) 0 hHeld ?_ ?_
             rotate_left 1
             · (intro w' hS'; have qS := hS'.cell; clear hS'; go_simp; (try with_reducible rfl))
             simp only [puts]
             refine takeT (v := ?_) (d := some 4) 1 hHeld ?_ ?_
             rotate_left 1
             · (intro w' hS'; have qS := hS'.cell; clear hS'; go_simp; (try with_reducible rfl))
             simp only [puts]
             refine wpAnyH_call (d := some 5) 2 197 _ _ [.agg #[.int .i64 n, .int .i64 q]] rfl rfl (by kernel_rfl) rfl (enters_of Tryz.func197 (by kernel_rfl) rfl) (by rfl) (by rfl) ?_
             refine (HI.out _).mono ?_; rintro e w5 ⟨rfl, hb1⟩
             have HB := Lib.hid (below_then HB.out hb1); have hHeld := hHeld.below hb1
             refine ⟨_, rfl, _, fun _ h => h, hHeld, fun hHeld => ?_⟩
             simp only [Act.put, puts]
             refine takeT (v := ?_) (d := some 6) 3 hHeld ?_ ?_
             rotate_left 1
             · (intro w' hS'; have qS := hS'.cell; clear hS'; go_simp; (try with_reducible rfl))
             simp only [puts]
             refine takeT (v := ?_) (d := some 7) 4 hHeld ?_ ?_
             rotate_left 1
             · (intro w' hS'; have qS := hS'.cell; clear hS'; go_simp; (try with_reducible rfl))
             simp only [puts]
             refine takeT (v := ?_) (d := some 8) 5 hHeld ?_ ?_
             rotate_left 1
             · (intro w' hS'; have qS := hS'.cell; clear hS'; go_simp; (try with_reducible rfl))
             simp only [puts]
             refine takeT (v := ?_) (d := some 9) 6 hHeld ?_ ?_
             rotate_left 1
             · (intro w' hS'; have qS := hS'.cell; clear hS'; go_simp; (try with_reducible rfl))
             simp only [puts]
             refine takeT (v := ?_) (d := some 10) 7 hHeld ?_ ?_
             rotate_left 1
             · (intro w' hS'; have qS := hS'.cell; clear hS'; go_simp; (try with_reducible rfl))
             simp only [puts]
             refine takeT (v := ?_) (d := some 11) 8 hHeld ?_ ?_
             rotate_left 1
             · (intro w' hS'; have qS := hS'.cell; clear hS'; go_simp; (try with_reducible rfl))
             simp only [puts]
             refine takeT (v := ?_) (d := some 12) 9 hHeld ?_ ?_
             rotate_left 1
             · (intro w' hS'; have qS := hS'.cell; clear hS'; go_simp; (try with_reducible rfl))
             simp only [puts]
             refine takeT (v := ?_) (d := some 13) 10 hHeld ?_ ?_
             rotate_left 1
             · (intro w' hS'; have qS := hS'.cell; clear hS'; go_simp; (try with_reducible rfl))
             simp only [puts]
             refine takeT (v := ?_) (d := some 14) 11 hHeld ?_ ?_
             rotate_left 1
             · (intro w' hS'; have qS := hS'.cell; clear hS'; go_simp; (try with_reducible rfl))
             simp only [puts]
             refine takeT (v := ?_) (d := some 15) 12 hHeld ?_ ?_
             rotate_left 1
             · (intro w' hS'; have qS := hS'.cell; clear hS'; go_simp; (try with_reducible rfl))
             simp only [puts]
             refine takeT (v := ?_) (d := some 16) 13 hHeld ?_ ?_
             rotate_left 1
             · (intro w' hS'; have qS := hS'.cell; clear hS'; go_simp; (try with_reducible rfl))
             simp only [puts]
             refine takeT (v := ?_) (d := some 17) 14 hHeld ?_ ?_
             rotate_left 1
             · (intro w' hS'; have qS := hS'.cell; clear hS'; go_simp; (try with_reducible rfl))
             simp only [puts]
             refine takeT (v := ?_) (d := some 18) 15 hHeld ?_ ?_
             rotate_left 1
             · (intro w' hS'; have qS := hS'.cell; clear hS'; go_simp; (try with_reducible rfl))
             simp only [puts]
             refine takeT (v := ?_) (d := some 19) 16 hHeld ?_ ?_
             rotate_left 1
             · (intro w' hS'; have qS := hS'.cell; clear hS'; go_simp; (try with_reducible rfl))
             simp only [puts]
             refine takeT (v := ?_) (d := some 20) 17 hHeld ?_ ?_
             rotate_left 1
             · (intro w' hS'; have qS := hS'.cell; clear hS'; go_simp; (try with_reducible rfl))
             simp only [puts]
             refine takeT (v := ?_) (d := some 21) 18 hHeld ?_ ?_
             rotate_left 1
             · (intro w' hS'; have qS := hS'.cell; clear hS'; go_simp; (try with_reducible rfl))
             simp only [puts]
             refine takeT (v := ?_) (d := some 22) 19 hHeld ?_ ?_
             rotate_left 1
             · (intro w' hS'; have qS := hS'.cell; clear hS'; go_simp; (try with_reducible rfl))
             simp only [puts]
             refine takeT (v := ?_) (d := some 23) 20 hHeld ?_ ?_
             rotate_left 1
             · (intro w' hS'; have qS := hS'.cell; clear hS'; go_simp; (try with_reducible rfl))
             simp only [puts]
             refine takeT (v := ?_) (d := some 24) 21 hHeld ?_ ?_
             rotate_left 1
             · (intro w' hS'; have qS := hS'.cell; clear hS'; go_simp; (try with_reducible rfl))
             simp only [puts]
             refine takeT (v := ?_) (d := some 25) 22 hHeld ?_ ?_
             rotate_left 1
             · (intro w' hS'; have qS := hS'.cell; clear hS'; go_simp; (try with_reducible rfl))
             simp only [puts]
             refine takeT (v := ?_) (d := some 26) 23 hHeld ?_ ?_
             rotate_left 1
             · (intro w' hS'; have qS := hS'.cell; clear hS'; go_simp; (try with_reducible rfl))
             simp only [puts]
             refine takeT (v := ?_) (d := some 27) 24 hHeld ?_ ?_
             rotate_left 1
             · (intro w' hS'; have qS := hS'.cell; clear hS'; go_simp; (try with_reducible rfl))
             simp only [puts]
             refine takeT (v := ?_) (d := some 28) 25 hHeld ?_ ?_
             rotate_left 1
             · (intro w' hS'; have qS := hS'.cell; clear hS'; go_simp; (try with_reducible rfl))
             simp only [puts]
             refine wpAnyH_call (d := some 29) 26 223 _ _ [flV ex] rfl rfl (by kernel_rfl) rfl (enters_of Tryz.func223 (by kernel_rfl) rfl) (by rfl) (by rfl) ?_
             refine (HD.out _).mono ?_; rintro e w5 ⟨rfl, rfl⟩
             refine ⟨_, rfl, _, fun _ h => h, hHeld, fun hHeld => ?_⟩
             simp only [Act.put, puts]
             refine takeT (v := ?_) (d := some 30) 27 hHeld ?_ ?_
             rotate_left 1
             · (intro w' hS'; have qS := hS'.cell; clear hS'; go_simp; (try with_reducible rfl))
             simp only [puts]
             refine takeT (v := ?_) (d := some 31) 28 hHeld ?_ ?_
             rotate_left 1
             · (intro w' hS'; have qS := hS'.cell; clear hS'; go_simp; (try with_reducible rfl))
             simp only [puts]
             refine skipT (d := some 32) 29 hHeld ?_
             simp only [puts]
             refine skipT (d := some 33) 30 hHeld ?_
             simp only [puts]
             refine skipT (d := some 34) 31 hHeld ?_
             simp only [puts]
             refine skipT (d := some 35) 32 hHeld ?_
             simp only [puts]
             refine skipT (d := some 36) 33 hHeld ?_
             simp only [puts]
             refine skipT (d := some 37) 34 hHeld ?_
             simp only [puts]
             refine skipT (d := some 38) 35 hHeld ?_
             simp only [puts]
             refine takeT (v := ?_) (d := some 39) 36 hHeld ?_ ?_
             rotate_left 1
             · (intro w' hS'; have qS := hS'.cell; clear hS'; go_simp; (try with_reducible rfl))
             simp only [puts]
             refine takeT (v := ?_) (d := some 2) 37 hHeld ?_ ?_
             rotate_left 1
             · (intro w' hS'; have qS := hS'.cell; clear hS'; go_simp; (try with_reducible rfl))
             simp only [puts]
             refine wpAnyH_done (by kernel_rfl) ?_ _
             go_wp2_with fail
             go_ret
             exact ⟨ret_bool (by simp [*] <;> omega), HB.out⟩
           | true =>
             skip
             go_enter Tryz.func136, Tryz.ntmps136
             go_wp2_with fail
             refine wp_region_held_drew (S := fun w' => Blk w' w.heap.size #[.int .i64 n, .int .i64 q, .int .i64 oc, .int .i64 dp, flV ex]) (by kernel_rfl) HK.out (fun hHeld => ?_)
             refine takeT (v := ?_) (d := some 3) 0 hHeld ?_ ?_
             rotate_left 1
             · (intro w' hS'; have qS := hS'.cell; clear hS'; go_simp; (try with_reducible rfl))
             simp only [puts]
             refine takeT (v := ?_) (d := some 4) 1 hHeld ?_ ?_
             rotate_left 1
             · (intro w' hS'; have qS := hS'.cell; clear hS'; go_simp; (try with_reducible rfl))
             simp only [puts]
             refine wpAnyH_call (d := some 5) 2 197 _ _ [.agg #[.int .i64 n, .int .i64 q]] rfl rfl (by kernel_rfl) rfl (enters_of Tryz.func197 (by kernel_rfl) rfl) (by rfl) (by rfl) ?_
             refine (HI.out _).mono ?_; rintro e w5 ⟨rfl, hb1⟩
             have HB := Lib.hid (below_then HB.out hb1); have hHeld := hHeld.below hb1
             refine ⟨_, rfl, _, fun _ h => h, hHeld, fun hHeld => ?_⟩
             simp only [Act.put, puts]
             refine takeT (v := ?_) (d := some 6) 3 hHeld ?_ ?_
             rotate_left 1
             · (intro w' hS'; have qS := hS'.cell; clear hS'; go_simp; (try with_reducible rfl))
             simp only [puts]
             refine takeT (v := ?_) (d := some 7) 4 hHeld ?_ ?_
             rotate_left 1
             · (intro w' hS'; have qS := hS'.cell; clear hS'; go_simp; (try with_reducible rfl))
             simp only [puts]
             refine takeT (v := ?_) (d := some 8) 5 hHeld ?_ ?_
             rotate_left 1
             · (intro w' hS'; have qS := hS'.cell; clear hS'; go_simp; (try with_reducible rfl))
             simp only [puts]
             refine takeT (v := ?_) (d := some 9) 6 hHeld ?_ ?_
             rotate_left 1
             · (intro w' hS'; have qS := hS'.cell; clear hS'; go_simp; (try with_reducible rfl))
             simp only [puts]
             refine takeT (v := ?_) (d := some 10) 7 hHeld ?_ ?_
             rotate_left 1
             · (intro w' hS'; have qS := hS'.cell; clear hS'; go_simp; (try with_reducible rfl))
             simp only [puts]
             refine takeT (v := ?_) (d := some 11) 8 hHeld ?_ ?_
             rotate_left 1
             · (intro w' hS'; have qS := hS'.cell; clear hS'; go_simp; (try with_reducible rfl))
             simp only [puts]
             refine takeT (v := ?_) (d := some 12) 9 hHeld ?_ ?_
             rotate_left 1
             · (intro w' hS'; have qS := hS'.cell; clear hS'; go_simp; (try with_reducible rfl))
             simp only [puts]
             refine takeT (v := ?_) (d := some 13) 10 hHeld ?_ ?_
             rotate_left 1
             · (intro w' hS'; have qS := hS'.cell; clear hS'; go_simp; (try with_reducible rfl))
             simp only [puts]
             refine takeT (v := ?_) (d := some 14) 11 hHeld ?_ ?_
             rotate_left 1
             · (intro w' hS'; have qS := hS'.cell; clear hS'; go_simp; (try with_reducible rfl))
             simp only [puts]
             refine takeT (v := ?_) (d := some 15) 12 hHeld ?_ ?_
             rotate_left 1
             · (intro w' hS'; have qS := hS'.cell; clear hS'; go_simp; (try with_reducible rfl))
             simp only [puts]
             refine takeT (v := ?_) (d := some 16) 13 hHeld ?_ ?_
             rotate_left 1
             · (intro w' hS'; have qS := hS'.cell; clear hS'; go_simp; (try with_reducible rfl))
             simp only [puts]
             refine takeT (v := ?_) (d := some 17) 14 hHeld ?_ ?_
             rotate_left 1
             · (intro w' hS'; have qS := hS'.cell; clear hS'; go_simp; (try with_reducible rfl))
             simp only [puts]
             refine takeT (v := ?_) (d := some 18) 15 hHeld ?_ ?_
             rotate_left 1
             · (intro w' hS'; have qS := hS'.cell; clear hS'; go_simp; (try with_reducible rfl))
             simp only [puts]
             refine takeT (v := ?_) (d := some 19) 16 hHeld ?_ ?_
             rotate_left 1
             · (intro w' hS'; have qS := hS'.cell; clear hS'; go_simp; (try with_reducible rfl))
             simp only [puts]
             refine takeT (v := ?_) (d := some 20) 17 hHeld ?_ ?_
             rotate_left 1
             · (intro w' hS'; have qS := hS'.cell; clear hS'; go_simp; (try with_reducible rfl))
             simp only [puts]
             refine takeT (v := ?_) (d := some 21) 18 hHeld ?_ ?_
             rotate_left 1
             · (intro w' hS'; have qS := hS'.cell; clear hS'; go_simp; (try with_reducible rfl))
             simp only [puts]
             refine takeT (v := ?_) (d := some 22) 19 hHeld ?_ ?_
             rotate_left 1
             · (intro w' hS'; have qS := hS'.cell; clear hS'; go_simp; (try with_reducible rfl))
             simp only [puts]
             refine takeT (v := ?_) (d := some 23) 20 hHeld ?_ ?_
             rotate_left 1
             · (intro w' hS'; have qS := hS'.cell; clear hS'; go_simp; (try with_reducible rfl))
             simp only [puts]
             refine takeT (v := ?_) (d := some 24) 21 hHeld ?_ ?_
             rotate_left 1
             · (intro w' hS'; have qS := hS'.cell; clear hS'; go_simp; (try with_reducible rfl))
             simp only [puts]
             refine takeT (v := ?_) (d := some 25) 22 hHeld ?_ ?_
             rotate_left 1
             · (intro w' hS'; have qS := hS'.cell; clear hS'; go_simp; (try with_reducible rfl))
             simp only [puts]
             refine takeT (v := ?_) (d := some 26) 23 hHeld ?_ ?_
             rotate_left 1
             · (intro w' hS'; have qS := hS'.cell; clear hS'; go_simp; (try with_reducible rfl))
             simp only [puts]
             refine takeT (v := ?_) (d := some 27) 24 hHeld ?_ ?_
             rotate_left 1
             · (intro w' hS'; have qS := hS'.cell; clear hS'; go_simp; (try with_reducible rfl))
             simp only [puts]
             refine takeT (v := ?_) (d := some 28) 25 hHeld ?_ ?_
             rotate_left 1
             · (intro w' hS'; have qS := hS'.cell; clear hS'; go_simp; (try with_reducible rfl))
             simp only [puts]
             refine wpAnyH_call (d := some 29) 26 223 _ _ [flV ex] rfl rfl (by kernel_rfl) rfl (enters_of Tryz.func223 (by kernel_rfl) rfl) (by rfl) (by rfl) ?_
             refine (HD.out _).mono ?_; rintro e w5 ⟨rfl, rfl⟩
             refine ⟨_, rfl, _, fun _ h => h, hHeld, fun hHeld => ?_⟩
             simp only [Act.put, puts]
             refine takeT (v := ?_) (d := some 30) 27 hHeld ?_ ?_
             rotate_left 1
             · (intro w' hS'; have qS := hS'.cell; clear hS'; go_simp; (try with_reducible rfl))
             simp only [puts]
             refine takeT (v := ?_) (d := some 31) 28 hHeld ?_ ?_
             rotate_left 1
             · (intro w' hS'; have qS := hS'.cell; clear hS'; go_simp; (try with_reducible rfl))
             simp only [puts]
             refine takeT (v := ?_) (d := some 32) 29 hHeld ?_ ?_
             rotate_left 1
             · (intro w' hS'; have qS := hS'.cell; clear hS'; go_simp; (try with_reducible rfl))
             simp only [puts]
             refine takeT (v := ?_) (d := some 33) 30 hHeld ?_ ?_
             rotate_left 1
             · (intro w' hS'; have qS := hS'.cell; clear hS'; go_simp; (try with_reducible rfl))
             simp only [puts]
             refine takeT (v := ?_) (d := some 35) 32 hHeld ?_ ?_
             rotate_left 1
             · (intro w' hS'; have qS := hS'.cell; clear hS'; go_simp; (try with_reducible rfl))
             simp only [puts]
             refine takeT (v := ?_) (d := some 36) 33 hHeld ?_ ?_
             rotate_left 1
             · (intro w' hS'; have qS := hS'.cell; clear hS'; go_simp; (try with_reducible rfl))
             simp only [puts]
             refine wpAnyH_call (d := some 34) 31 200 _ _ [flV ex] rfl rfl (by kernel_rfl) rfl (enters_of Tryz.func200 (by kernel_rfl) rfl) (by rfl) (by rfl) ?_
             refine (HA.out _).mono ?_; rintro e w5 ⟨rfl, rfl⟩
             refine ⟨_, rfl, _, fun _ h => h, hHeld, fun hHeld => ?_⟩
             simp only [Act.put, puts]
             refine wpAnyH_call (d := some 37) 34 120 _ _ [flV ex] rfl rfl (by kernel_rfl) rfl (enters_of Tryz.func120 (by kernel_rfl) rfl) (by rfl) (by rfl) ?_
             refine (HT.out _).mono ?_; rintro e w5 ⟨rfl, rfl⟩
             refine ⟨_, rfl, _, fun _ h => h, hHeld, fun hHeld => ?_⟩
             simp only [Act.put, puts]
             refine takeT (v := ?_) (d := some 38) 35 hHeld ?_ ?_
             rotate_left 1
             · (intro w' hS'; have qS := hS'.cell; clear hS'; go_simp; (try with_reducible rfl))
             simp only [puts]
             refine takeT (v := ?_) (d := some 39) 36 hHeld ?_ ?_
             rotate_left 1
             · (intro w' hS'; have qS := hS'.cell; clear hS'; go_simp; (try with_reducible rfl))
             simp only [puts]
             refine takeT (v := ?_) (d := some 2) 37 hHeld ?_ ?_
             rotate_left 1
             · (intro w' hS'; have qS := hS'.cell; clear hS'; go_simp; (try with_reducible rfl))
             simp only [puts]
             refine wpAnyH_done (by kernel_rfl) ?_ _
             go_wp2_with fail
             go_ret
             exact ⟨ret_bool (by simp [*] <;> omega), HB.out⟩
         · have e4 : decide (dp ≤ 3) = false := decide_eq_false h4
           skip
           go_enter Tryz.func136, Tryz.ntmps136
           go_wp2_with fail
           refine wp_region_held_drew (S := fun w' => Blk w' w.heap.size #[.int .i64 n, .int .i64 q, .int .i64 oc, .int .i64 dp, flV ex]) (by kernel_rfl) HK.out (fun hHeld => ?_)
           refine takeT (v := ?_) (d := some 3) 0 hHeld ?_ ?_
           rotate_left 1
           · (intro w' hS'; have qS := hS'.cell; clear hS'; go_simp; (try with_reducible rfl))
           simp only [puts]
           refine takeT (v := ?_) (d := some 4) 1 hHeld ?_ ?_
           rotate_left 1
           · (intro w' hS'; have qS := hS'.cell; clear hS'; go_simp; (try with_reducible rfl))
           simp only [puts]
           refine wpAnyH_call (d := some 5) 2 197 _ _ [.agg #[.int .i64 n, .int .i64 q]] rfl rfl (by kernel_rfl) rfl (enters_of Tryz.func197 (by kernel_rfl) rfl) (by rfl) (by rfl) ?_
           refine (HI.out _).mono ?_; rintro e w5 ⟨rfl, hb1⟩
           have HB := Lib.hid (below_then HB.out hb1); have hHeld := hHeld.below hb1
           refine ⟨_, rfl, _, fun _ h => h, hHeld, fun hHeld => ?_⟩
           simp only [Act.put, puts]
           refine takeT (v := ?_) (d := some 6) 3 hHeld ?_ ?_
           rotate_left 1
           · (intro w' hS'; have qS := hS'.cell; clear hS'; go_simp; (try with_reducible rfl))
           simp only [puts]
           refine takeT (v := ?_) (d := some 7) 4 hHeld ?_ ?_
           rotate_left 1
           · (intro w' hS'; have qS := hS'.cell; clear hS'; go_simp; (try with_reducible rfl))
           simp only [puts]
           refine takeT (v := ?_) (d := some 8) 5 hHeld ?_ ?_
           rotate_left 1
           · (intro w' hS'; have qS := hS'.cell; clear hS'; go_simp; (try with_reducible rfl))
           simp only [puts]
           refine takeT (v := ?_) (d := some 9) 6 hHeld ?_ ?_
           rotate_left 1
           · (intro w' hS'; have qS := hS'.cell; clear hS'; go_simp; (try with_reducible rfl))
           simp only [puts]
           refine takeT (v := ?_) (d := some 10) 7 hHeld ?_ ?_
           rotate_left 1
           · (intro w' hS'; have qS := hS'.cell; clear hS'; go_simp; (try with_reducible rfl))
           simp only [puts]
           refine takeT (v := ?_) (d := some 11) 8 hHeld ?_ ?_
           rotate_left 1
           · (intro w' hS'; have qS := hS'.cell; clear hS'; go_simp; (try with_reducible rfl))
           simp only [puts]
           refine takeT (v := ?_) (d := some 12) 9 hHeld ?_ ?_
           rotate_left 1
           · (intro w' hS'; have qS := hS'.cell; clear hS'; go_simp; (try with_reducible rfl))
           simp only [puts]
           refine takeT (v := ?_) (d := some 13) 10 hHeld ?_ ?_
           rotate_left 1
           · (intro w' hS'; have qS := hS'.cell; clear hS'; go_simp; (try with_reducible rfl))
           simp only [puts]
           refine takeT (v := ?_) (d := some 14) 11 hHeld ?_ ?_
           rotate_left 1
           · (intro w' hS'; have qS := hS'.cell; clear hS'; go_simp; (try with_reducible rfl))
           simp only [puts]
           refine takeT (v := ?_) (d := some 15) 12 hHeld ?_ ?_
           rotate_left 1
           · (intro w' hS'; have qS := hS'.cell; clear hS'; go_simp; (try with_reducible rfl))
           simp only [puts]
           refine takeT (v := ?_) (d := some 16) 13 hHeld ?_ ?_
           rotate_left 1
           · (intro w' hS'; have qS := hS'.cell; clear hS'; go_simp; (try with_reducible rfl))
           simp only [puts]
           refine takeT (v := ?_) (d := some 17) 14 hHeld ?_ ?_
           rotate_left 1
           · (intro w' hS'; have qS := hS'.cell; clear hS'; go_simp; (try with_reducible rfl))
           simp only [puts]
           refine takeT (v := ?_) (d := some 18) 15 hHeld ?_ ?_
           rotate_left 1
           · (intro w' hS'; have qS := hS'.cell; clear hS'; go_simp; (try with_reducible rfl))
           simp only [puts]
           refine takeT (v := ?_) (d := some 19) 16 hHeld ?_ ?_
           rotate_left 1
           · (intro w' hS'; have qS := hS'.cell; clear hS'; go_simp; (try with_reducible rfl))
           simp only [puts]
           refine takeT (v := ?_) (d := some 20) 17 hHeld ?_ ?_
           rotate_left 1
           · (intro w' hS'; have qS := hS'.cell; clear hS'; go_simp; (try with_reducible rfl))
           simp only [puts]
           refine takeT (v := ?_) (d := some 21) 18 hHeld ?_ ?_
           rotate_left 1
           · (intro w' hS'; have qS := hS'.cell; clear hS'; go_simp; (try with_reducible rfl))
           simp only [puts]
           refine takeT (v := ?_) (d := some 22) 19 hHeld ?_ ?_
           rotate_left 1
           · (intro w' hS'; have qS := hS'.cell; clear hS'; go_simp; (try with_reducible rfl))
           simp only [puts]
           refine takeT (v := ?_) (d := some 23) 20 hHeld ?_ ?_
           rotate_left 1
           · (intro w' hS'; have qS := hS'.cell; clear hS'; go_simp; (try with_reducible rfl))
           simp only [puts]
           refine takeT (v := ?_) (d := some 24) 21 hHeld ?_ ?_
           rotate_left 1
           · (intro w' hS'; have qS := hS'.cell; clear hS'; go_simp; (try with_reducible rfl))
           simp only [puts]
           refine takeT (v := ?_) (d := some 25) 22 hHeld ?_ ?_
           rotate_left 1
           · (intro w' hS'; have qS := hS'.cell; clear hS'; go_simp; (try with_reducible rfl))
           simp only [puts]
           refine takeT (v := ?_) (d := some 26) 23 hHeld ?_ ?_
           rotate_left 1
           · (intro w' hS'; have qS := hS'.cell; clear hS'; go_simp; (try with_reducible rfl))
           simp only [puts]
           refine skipT (d := some 27) 24 hHeld ?_
           simp only [puts]
           refine skipT (d := some 28) 25 hHeld ?_
           simp only [puts]
           refine skipT (d := some 29) 26 hHeld ?_
           simp only [puts]
           refine takeT (v := ?_) (d := some 30) 27 hHeld ?_ ?_
           rotate_left 1
           · (intro w' hS'; have qS := hS'.cell; clear hS'; go_simp; (try with_reducible rfl))
           simp only [puts]
           refine takeT (v := ?_) (d := some 31) 28 hHeld ?_ ?_
           rotate_left 1
           · (intro w' hS'; have qS := hS'.cell; clear hS'; go_simp; (try with_reducible rfl))
           simp only [puts]
           refine skipT (d := some 32) 29 hHeld ?_
           simp only [puts]
           refine skipT (d := some 33) 30 hHeld ?_
           simp only [puts]
           refine skipT (d := some 34) 31 hHeld ?_
           simp only [puts]
           refine skipT (d := some 35) 32 hHeld ?_
           simp only [puts]
           refine skipT (d := some 36) 33 hHeld ?_
           simp only [puts]
           refine skipT (d := some 37) 34 hHeld ?_
           simp only [puts]
           refine skipT (d := some 38) 35 hHeld ?_
           simp only [puts]
           refine takeT (v := ?_) (d := some 39) 36 hHeld ?_ ?_
           rotate_left 1
           · (intro w' hS'; have qS := hS'.cell; clear hS'; go_simp; (try with_reducible rfl))
           simp only [puts]
           refine takeT (v := ?_) (d := some 2) 37 hHeld ?_ ?_
           rotate_left 1
           · (intro w' hS'; have qS := hS'.cell; clear hS'; go_simp; (try with_reducible rfl))
           simp only [puts]
           refine wpAnyH_done (by kernel_rfl) ?_ _
           go_wp2_with fail
           go_ret
           exact ⟨ret_bool (by simp [*] <;> omega), HB.out⟩
       · have e3 : decide (0 ≤ dp) = false := decide_eq_false h3
         skip
         go_enter Tryz.func136, Tryz.ntmps136
         go_wp2_with fail
         refine wp_region_held_drew (S := fun w' => Blk w' w.heap.size #[.int .i64 n, .int .i64 q, .int .i64 oc, .int .i64 dp, flV ex]) (by kernel_rfl) HK.out (fun hHeld => ?_)
         refine takeT (v := ?_) (d := some 3) 0 hHeld ?_ ?_
         rotate_left 1
         · (intro w' hS'; have qS := hS'.cell; clear hS'; go_simp; (try with_reducible rfl))
         simp only [puts]
         refine takeT (v := ?_) (d := some 4) 1 hHeld ?_ ?_
         rotate_left 1
         · (intro w' hS'; have qS := hS'.cell; clear hS'; go_simp; (try with_reducible rfl))
         simp only [puts]
         refine wpAnyH_call (d := some 5) 2 197 _ _ [.agg #[.int .i64 n, .int .i64 q]] rfl rfl (by kernel_rfl) rfl (enters_of Tryz.func197 (by kernel_rfl) rfl) (by rfl) (by rfl) ?_
         refine (HI.out _).mono ?_; rintro e w5 ⟨rfl, hb1⟩
         have HB := Lib.hid (below_then HB.out hb1); have hHeld := hHeld.below hb1
         refine ⟨_, rfl, _, fun _ h => h, hHeld, fun hHeld => ?_⟩
         simp only [Act.put, puts]
         refine takeT (v := ?_) (d := some 6) 3 hHeld ?_ ?_
         rotate_left 1
         · (intro w' hS'; have qS := hS'.cell; clear hS'; go_simp; (try with_reducible rfl))
         simp only [puts]
         refine takeT (v := ?_) (d := some 7) 4 hHeld ?_ ?_
         rotate_left 1
         · (intro w' hS'; have qS := hS'.cell; clear hS'; go_simp; (try with_reducible rfl))
         simp only [puts]
         refine takeT (v := ?_) (d := some 8) 5 hHeld ?_ ?_
         rotate_left 1
         · (intro w' hS'; have qS := hS'.cell; clear hS'; go_simp; (try with_reducible rfl))
         simp only [puts]
         refine takeT (v := ?_) (d := some 9) 6 hHeld ?_ ?_
         rotate_left 1
         · (intro w' hS'; have qS := hS'.cell; clear hS'; go_simp; (try with_reducible rfl))
         simp only [puts]
         refine takeT (v := ?_) (d := some 10) 7 hHeld ?_ ?_
         rotate_left 1
         · (intro w' hS'; have qS := hS'.cell; clear hS'; go_simp; (try with_reducible rfl))
         simp only [puts]
         refine takeT (v := ?_) (d := some 11) 8 hHeld ?_ ?_
         rotate_left 1
         · (intro w' hS'; have qS := hS'.cell; clear hS'; go_simp; (try with_reducible rfl))
         simp only [puts]
         refine takeT (v := ?_) (d := some 12) 9 hHeld ?_ ?_
         rotate_left 1
         · (intro w' hS'; have qS := hS'.cell; clear hS'; go_simp; (try with_reducible rfl))
         simp only [puts]
         refine takeT (v := ?_) (d := some 13) 10 hHeld ?_ ?_
         rotate_left 1
         · (intro w' hS'; have qS := hS'.cell; clear hS'; go_simp; (try with_reducible rfl))
         simp only [puts]
         refine takeT (v := ?_) (d := some 14) 11 hHeld ?_ ?_
         rotate_left 1
         · (intro w' hS'; have qS := hS'.cell; clear hS'; go_simp; (try with_reducible rfl))
         simp only [puts]
         refine takeT (v := ?_) (d := some 15) 12 hHeld ?_ ?_
         rotate_left 1
         · (intro w' hS'; have qS := hS'.cell; clear hS'; go_simp; (try with_reducible rfl))
         simp only [puts]
         refine takeT (v := ?_) (d := some 16) 13 hHeld ?_ ?_
         rotate_left 1
         · (intro w' hS'; have qS := hS'.cell; clear hS'; go_simp; (try with_reducible rfl))
         simp only [puts]
         refine takeT (v := ?_) (d := some 17) 14 hHeld ?_ ?_
         rotate_left 1
         · (intro w' hS'; have qS := hS'.cell; clear hS'; go_simp; (try with_reducible rfl))
         simp only [puts]
         refine takeT (v := ?_) (d := some 18) 15 hHeld ?_ ?_
         rotate_left 1
         · (intro w' hS'; have qS := hS'.cell; clear hS'; go_simp; (try with_reducible rfl))
         simp only [puts]
         refine takeT (v := ?_) (d := some 19) 16 hHeld ?_ ?_
         rotate_left 1
         · (intro w' hS'; have qS := hS'.cell; clear hS'; go_simp; (try with_reducible rfl))
         simp only [puts]
         refine takeT (v := ?_) (d := some 20) 17 hHeld ?_ ?_
         rotate_left 1
         · (intro w' hS'; have qS := hS'.cell; clear hS'; go_simp; (try with_reducible rfl))
         simp only [puts]
         refine takeT (v := ?_) (d := some 21) 18 hHeld ?_ ?_
         rotate_left 1
         · (intro w' hS'; have qS := hS'.cell; clear hS'; go_simp; (try with_reducible rfl))
         simp only [puts]
         refine skipT (d := some 22) 19 hHeld ?_
         simp only [puts]
         refine skipT (d := some 23) 20 hHeld ?_
         simp only [puts]
         refine skipT (d := some 24) 21 hHeld ?_
         simp only [puts]
         refine takeT (v := ?_) (d := some 25) 22 hHeld ?_ ?_
         rotate_left 1
         · (intro w' hS'; have qS := hS'.cell; clear hS'; go_simp; (try with_reducible rfl))
         simp only [puts]
         refine takeT (v := ?_) (d := some 26) 23 hHeld ?_ ?_
         rotate_left 1
         · (intro w' hS'; have qS := hS'.cell; clear hS'; go_simp; (try with_reducible rfl))
         simp only [puts]
         refine skipT (d := some 27) 24 hHeld ?_
         simp only [puts]
         refine skipT (d := some 28) 25 hHeld ?_
         simp only [puts]
         refine skipT (d := some 29) 26 hHeld ?_
         simp only [puts]
         refine takeT (v := ?_) (d := some 30) 27 hHeld ?_ ?_
         rotate_left 1
         · (intro w' hS'; have qS := hS'.cell; clear hS'; go_simp; (try with_reducible rfl))
         simp only [puts]
         refine takeT (v := ?_) (d := some 31) 28 hHeld ?_ ?_
         rotate_left 1
         · (intro w' hS'; have qS := hS'.cell; clear hS'; go_simp; (try with_reducible rfl))
         simp only [puts]
         refine skipT (d := some 32) 29 hHeld ?_
         simp only [puts]
         refine skipT (d := some 33) 30 hHeld ?_
         simp only [puts]
         refine skipT (d := some 34) 31 hHeld ?_
         simp only [puts]
         refine skipT (d := some 35) 32 hHeld ?_
         simp only [puts]
         refine skipT (d := some 36) 33 hHeld ?_
         simp only [puts]
         refine skipT (d := some 37) 34 hHeld ?_
         simp only [puts]
         refine skipT (d := some 38) 35 hHeld ?_
         simp only [puts]
         refine takeT (v := ?_) (d := some 39) 36 hHeld ?_ ?_
         rotate_left 1
         · (intro w' hS'; have qS := hS'.cell; clear hS'; go_simp; (try with_reducible rfl))
         simp only [puts]
         refine takeT (v := ?_) (d := some 2) 37 hHeld ?_ ?_
         rotate_left 1
         · (intro w' hS'; have qS := hS'.cell; clear hS'; go_simp; (try with_reducible rfl))
         simp only [puts]
         refine wpAnyH_done (by kernel_rfl) ?_ _
         go_wp2_with fail
         go_ret
         exact ⟨ret_bool (by simp [*] <;> omega), HB.out⟩
     · have e2 : (oc == 2) = false := by simpa using h2
       rw [decide_eq_false (fun x : (oc = 1 ∨ oc = 2) ∧ 0 ≤ dp ∧ dp ≤ 3 => x.1.elim h1 h2)]
       clear h1 h2
       skip
       go_enter Tryz.func136, Tryz.ntmps136
       go_wp2_with fail
       refine wp_region_held_drew (S := fun w' => Blk w' w.heap.size #[.int .i64 n, .int .i64 q, .int .i64 oc, .int .i64 dp, flV ex]) (by kernel_rfl) HK.out (fun hHeld => ?_)
       refine takeT (v := ?_) (d := some 3) 0 hHeld ?_ ?_
       rotate_left 1
       · (intro w' hS'; have qS := hS'.cell; clear hS'; go_simp; (try with_reducible rfl))
       simp only [puts]
       refine takeT (v := ?_) (d := some 4) 1 hHeld ?_ ?_
       rotate_left 1
       · (intro w' hS'; have qS := hS'.cell; clear hS'; go_simp; (try with_reducible rfl))
       simp only [puts]
       refine wpAnyH_call (d := some 5) 2 197 _ _ [.agg #[.int .i64 n, .int .i64 q]] rfl rfl (by kernel_rfl) rfl (enters_of Tryz.func197 (by kernel_rfl) rfl) (by rfl) (by rfl) ?_
       refine (HI.out _).mono ?_; rintro e w5 ⟨rfl, hb1⟩
       have HB := Lib.hid (below_then HB.out hb1); have hHeld := hHeld.below hb1
       refine ⟨_, rfl, _, fun _ h => h, hHeld, fun hHeld => ?_⟩
       simp only [Act.put, puts]
       refine takeT (v := ?_) (d := some 6) 3 hHeld ?_ ?_
       rotate_left 1
       · (intro w' hS'; have qS := hS'.cell; clear hS'; go_simp; (try with_reducible rfl))
       simp only [puts]
       refine takeT (v := ?_) (d := some 7) 4 hHeld ?_ ?_
       rotate_left 1
       · (intro w' hS'; have qS := hS'.cell; clear hS'; go_simp; (try with_reducible rfl))
       simp only [puts]
       refine takeT (v := ?_) (d := some 8) 5 hHeld ?_ ?_
       rotate_left 1
       · (intro w' hS'; have qS := hS'.cell; clear hS'; go_simp; (try with_reducible rfl))
       simp only [puts]
       refine takeT (v := ?_) (d := some 9) 6 hHeld ?_ ?_
       rotate_left 1
       · (intro w' hS'; have qS := hS'.cell; clear hS'; go_simp; (try with_reducible rfl))
       simp only [puts]
       refine takeT (v := ?_) (d := some 10) 7 hHeld ?_ ?_
       rotate_left 1
       · (intro w' hS'; have qS := hS'.cell; clear hS'; go_simp; (try with_reducible rfl))
       simp only [puts]
       refine takeT (v := ?_) (d := some 11) 8 hHeld ?_ ?_
       rotate_left 1
       · (intro w' hS'; have qS := hS'.cell; clear hS'; go_simp; (try with_reducible rfl))
       simp only [puts]
       refine takeT (v := ?_) (d := some 12) 9 hHeld ?_ ?_
       rotate_left 1
       · (intro w' hS'; have qS := hS'.cell; clear hS'; go_simp; (try with_reducible rfl))
       simp only [puts]
       refine takeT (v := ?_) (d := some 13) 10 hHeld ?_ ?_
       rotate_left 1
       · (intro w' hS'; have qS := hS'.cell; clear hS'; go_simp; (try with_reducible rfl))
       simp only [puts]
       refine takeT (v := ?_) (d := some 14) 11 hHeld ?_ ?_
       rotate_left 1
       · (intro w' hS'; have qS := hS'.cell; clear hS'; go_simp; (try with_reducible rfl))
       simp only [puts]
       refine takeT (v := ?_) (d := some 15) 12 hHeld ?_ ?_
       rotate_left 1
       · (intro w' hS'; have qS := hS'.cell; clear hS'; go_simp; (try with_reducible rfl))
       simp only [puts]
       refine takeT (v := ?_) (d := some 16) 13 hHeld ?_ ?_
       rotate_left 1
       · (intro w' hS'; have qS := hS'.cell; clear hS'; go_simp; (try with_reducible rfl))
       simp only [puts]
       refine skipT (d := some 17) 14 hHeld ?_
       simp only [puts]
       refine skipT (d := some 18) 15 hHeld ?_
       simp only [puts]
       refine skipT (d := some 19) 16 hHeld ?_
       simp only [puts]
       refine takeT (v := ?_) (d := some 20) 17 hHeld ?_ ?_
       rotate_left 1
       · (intro w' hS'; have qS := hS'.cell; clear hS'; go_simp; (try with_reducible rfl))
       simp only [puts]
       refine takeT (v := ?_) (d := some 21) 18 hHeld ?_ ?_
       rotate_left 1
       · (intro w' hS'; have qS := hS'.cell; clear hS'; go_simp; (try with_reducible rfl))
       simp only [puts]
       refine skipT (d := some 22) 19 hHeld ?_
       simp only [puts]
       refine skipT (d := some 23) 20 hHeld ?_
       simp only [puts]
       refine skipT (d := some 24) 21 hHeld ?_
       simp only [puts]
       refine takeT (v := ?_) (d := some 25) 22 hHeld ?_ ?_
       rotate_left 1
       · (intro w' hS'; have qS := hS'.cell; clear hS'; go_simp; (try with_reducible rfl))
       simp only [puts]
       refine takeT (v := ?_) (d := some 26) 23 hHeld ?_ ?_
       rotate_left 1
       · (intro w' hS'; have qS := hS'.cell; clear hS'; go_simp; (try with_reducible rfl))
       simp only [puts]
       refine skipT (d := some 27) 24 hHeld ?_
       simp only [puts]
       refine skipT (d := some 28) 25 hHeld ?_
       simp only [puts]
       refine skipT (d := some 29) 26 hHeld ?_
       simp only [puts]
       refine takeT (v := ?_) (d := some 30) 27 hHeld ?_ ?_
       rotate_left 1
       · (intro w' hS'; have qS := hS'.cell; clear hS'; go_simp; (try with_reducible rfl))
       simp only [puts]
       refine takeT (v := ?_) (d := some 31) 28 hHeld ?_ ?_
       rotate_left 1
       · (intro w' hS'; have qS := hS'.cell; clear hS'; go_simp; (try with_reducible rfl))
       simp only [puts]
       refine skipT (d := some 32) 29 hHeld ?_
       simp only [puts]
       refine skipT (d := some 33) 30 hHeld ?_
       simp only [puts]
       refine skipT (d := some 34) 31 hHeld ?_
       simp only [puts]
       refine skipT (d := some 35) 32 hHeld ?_
       simp only [puts]
       refine skipT (d := some 36) 33 hHeld ?_
       simp only [puts]
       refine skipT (d := some 37) 34 hHeld ?_
       simp only [puts]
       refine skipT (d := some 38) 35 hHeld ?_
       simp only [puts]
       refine takeT (v := ?_) (d := some 39) 36 hHeld ?_ ?_
       rotate_left 1
       · (intro w' hS'; have qS := hS'.cell; clear hS'; go_simp; (try with_reducible rfl))
       simp only [puts]
       refine takeT (v := ?_) (d := some 2) 37 hHeld ?_ ?_
       rotate_left 1
       · (intro w' hS'; have qS := hS'.cell; clear hS'; go_simp; (try with_reducible rfl))
       simp only [puts]
       refine wpAnyH_done (by kernel_rfl) ?_ _
       go_wp2_with fail
       go_ret
       exact ⟨ret_bool (by simp [*] <;> omega), HB.out⟩
end Go.Proofs.YtlkajejbfojkeaaGreatDoor

namespace Go.Proofs.YtlkajejbfojkeaaGreatDoor
open Go.RowKit Go.Shelf

def fzero (f : SFact) (ns : List Int) : Bool := (List.range 13).all fun i => i == 0 || ((fnums f).getD i 0 == 0 || ns.contains (i : Int))
def fnamed (k : Int) : List Int := if k = 1 then [1, 2, 7, 8, 9] else if k = 2 then [1, 2, 3, 4, 5, 6] else if k = 3 then [1, 2, 3, 10, 11] else if k = 4 then [1, 2, 12] else if k = 5 then [1, 2] else if k = 6 then [1, 2, 5, 6] else if k = 7 then [3, 5] else if k = 8 then [5, 10, 11] else []
theorem rfok_eq (f : SFact) : (fzero f (fnamed f.k) && (fpk f && (f.k == 1 || decide (f.ex = 0)))) = fok f := by
 obtain ⟨k, an, aq, rg, nd, pt, pr, oc, dp, pa, st, hw, de, ex⟩ := f
 by_cases h1 : k = 1
 · subst h1
   simp only [fpk, fok, fnamed, fzero, fnums, if_true, if_false]
   generalize idOk an aq = b1
   generalize stOk st hw = b2
   generalize ctxOk an aq oc dp ex = b3
   rw [Bool.eq_iff_iff]
   cases b1 <;> cases b2 <;> cases b3 <;> simp [List.range, List.range.loop] <;> omega
 by_cases h2 : k = 2
 · subst h2
   simp only [fpk, fok, fnamed, fzero, fnums, if_true, if_false, show ¬ ((2 : Int) = 1) by decide]
   generalize idOk an aq = b1
   generalize stOk st hw = b2
   generalize ctxOk an aq oc dp ex = b3
   rw [Bool.eq_iff_iff]
   cases b1 <;> cases b2 <;> cases b3 <;> simp [List.range, List.range.loop] <;> omega
 by_cases h3 : k = 3
 · subst h3
   simp only [fpk, fok, fnamed, fzero, fnums, if_true, if_false, show ¬ ((3 : Int) = 1) by decide, show ¬ ((3 : Int) = 2) by decide]
   generalize idOk an aq = b1
   generalize stOk st hw = b2
   generalize ctxOk an aq oc dp ex = b3
   rw [Bool.eq_iff_iff]
   cases b1 <;> cases b2 <;> cases b3 <;> simp [List.range, List.range.loop] <;> omega
 by_cases h4 : k = 4
 · subst h4
   simp only [fpk, fok, fnamed, fzero, fnums, if_true, if_false, show ¬ ((4 : Int) = 1) by decide, show ¬ ((4 : Int) = 2) by decide, show ¬ ((4 : Int) = 3) by decide]
   generalize idOk an aq = b1
   generalize stOk st hw = b2
   generalize ctxOk an aq oc dp ex = b3
   rw [Bool.eq_iff_iff]
   cases b1 <;> cases b2 <;> cases b3 <;> simp [List.range, List.range.loop] <;> omega
 by_cases h5 : k = 5
 · subst h5
   simp only [fpk, fok, fnamed, fzero, fnums, if_true, if_false, show ¬ ((5 : Int) = 1) by decide, show ¬ ((5 : Int) = 2) by decide, show ¬ ((5 : Int) = 3) by decide, show ¬ ((5 : Int) = 4) by decide]
   generalize idOk an aq = b1
   generalize stOk st hw = b2
   generalize ctxOk an aq oc dp ex = b3
   rw [Bool.eq_iff_iff]
   cases b1 <;> cases b2 <;> cases b3 <;> simp [List.range, List.range.loop] <;> omega
 by_cases h6 : k = 6
 · subst h6
   simp only [fpk, fok, fnamed, fzero, fnums, if_true, if_false, show ¬ ((6 : Int) = 1) by decide, show ¬ ((6 : Int) = 2) by decide, show ¬ ((6 : Int) = 3) by decide, show ¬ ((6 : Int) = 4) by decide, show ¬ ((6 : Int) = 5) by decide]
   generalize idOk an aq = b1
   generalize stOk st hw = b2
   generalize ctxOk an aq oc dp ex = b3
   rw [Bool.eq_iff_iff]
   cases b1 <;> cases b2 <;> cases b3 <;> simp [List.range, List.range.loop] <;> omega
 by_cases h7 : k = 7
 · subst h7
   simp only [fpk, fok, fnamed, fzero, fnums, if_true, if_false, show ¬ ((7 : Int) = 1) by decide, show ¬ ((7 : Int) = 2) by decide, show ¬ ((7 : Int) = 3) by decide, show ¬ ((7 : Int) = 4) by decide, show ¬ ((7 : Int) = 5) by decide, show ¬ ((7 : Int) = 6) by decide]
   generalize idOk an aq = b1
   generalize stOk st hw = b2
   generalize ctxOk an aq oc dp ex = b3
   rw [Bool.eq_iff_iff]
   cases b1 <;> cases b2 <;> cases b3 <;> simp [List.range, List.range.loop] <;> omega
 by_cases h8 : k = 8
 · subst h8
   simp only [fpk, fok, fnamed, fzero, fnums, if_true, if_false, show ¬ ((8 : Int) = 1) by decide, show ¬ ((8 : Int) = 2) by decide, show ¬ ((8 : Int) = 3) by decide, show ¬ ((8 : Int) = 4) by decide, show ¬ ((8 : Int) = 5) by decide, show ¬ ((8 : Int) = 6) by decide, show ¬ ((8 : Int) = 7) by decide]
   generalize idOk an aq = b1
   generalize stOk st hw = b2
   generalize ctxOk an aq oc dp ex = b3
   rw [Bool.eq_iff_iff]
   cases b1 <;> cases b2 <;> cases b3 <;> simp [List.range, List.range.loop] <;> omega
 simp [fpk, fok, h1, h2, h3, h4, h5, h6, h7, h8]
end Go.Proofs.YtlkajejbfojkeaaGreatDoor

namespace Go.Proofs.YtlkajejbfojkeaaGreatDoor
open Go.RowKit

def IntsAt (w : World) (g : Nat) (xs : List Int) : Prop := ∀ i (h : i < xs.length), w.cell? ⟨g, i, none⟩ = some (.int .i64 xs[i])
def Draws (v : Value) (w : World) (e : Ending) (w' : World) : Prop := e = .returned v ∧ ∃ n, w' = w.drewN n

end Go.Proofs.YtlkajejbfojkeaaGreatDoor

namespace Go.Proofs.YtlkajejbfojkeaaGreatDoor
open Go.RowKit

theorem OwnI.drewN {B : Nat} {v : Value} {xs : List Int} {w : World} (h : OwnI B v xs w) (n : Nat) : OwnI B v xs (w.drewN n) := h
theorem Below.drewN {B : Nat} {a w : World} (h : Below B a w) (n : Nat) : Below B a (w.drewN n) := ⟨h.os, h.tape, h.output, h.size, h.block⟩
theorem RowsAt.alloc {w : World} {b : Nat} {rs : List Row} (h : RowsAt w b rs) (o : Obj) : RowsAt (w.alloc o) b rs := h.below ((Below.refl _ _).alloc (Nat.le_refl _) o)
theorem ActsAt.alloc {w : World} {b : Nat} {rs : List Act'} (h : ActsAt w b rs) (o : Obj) : ActsAt (w.alloc o) b rs := h.below ((Below.refl _ _).alloc (Nat.le_refl _) o)
end Go.Proofs.YtlkajejbfojkeaaGreatDoor

namespace Go.Proofs.YtlkajejbfojkeaaGreatDoor
open Go.RowKit

def ReadI (w : World) (v : Value) (xs : List Int) : Prop := ∃ a cap, v = .slice a xs.length cap ∧ (xs ≠ [] → ∃ g, a = some ⟨g, 0, none⟩ ∧ g < w.heap.size ∧ IntsAt w g xs)
theorem OwnI.read {B : Nat} {v : Value} {xs : List Int} {w : World} (h : OwnI B v xs w) : ReadI w v xs := by
 rcases h.2 with ⟨rfl, h0⟩ | ⟨g, cap, cur, rfl, _, hb, _, _, _, _⟩
 · exact ⟨none, 0, by rw [h0], fun hne => absurd (List.eq_nil_of_length_eq_zero h0) hne⟩
 · refine ⟨_, cap, rfl, fun _ => ⟨g, rfl, (Array.getElem?_eq_some_iff.1 hb).1, fun i hi => ?_⟩⟩
   have h' : w.ownsRow B 3 1 (.slice (some ⟨g, 0, none⟩) xs.length cap) xs.length (xs.map (Value.int .i64)) := h
   rw [h'.cellAt i (by simpa using hi)]
   simp [List.getElem?_eq_getElem hi]
theorem ReadI.below {w w' : World} {v : Value} {xs : List Int} (h : ReadI w v xs) (hb : Below w.heap.size w w') : ReadI w' v xs := by
 obtain ⟨a, cap, rfl, h⟩ := h
 refine ⟨a, cap, rfl, fun hne => ?_⟩
 obtain ⟨g, h1, h2, h3⟩ := h hne
 exact ⟨g, h1, Nat.lt_of_lt_of_le h2 hb.size, fun i hi => (hb.cell (p := ⟨g, i, none⟩) h2).trans (h3 i hi)⟩
theorem Draws.below {v : Value} {w w' : World} {e : Ending} (h : Draws v w e w') : e = .returned v ∧ Below w.heap.size w w' := by
 obtain ⟨h1, n, rfl⟩ := h
 exact ⟨h1, Below.drewN (Below.refl _ _) n⟩

set_option maxHeartbeats 1000000 in
theorem in_any (xs : List Int) (n : Int) (v : Value) (w : World) (h : ReadI w v xs) (hl : xs.length ≤ 1000) :
   Calls Tryz.prog 199 #[v, .int .i64 n] w (Gives (.bool (xs.contains n)) w) := by
 obtain ⟨a1, c1, rfl, h1⟩ := h
 by_cases hne : xs = []
 · subst hne
   clear h1
   simp only [List.length_nil]
   go_enter Tryz.func199, Tryz.ntmps199
   go_wp2
   refine wp_loop_rounds 1 ?_
   rw [rounds_succ]
   go_wp2
   go_ret
   exact ⟨rfl, rfl⟩
 · obtain ⟨g1, rfl, _, i1⟩ := h1 hne
   have I1 := Lib.hid i1; clear i1 h1 hne
   go_enter Tryz.func199, Tryz.ntmps199
   go_wp2
   go_loop [9] (fun i => ∃ k : Nat, k ≤ xs.length ∧ i = .int .i64 k ∧ Hid (∀ j, (h : j < xs.length) → j < k → xs[j] ≠ n)) (fun i => xs.length - (intOf i).toNat)
   case atStart => exact ⟨0, by omega, rfl, Lib.hid (fun j _ hj => absurd hj (Nat.not_lt_zero _))⟩
   case round =>
     obtain ⟨k, hk, rfl, HN⟩ := hrel
     by_cases hlt : k < xs.length
     · have a1 := I1.out k hlt
       by_cases hx : xs[k] = n
       · have hmem : xs.contains n = true := by simp only [List.contains_eq_mem, decide_eq_true_eq]; rw [← hx]; exact List.getElem_mem _
         rw [hx] at a1
         have HM := Lib.hid hmem; clear hmem hx
         go_wp2
         go_ret
         exact ⟨ret_bool (by have := HM.out; simp at this; simp [this]), rfl⟩
       · have hx' : (xs[k] == n) = false := by simpa using hx
         obtain ⟨x, hxk⟩ : ∃ x, x = xs[k] := ⟨_, rfl⟩
         rw [← hxk] at a1 hx'
         have HX := Lib.hid hx; clear hx hxk
         go_wp2
         go_round
         case rel =>
           refine ⟨k + 1, by omega, by go_num, Lib.hid (fun j h hj => ?_)⟩
           rcases Nat.lt_succ_iff_lt_or_eq.1 hj with h' | rfl
           · exact HN.out j h h'
           · exact HX.out
         case measure => simp [intOf]; omega
     · have hmem : xs.contains n = false := by
         simp only [List.contains_eq_mem, decide_eq_false_iff_not]
         intro hm
         obtain ⟨i, hi, rfl⟩ := List.mem_iff_getElem.1 hm
         exact HN.out i hi (by omega) rfl
       have HM := Lib.hid hmem; clear hmem
       go_wp2
       go_ret
       exact ⟨ret_bool (by have := HM.out; simp at this; simp [this]), rfl⟩

end Go.Proofs.YtlkajejbfojkeaaGreatDoor
