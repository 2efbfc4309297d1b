/- RfcB, JoA, LdA -/
import Derived.Test.YtlkajejbfojkeaaGreatDoorVStoSToRfcA
set_option linter.unusedSimpArgs false
set_option linter.unusedVariables false
set_option maxRecDepth 100000
set_option maxHeartbeats 16000000
namespace Go.Proofs.YtlkajejbfojkeaaGreatDoor
open Go.RowKit Go.Shelf
theorem raw_bits (x : Nat) : ((x : Int) == (fplain x : Nat)) = decide (fplain x = x) := by
 by_cases h : fplain x = x
 · rw [h]; simp
 · rw [decide_eq_false h, beq_eq_false_iff_ne]; intro e; exact h (by omega)
theorem rright09_of (n q oc dp : Int) (ex : Nat) (hx : F64 ex) (w : World) : Calls Tryz.prog 136 #[.agg #[n, q, oc, dp, flV ex]] w (Makes (.bool (ctxOk n q oc dp ex)) w) := by
 have HI := qq (fun W => rright05_of n q W)
 have HD := qq (fun W => rdelay_of ex hx W); have HA := qq (fun W => raw_of ex W); have HT := qq (fun W => rbits_of ex hx W)
 have HK := qq (Blk.fresh w #[n, q, oc, dp, flV ex] 48 _ rfl).drew
 have HB := qq ((Below.refl w.heap.size w).alloc (Nat.le_refl _) (.cells #[n, q, oc, dp, flV ex] 48)).drew
 have hrb := raw_bits ex
 unfold ctxOk
 generalize decide (fplain ex = ex) = bp at *
 generalize fdelay ex = bd at *
 generalize idOk n q = bi at *
 clear hx
 cases bi with
 | false =>
  skip
  go_enter Tryz.func136, Tryz.ntmps136
  go_wp2_with fail
  refine wp_region_held_drew (S := fun w' => Blk w' w.heap.size #[n, q, oc, dp, flV ex]) (by kernel_rfl) HK.out (fun hHeld => ?_)
  refine takeU (d := some 3) 0 rfl rfl hHeld (fun w' hS' => by have qS := hS'.cell; clear hS'; go_simp; (try rfl)) ?_
  simp only [puts]
  refine takeU (d := some 4) 1 rfl rfl hHeld (fun w' hS' => by have qS := hS'.cell; clear hS'; go_simp; (try rfl)) ?_
  simp only [puts]
  refine wpAnyH_call (d := some 5) 2 197 _ _ [.agg #[n, q]] rfl rfl (by kernel_rfl) rfl (enters_of Tryz.func197 (by kernel_rfl) rfl) (by rfl) (by rfl) ?_
  refine (HI.out _).mono ?_; rintro e w5 ⟨rfl, hb1⟩
  have HB := qq (below_then HB.out hb1); have hHeld := hHeld.below hb1
  refine ⟨_, rfl, _, fun _ h => h, hHeld, fun hHeld => ?_⟩
  simp only [Act.put, puts]
  refine takeU (d := some 6) 3 rfl rfl hHeld (fun w' hS' => by have qS := hS'.cell; clear hS'; go_simp; (try rfl)) ?_
  simp only [puts]
  refine skipT (d := some 7) 4 hHeld ?_
  simp only [puts]
  refine skipT (d := some 8) 5 hHeld ?_
  simp only [puts]
  refine skipT (d := some 9) 6 hHeld ?_
  simp only [puts]
  refine skipT (d := some 10) 7 hHeld ?_
  simp only [puts]
  refine skipT (d := some 11) 8 hHeld ?_
  simp only [puts]
  refine skipT (d := some 12) 9 hHeld ?_
  simp only [puts]
  refine skipT (d := some 13) 10 hHeld ?_
  simp only [puts]
  refine skipT (d := some 14) 11 hHeld ?_
  simp only [puts]
  refine takeU (d := some 15) 12 rfl rfl hHeld (fun w' hS' => by have qS := hS'.cell; clear hS'; go_simp; (try rfl)) ?_
  simp only [puts]
  refine takeU (d := some 16) 13 rfl rfl hHeld (fun w' hS' => by have qS := hS'.cell; clear hS'; go_simp; (try rfl)) ?_
  simp only [puts]
  refine skipT (d := some 17) 14 hHeld ?_
  simp only [puts]
  refine skipT (d := some 18) 15 hHeld ?_
  simp only [puts]
  refine skipT (d := some 19) 16 hHeld ?_
  simp only [puts]
  refine takeU (d := some 20) 17 rfl rfl hHeld (fun w' hS' => by have qS := hS'.cell; clear hS'; go_simp; (try rfl)) ?_
  simp only [puts]
  refine takeU (d := some 21) 18 rfl rfl hHeld (fun w' hS' => by have qS := hS'.cell; clear hS'; go_simp; (try rfl)) ?_
  simp only [puts]
  refine skipT (d := some 22) 19 hHeld ?_
  simp only [puts]
  refine skipT (d := some 23) 20 hHeld ?_
  simp only [puts]
  refine skipT (d := some 24) 21 hHeld ?_
  simp only [puts]
  refine takeU (d := some 25) 22 rfl rfl hHeld (fun w' hS' => by have qS := hS'.cell; clear hS'; go_simp; (try rfl)) ?_
  simp only [puts]
  refine takeU (d := some 26) 23 rfl rfl hHeld (fun w' hS' => by have qS := hS'.cell; clear hS'; go_simp; (try rfl)) ?_
  simp only [puts]
  refine skipT (d := some 27) 24 hHeld ?_
  simp only [puts]
  refine skipT (d := some 28) 25 hHeld ?_
  simp only [puts]
  refine skipT (d := some 29) 26 hHeld ?_
  simp only [puts]
  refine takeU (d := some 30) 27 rfl rfl hHeld (fun w' hS' => by have qS := hS'.cell; clear hS'; go_simp; (try rfl)) ?_
  simp only [puts]
  refine takeU (d := some 31) 28 rfl rfl hHeld (fun w' hS' => by have qS := hS'.cell; clear hS'; go_simp; (try rfl)) ?_
  simp only [puts]
  refine skipT (d := some 32) 29 hHeld ?_
  simp only [puts]
  refine skipT (d := some 33) 30 hHeld ?_
  simp only [puts]
  refine skipT (d := some 34) 31 hHeld ?_
  simp only [puts]
  refine skipT (d := some 35) 32 hHeld ?_
  simp only [puts]
  refine skipT (d := some 36) 33 hHeld ?_
  simp only [puts]
  refine skipT (d := some 37) 34 hHeld ?_
  simp only [puts]
  refine skipT (d := some 38) 35 hHeld ?_
  simp only [puts]
  refine takeU (d := some 39) 36 rfl rfl hHeld (fun w' hS' => by have qS := hS'.cell; clear hS'; go_simp; (try rfl)) ?_
  simp only [puts]
  refine takeU (d := some 2) 37 rfl rfl hHeld (fun w' hS' => by have qS := hS'.cell; clear hS'; go_simp; (try rfl)) ?_
  simp only [puts]
  refine wpAnyH_done (by kernel_rfl) ?_ _
  go_wp2_with fail
  go_ret
  exact ⟨ret_bool (by simp [*] <;> omega), HB.out⟩
 | true =>
  by_cases h1 : oc = 1
  · have e1 : (oc == 1) = true := by simpa using h1
    rw [show decide ((oc = 1 ∨ oc = 2) ∧ 0 ≤ dp ∧ dp ≤ 3) = decide (0 ≤ dp ∧ dp ≤ 3) from decide_eq_decide.2 ⟨fun x => x.2, fun x => ⟨.inl h1, x⟩⟩]
    clear h1
    by_cases h3 : 0 ≤ dp
    · by_cases h4 : dp ≤ 3
      · cases bd with
        | false =>
         skip
         go_enter Tryz.func136, Tryz.ntmps136
         go_wp2_with fail
         refine wp_region_held_drew (S := fun w' => Blk w' w.heap.size #[n, q, oc, dp, flV ex]) (by kernel_rfl) HK.out (fun hHeld => ?_)
         refine takeU (d := some 3) 0 rfl rfl hHeld (fun w' hS' => by have qS := hS'.cell; clear hS'; go_simp; (try rfl)) ?_
         simp only [puts]
         refine takeU (d := some 4) 1 rfl rfl hHeld (fun w' hS' => by have qS := hS'.cell; clear hS'; go_simp; (try rfl)) ?_
         simp only [puts]
         refine wpAnyH_call (d := some 5) 2 197 _ _ [.agg #[n, q]] rfl rfl (by kernel_rfl) rfl (enters_of Tryz.func197 (by kernel_rfl) rfl) (by rfl) (by rfl) ?_
         refine (HI.out _).mono ?_; rintro e w5 ⟨rfl, hb1⟩
         have HB := qq (below_then HB.out hb1); have hHeld := hHeld.below hb1
         refine ⟨_, rfl, _, fun _ h => h, hHeld, fun hHeld => ?_⟩
         simp only [Act.put, puts]
         refine takeU (d := some 6) 3 rfl rfl hHeld (fun w' hS' => by have qS := hS'.cell; clear hS'; go_simp; (try rfl)) ?_
         simp only [puts]
         refine takeU (d := some 7) 4 rfl rfl hHeld (fun w' hS' => by have qS := hS'.cell; clear hS'; go_simp; (try rfl)) ?_
         simp only [puts]
         refine takeU (d := some 8) 5 rfl rfl hHeld (fun w' hS' => by have qS := hS'.cell; clear hS'; go_simp; (try rfl)) ?_
         simp only [puts]
         refine takeU (d := some 9) 6 rfl rfl hHeld (fun w' hS' => by have qS := hS'.cell; clear hS'; go_simp; (try rfl)) ?_
         simp only [puts]
         refine takeU (d := some 10) 7 rfl rfl hHeld (fun w' hS' => by have qS := hS'.cell; clear hS'; go_simp; (try rfl)) ?_
         simp only [puts]
         refine skipT (d := some 11) 8 hHeld ?_
         simp only [puts]
         refine skipT (d := some 12) 9 hHeld ?_
         simp only [puts]
         refine skipT (d := some 13) 10 hHeld ?_
         simp only [puts]
         refine takeU (d := some 14) 11 rfl rfl hHeld (fun w' hS' => by have qS := hS'.cell; clear hS'; go_simp; (try rfl)) ?_
         simp only [puts]
         refine takeU (d := some 15) 12 rfl rfl hHeld (fun w' hS' => by have qS := hS'.cell; clear hS'; go_simp; (try rfl)) ?_
         simp only [puts]
         refine takeU (d := some 16) 13 rfl rfl hHeld (fun w' hS' => by have qS := hS'.cell; clear hS'; go_simp; (try rfl)) ?_
         simp only [puts]
         refine takeU (d := some 17) 14 rfl rfl hHeld (fun w' hS' => by have qS := hS'.cell; clear hS'; go_simp; (try rfl)) ?_
         simp only [puts]
         refine takeU (d := some 18) 15 rfl rfl hHeld (fun w' hS' => by have qS := hS'.cell; clear hS'; go_simp; (try rfl)) ?_
         simp only [puts]
         refine takeU (d := some 19) 16 rfl rfl hHeld (fun w' hS' => by have qS := hS'.cell; clear hS'; go_simp; (try rfl)) ?_
         simp only [puts]
         refine takeU (d := some 20) 17 rfl rfl hHeld (fun w' hS' => by have qS := hS'.cell; clear hS'; go_simp; (try rfl)) ?_
         simp only [puts]
         refine takeU (d := some 21) 18 rfl rfl hHeld (fun w' hS' => by have qS := hS'.cell; clear hS'; go_simp; (try rfl)) ?_
         simp only [puts]
         refine takeU (d := some 22) 19 rfl rfl hHeld (fun w' hS' => by have qS := hS'.cell; clear hS'; go_simp; (try rfl)) ?_
         simp only [puts]
         refine takeU (d := some 23) 20 rfl rfl hHeld (fun w' hS' => by have qS := hS'.cell; clear hS'; go_simp; (try rfl)) ?_
         simp only [puts]
         refine takeU (d := some 24) 21 rfl rfl hHeld (fun w' hS' => by have qS := hS'.cell; clear hS'; go_simp; (try rfl)) ?_
         simp only [puts]
         refine takeU (d := some 25) 22 rfl rfl hHeld (fun w' hS' => by have qS := hS'.cell; clear hS'; go_simp; (try rfl)) ?_
         simp only [puts]
         refine takeU (d := some 26) 23 rfl rfl hHeld (fun w' hS' => by have qS := hS'.cell; clear hS'; go_simp; (try rfl)) ?_
         simp only [puts]
         refine takeU (d := some 27) 24 rfl rfl hHeld (fun w' hS' => by have qS := hS'.cell; clear hS'; go_simp; (try rfl)) ?_
         simp only [puts]
         refine takeU (d := some 28) 25 rfl rfl hHeld (fun w' hS' => by have qS := hS'.cell; clear hS'; go_simp; (try rfl)) ?_
         simp only [puts]
         refine wpAnyH_call (d := some 29) 26 223 _ _ [flV ex] rfl rfl (by kernel_rfl) rfl (enters_of Tryz.func223 (by kernel_rfl) rfl) (by rfl) (by rfl) ?_
         refine (HD.out _).mono ?_; rintro e w5 ⟨rfl, rfl⟩
         refine ⟨_, rfl, _, fun _ h => h, hHeld, fun hHeld => ?_⟩
         simp only [Act.put, puts]
         refine takeU (d := some 30) 27 rfl rfl hHeld (fun w' hS' => by have qS := hS'.cell; clear hS'; go_simp; (try rfl)) ?_
         simp only [puts]
         refine takeU (d := some 31) 28 rfl rfl hHeld (fun w' hS' => by have qS := hS'.cell; clear hS'; go_simp; (try rfl)) ?_
         simp only [puts]
         refine skipT (d := some 32) 29 hHeld ?_
         simp only [puts]
         refine skipT (d := some 33) 30 hHeld ?_
         simp only [puts]
         refine skipT (d := some 34) 31 hHeld ?_
         simp only [puts]
         refine skipT (d := some 35) 32 hHeld ?_
         simp only [puts]
         refine skipT (d := some 36) 33 hHeld ?_
         simp only [puts]
         refine skipT (d := some 37) 34 hHeld ?_
         simp only [puts]
         refine skipT (d := some 38) 35 hHeld ?_
         simp only [puts]
         refine takeU (d := some 39) 36 rfl rfl hHeld (fun w' hS' => by have qS := hS'.cell; clear hS'; go_simp; (try rfl)) ?_
         simp only [puts]
         refine takeU (d := some 2) 37 rfl rfl hHeld (fun w' hS' => by have qS := hS'.cell; clear hS'; go_simp; (try rfl)) ?_
         simp only [puts]
         refine wpAnyH_done (by kernel_rfl) ?_ _
         go_wp2_with fail
         go_ret
         exact ⟨ret_bool (by simp [*] <;> omega), HB.out⟩
        | true =>
         skip
         go_enter Tryz.func136, Tryz.ntmps136
         go_wp2_with fail
         refine wp_region_held_drew (S := fun w' => Blk w' w.heap.size #[n, q, oc, dp, flV ex]) (by kernel_rfl) HK.out (fun hHeld => ?_)
         refine takeU (d := some 3) 0 rfl rfl hHeld (fun w' hS' => by have qS := hS'.cell; clear hS'; go_simp; (try rfl)) ?_
         simp only [puts]
         refine takeU (d := some 4) 1 rfl rfl hHeld (fun w' hS' => by have qS := hS'.cell; clear hS'; go_simp; (try rfl)) ?_
         simp only [puts]
         refine wpAnyH_call (d := some 5) 2 197 _ _ [.agg #[n, q]] rfl rfl (by kernel_rfl) rfl (enters_of Tryz.func197 (by kernel_rfl) rfl) (by rfl) (by rfl) ?_
         refine (HI.out _).mono ?_; rintro e w5 ⟨rfl, hb1⟩
         have HB := qq (below_then HB.out hb1); have hHeld := hHeld.below hb1
         refine ⟨_, rfl, _, fun _ h => h, hHeld, fun hHeld => ?_⟩
         simp only [Act.put, puts]
         refine takeU (d := some 6) 3 rfl rfl hHeld (fun w' hS' => by have qS := hS'.cell; clear hS'; go_simp; (try rfl)) ?_
         simp only [puts]
         refine takeU (d := some 7) 4 rfl rfl hHeld (fun w' hS' => by have qS := hS'.cell; clear hS'; go_simp; (try rfl)) ?_
         simp only [puts]
         refine takeU (d := some 8) 5 rfl rfl hHeld (fun w' hS' => by have qS := hS'.cell; clear hS'; go_simp; (try rfl)) ?_
         simp only [puts]
         refine takeU (d := some 9) 6 rfl rfl hHeld (fun w' hS' => by have qS := hS'.cell; clear hS'; go_simp; (try rfl)) ?_
         simp only [puts]
         refine takeU (d := some 10) 7 rfl rfl hHeld (fun w' hS' => by have qS := hS'.cell; clear hS'; go_simp; (try rfl)) ?_
         simp only [puts]
         refine skipT (d := some 11) 8 hHeld ?_
         simp only [puts]
         refine skipT (d := some 12) 9 hHeld ?_
         simp only [puts]
         refine skipT (d := some 13) 10 hHeld ?_
         simp only [puts]
         refine takeU (d := some 14) 11 rfl rfl hHeld (fun w' hS' => by have qS := hS'.cell; clear hS'; go_simp; (try rfl)) ?_
         simp only [puts]
         refine takeU (d := some 15) 12 rfl rfl hHeld (fun w' hS' => by have qS := hS'.cell; clear hS'; go_simp; (try rfl)) ?_
         simp only [puts]
         refine takeU (d := some 16) 13 rfl rfl hHeld (fun w' hS' => by have qS := hS'.cell; clear hS'; go_simp; (try rfl)) ?_
         simp only [puts]
         refine takeU (d := some 17) 14 rfl rfl hHeld (fun w' hS' => by have qS := hS'.cell; clear hS'; go_simp; (try rfl)) ?_
         simp only [puts]
         refine takeU (d := some 18) 15 rfl rfl hHeld (fun w' hS' => by have qS := hS'.cell; clear hS'; go_simp; (try rfl)) ?_
         simp only [puts]
         refine takeU (d := some 19) 16 rfl rfl hHeld (fun w' hS' => by have qS := hS'.cell; clear hS'; go_simp; (try rfl)) ?_
         simp only [puts]
         refine takeU (d := some 20) 17 rfl rfl hHeld (fun w' hS' => by have qS := hS'.cell; clear hS'; go_simp; (try rfl)) ?_
         simp only [puts]
         refine takeU (d := some 21) 18 rfl rfl hHeld (fun w' hS' => by have qS := hS'.cell; clear hS'; go_simp; (try rfl)) ?_
         simp only [puts]
         refine takeU (d := some 22) 19 rfl rfl hHeld (fun w' hS' => by have qS := hS'.cell; clear hS'; go_simp; (try rfl)) ?_
         simp only [puts]
         refine takeU (d := some 23) 20 rfl rfl hHeld (fun w' hS' => by have qS := hS'.cell; clear hS'; go_simp; (try rfl)) ?_
         simp only [puts]
         refine takeU (d := some 24) 21 rfl rfl hHeld (fun w' hS' => by have qS := hS'.cell; clear hS'; go_simp; (try rfl)) ?_
         simp only [puts]
         refine takeU (d := some 25) 22 rfl rfl hHeld (fun w' hS' => by have qS := hS'.cell; clear hS'; go_simp; (try rfl)) ?_
         simp only [puts]
         refine takeU (d := some 26) 23 rfl rfl hHeld (fun w' hS' => by have qS := hS'.cell; clear hS'; go_simp; (try rfl)) ?_
         simp only [puts]
         refine takeU (d := some 27) 24 rfl rfl hHeld (fun w' hS' => by have qS := hS'.cell; clear hS'; go_simp; (try rfl)) ?_
         simp only [puts]
         refine takeU (d := some 28) 25 rfl rfl hHeld (fun w' hS' => by have qS := hS'.cell; clear hS'; go_simp; (try rfl)) ?_
         simp only [puts]
         refine wpAnyH_call (d := some 29) 26 223 _ _ [flV ex] rfl rfl (by kernel_rfl) rfl (enters_of Tryz.func223 (by kernel_rfl) rfl) (by rfl) (by rfl) ?_
         refine (HD.out _).mono ?_; rintro e w5 ⟨rfl, rfl⟩
         refine ⟨_, rfl, _, fun _ h => h, hHeld, fun hHeld => ?_⟩
         simp only [Act.put, puts]
         refine takeU (d := some 30) 27 rfl rfl hHeld (fun w' hS' => by have qS := hS'.cell; clear hS'; go_simp; (try rfl)) ?_
         simp only [puts]
         refine takeU (d := some 31) 28 rfl rfl hHeld (fun w' hS' => by have qS := hS'.cell; clear hS'; go_simp; (try rfl)) ?_
         simp only [puts]
         refine takeU (d := some 32) 29 rfl rfl hHeld (fun w' hS' => by have qS := hS'.cell; clear hS'; go_simp; (try rfl)) ?_
         simp only [puts]
         refine takeU (d := some 33) 30 rfl rfl hHeld (fun w' hS' => by have qS := hS'.cell; clear hS'; go_simp; (try rfl)) ?_
         simp only [puts]
         refine takeU (d := some 35) 32 rfl rfl hHeld (fun w' hS' => by have qS := hS'.cell; clear hS'; go_simp; (try rfl)) ?_
         simp only [puts]
         refine takeU (d := some 36) 33 rfl rfl hHeld (fun w' hS' => by have qS := hS'.cell; clear hS'; go_simp; (try rfl)) ?_
         simp only [puts]
         refine wpAnyH_call (d := some 34) 31 200 _ _ [flV ex] rfl rfl (by kernel_rfl) rfl (enters_of Tryz.func200 (by kernel_rfl) rfl) (by rfl) (by rfl) ?_
         refine (HA.out _).mono ?_; rintro e w5 ⟨rfl, rfl⟩
         refine ⟨_, rfl, _, fun _ h => h, hHeld, fun hHeld => ?_⟩
         simp only [Act.put, puts]
         refine wpAnyH_call (d := some 37) 34 120 _ _ [flV ex] rfl rfl (by kernel_rfl) rfl (enters_of Tryz.func120 (by kernel_rfl) rfl) (by rfl) (by rfl) ?_
         refine (HT.out _).mono ?_; rintro e w5 ⟨rfl, rfl⟩
         refine ⟨_, rfl, _, fun _ h => h, hHeld, fun hHeld => ?_⟩
         simp only [Act.put, puts]
         refine takeU (d := some 38) 35 rfl rfl hHeld (fun w' hS' => by have qS := hS'.cell; clear hS'; go_simp; (try rfl)) ?_
         simp only [puts]
         refine takeU (d := some 39) 36 rfl rfl hHeld (fun w' hS' => by have qS := hS'.cell; clear hS'; go_simp; (try rfl)) ?_
         simp only [puts]
         refine takeU (d := some 2) 37 rfl rfl hHeld (fun w' hS' => by have qS := hS'.cell; clear hS'; go_simp; (try rfl)) ?_
         simp only [puts]
         refine wpAnyH_done (by kernel_rfl) ?_ _
         go_wp2_with fail
         go_ret
         exact ⟨ret_bool (by simp [*] <;> omega), HB.out⟩
      · have e4 : decide (dp ≤ 3) = false := decide_eq_false h4
        skip
        go_enter Tryz.func136, Tryz.ntmps136
        go_wp2_with fail
        refine wp_region_held_drew (S := fun w' => Blk w' w.heap.size #[n, q, oc, dp, flV ex]) (by kernel_rfl) HK.out (fun hHeld => ?_)
        refine takeU (d := some 3) 0 rfl rfl hHeld (fun w' hS' => by have qS := hS'.cell; clear hS'; go_simp; (try rfl)) ?_
        simp only [puts]
        refine takeU (d := some 4) 1 rfl rfl hHeld (fun w' hS' => by have qS := hS'.cell; clear hS'; go_simp; (try rfl)) ?_
        simp only [puts]
        refine wpAnyH_call (d := some 5) 2 197 _ _ [.agg #[n, q]] rfl rfl (by kernel_rfl) rfl (enters_of Tryz.func197 (by kernel_rfl) rfl) (by rfl) (by rfl) ?_
        refine (HI.out _).mono ?_; rintro e w5 ⟨rfl, hb1⟩
        have HB := qq (below_then HB.out hb1); have hHeld := hHeld.below hb1
        refine ⟨_, rfl, _, fun _ h => h, hHeld, fun hHeld => ?_⟩
        simp only [Act.put, puts]
        refine takeU (d := some 6) 3 rfl rfl hHeld (fun w' hS' => by have qS := hS'.cell; clear hS'; go_simp; (try rfl)) ?_
        simp only [puts]
        refine takeU (d := some 7) 4 rfl rfl hHeld (fun w' hS' => by have qS := hS'.cell; clear hS'; go_simp; (try rfl)) ?_
        simp only [puts]
        refine takeU (d := some 8) 5 rfl rfl hHeld (fun w' hS' => by have qS := hS'.cell; clear hS'; go_simp; (try rfl)) ?_
        simp only [puts]
        refine takeU (d := some 9) 6 rfl rfl hHeld (fun w' hS' => by have qS := hS'.cell; clear hS'; go_simp; (try rfl)) ?_
        simp only [puts]
        refine takeU (d := some 10) 7 rfl rfl hHeld (fun w' hS' => by have qS := hS'.cell; clear hS'; go_simp; (try rfl)) ?_
        simp only [puts]
        refine skipT (d := some 11) 8 hHeld ?_
        simp only [puts]
        refine skipT (d := some 12) 9 hHeld ?_
        simp only [puts]
        refine skipT (d := some 13) 10 hHeld ?_
        simp only [puts]
        refine takeU (d := some 14) 11 rfl rfl hHeld (fun w' hS' => by have qS := hS'.cell; clear hS'; go_simp; (try rfl)) ?_
        simp only [puts]
        refine takeU (d := some 15) 12 rfl rfl hHeld (fun w' hS' => by have qS := hS'.cell; clear hS'; go_simp; (try rfl)) ?_
        simp only [puts]
        refine takeU (d := some 16) 13 rfl rfl hHeld (fun w' hS' => by have qS := hS'.cell; clear hS'; go_simp; (try rfl)) ?_
        simp only [puts]
        refine takeU (d := some 17) 14 rfl rfl hHeld (fun w' hS' => by have qS := hS'.cell; clear hS'; go_simp; (try rfl)) ?_
        simp only [puts]
        refine takeU (d := some 18) 15 rfl rfl hHeld (fun w' hS' => by have qS := hS'.cell; clear hS'; go_simp; (try rfl)) ?_
        simp only [puts]
        refine takeU (d := some 19) 16 rfl rfl hHeld (fun w' hS' => by have qS := hS'.cell; clear hS'; go_simp; (try rfl)) ?_
        simp only [puts]
        refine takeU (d := some 20) 17 rfl rfl hHeld (fun w' hS' => by have qS := hS'.cell; clear hS'; go_simp; (try rfl)) ?_
        simp only [puts]
        refine takeU (d := some 21) 18 rfl rfl hHeld (fun w' hS' => by have qS := hS'.cell; clear hS'; go_simp; (try rfl)) ?_
        simp only [puts]
        refine takeU (d := some 22) 19 rfl rfl hHeld (fun w' hS' => by have qS := hS'.cell; clear hS'; go_simp; (try rfl)) ?_
        simp only [puts]
        refine takeU (d := some 23) 20 rfl rfl hHeld (fun w' hS' => by have qS := hS'.cell; clear hS'; go_simp; (try rfl)) ?_
        simp only [puts]
        refine takeU (d := some 24) 21 rfl rfl hHeld (fun w' hS' => by have qS := hS'.cell; clear hS'; go_simp; (try rfl)) ?_
        simp only [puts]
        refine takeU (d := some 25) 22 rfl rfl hHeld (fun w' hS' => by have qS := hS'.cell; clear hS'; go_simp; (try rfl)) ?_
        simp only [puts]
        refine takeU (d := some 26) 23 rfl rfl hHeld (fun w' hS' => by have qS := hS'.cell; clear hS'; go_simp; (try rfl)) ?_
        simp only [puts]
        refine skipT (d := some 27) 24 hHeld ?_
        simp only [puts]
        refine skipT (d := some 28) 25 hHeld ?_
        simp only [puts]
        refine skipT (d := some 29) 26 hHeld ?_
        simp only [puts]
        refine takeU (d := some 30) 27 rfl rfl hHeld (fun w' hS' => by have qS := hS'.cell; clear hS'; go_simp; (try rfl)) ?_
        simp only [puts]
        refine takeU (d := some 31) 28 rfl rfl hHeld (fun w' hS' => by have qS := hS'.cell; clear hS'; go_simp; (try rfl)) ?_
        simp only [puts]
        refine skipT (d := some 32) 29 hHeld ?_
        simp only [puts]
        refine skipT (d := some 33) 30 hHeld ?_
        simp only [puts]
        refine skipT (d := some 34) 31 hHeld ?_
        simp only [puts]
        refine skipT (d := some 35) 32 hHeld ?_
        simp only [puts]
        refine skipT (d := some 36) 33 hHeld ?_
        simp only [puts]
        refine skipT (d := some 37) 34 hHeld ?_
        simp only [puts]
        refine skipT (d := some 38) 35 hHeld ?_
        simp only [puts]
        refine takeU (d := some 39) 36 rfl rfl hHeld (fun w' hS' => by have qS := hS'.cell; clear hS'; go_simp; (try rfl)) ?_
        simp only [puts]
        refine takeU (d := some 2) 37 rfl rfl hHeld (fun w' hS' => by have qS := hS'.cell; clear hS'; go_simp; (try rfl)) ?_
        simp only [puts]
        refine wpAnyH_done (by kernel_rfl) ?_ _
        go_wp2_with fail
        go_ret
        exact ⟨ret_bool (by simp [*] <;> omega), HB.out⟩
    · have e3 : decide (0 ≤ dp) = false := decide_eq_false h3
      skip
      go_enter Tryz.func136, Tryz.ntmps136
      go_wp2_with fail
      refine wp_region_held_drew (S := fun w' => Blk w' w.heap.size #[n, q, oc, dp, flV ex]) (by kernel_rfl) HK.out (fun hHeld => ?_)
      refine takeU (d := some 3) 0 rfl rfl hHeld (fun w' hS' => by have qS := hS'.cell; clear hS'; go_simp; (try rfl)) ?_
      simp only [puts]
      refine takeU (d := some 4) 1 rfl rfl hHeld (fun w' hS' => by have qS := hS'.cell; clear hS'; go_simp; (try rfl)) ?_
      simp only [puts]
      refine wpAnyH_call (d := some 5) 2 197 _ _ [.agg #[n, q]] rfl rfl (by kernel_rfl) rfl (enters_of Tryz.func197 (by kernel_rfl) rfl) (by rfl) (by rfl) ?_
      refine (HI.out _).mono ?_; rintro e w5 ⟨rfl, hb1⟩
      have HB := qq (below_then HB.out hb1); have hHeld := hHeld.below hb1
      refine ⟨_, rfl, _, fun _ h => h, hHeld, fun hHeld => ?_⟩
      simp only [Act.put, puts]
      refine takeU (d := some 6) 3 rfl rfl hHeld (fun w' hS' => by have qS := hS'.cell; clear hS'; go_simp; (try rfl)) ?_
      simp only [puts]
      refine takeU (d := some 7) 4 rfl rfl hHeld (fun w' hS' => by have qS := hS'.cell; clear hS'; go_simp; (try rfl)) ?_
      simp only [puts]
      refine takeU (d := some 8) 5 rfl rfl hHeld (fun w' hS' => by have qS := hS'.cell; clear hS'; go_simp; (try rfl)) ?_
      simp only [puts]
      refine takeU (d := some 9) 6 rfl rfl hHeld (fun w' hS' => by have qS := hS'.cell; clear hS'; go_simp; (try rfl)) ?_
      simp only [puts]
      refine takeU (d := some 10) 7 rfl rfl hHeld (fun w' hS' => by have qS := hS'.cell; clear hS'; go_simp; (try rfl)) ?_
      simp only [puts]
      refine skipT (d := some 11) 8 hHeld ?_
      simp only [puts]
      refine skipT (d := some 12) 9 hHeld ?_
      simp only [puts]
      refine skipT (d := some 13) 10 hHeld ?_
      simp only [puts]
      refine takeU (d := some 14) 11 rfl rfl hHeld (fun w' hS' => by have qS := hS'.cell; clear hS'; go_simp; (try rfl)) ?_
      simp only [puts]
      refine takeU (d := some 15) 12 rfl rfl hHeld (fun w' hS' => by have qS := hS'.cell; clear hS'; go_simp; (try rfl)) ?_
      simp only [puts]
      refine takeU (d := some 16) 13 rfl rfl hHeld (fun w' hS' => by have qS := hS'.cell; clear hS'; go_simp; (try rfl)) ?_
      simp only [puts]
      refine takeU (d := some 17) 14 rfl rfl hHeld (fun w' hS' => by have qS := hS'.cell; clear hS'; go_simp; (try rfl)) ?_
      simp only [puts]
      refine takeU (d := some 18) 15 rfl rfl hHeld (fun w' hS' => by have qS := hS'.cell; clear hS'; go_simp; (try rfl)) ?_
      simp only [puts]
      refine takeU (d := some 19) 16 rfl rfl hHeld (fun w' hS' => by have qS := hS'.cell; clear hS'; go_simp; (try rfl)) ?_
      simp only [puts]
      refine takeU (d := some 20) 17 rfl rfl hHeld (fun w' hS' => by have qS := hS'.cell; clear hS'; go_simp; (try rfl)) ?_
      simp only [puts]
      refine takeU (d := some 21) 18 rfl rfl hHeld (fun w' hS' => by have qS := hS'.cell; clear hS'; go_simp; (try rfl)) ?_
      simp only [puts]
      refine skipT (d := some 22) 19 hHeld ?_
      simp only [puts]
      refine skipT (d := some 23) 20 hHeld ?_
      simp only [puts]
      refine skipT (d := some 24) 21 hHeld ?_
      simp only [puts]
      refine takeU (d := some 25) 22 rfl rfl hHeld (fun w' hS' => by have qS := hS'.cell; clear hS'; go_simp; (try rfl)) ?_
      simp only [puts]
      refine takeU (d := some 26) 23 rfl rfl hHeld (fun w' hS' => by have qS := hS'.cell; clear hS'; go_simp; (try rfl)) ?_
      simp only [puts]
      refine skipT (d := some 27) 24 hHeld ?_
      simp only [puts]
      refine skipT (d := some 28) 25 hHeld ?_
      simp only [puts]
      refine skipT (d := some 29) 26 hHeld ?_
      simp only [puts]
      refine takeU (d := some 30) 27 rfl rfl hHeld (fun w' hS' => by have qS := hS'.cell; clear hS'; go_simp; (try rfl)) ?_
      simp only [puts]
      refine takeU (d := some 31) 28 rfl rfl hHeld (fun w' hS' => by have qS := hS'.cell; clear hS'; go_simp; (try rfl)) ?_
      simp only [puts]
      refine skipT (d := some 32) 29 hHeld ?_
      simp only [puts]
      refine skipT (d := some 33) 30 hHeld ?_
      simp only [puts]
      refine skipT (d := some 34) 31 hHeld ?_
      simp only [puts]
      refine skipT (d := some 35) 32 hHeld ?_
      simp only [puts]
      refine skipT (d := some 36) 33 hHeld ?_
      simp only [puts]
      refine skipT (d := some 37) 34 hHeld ?_
      simp only [puts]
      refine skipT (d := some 38) 35 hHeld ?_
      simp only [puts]
      refine takeU (d := some 39) 36 rfl rfl hHeld (fun w' hS' => by have qS := hS'.cell; clear hS'; go_simp; (try rfl)) ?_
      simp only [puts]
      refine takeU (d := some 2) 37 rfl rfl hHeld (fun w' hS' => by have qS := hS'.cell; clear hS'; go_simp; (try rfl)) ?_
      simp only [puts]
      refine wpAnyH_done (by kernel_rfl) ?_ _
      go_wp2_with fail
      go_ret
      exact ⟨ret_bool (by simp [*] <;> omega), HB.out⟩
  · have e1 : (oc == 1) = false := by simpa using h1
    by_cases h2 : oc = 2
    · have e2 : (oc == 2) = true := by simpa using h2
      rw [show decide ((oc = 1 ∨ oc = 2) ∧ 0 ≤ dp ∧ dp ≤ 3) = decide (0 ≤ dp ∧ dp ≤ 3) from decide_eq_decide.2 ⟨fun x => x.2, fun x => ⟨.inr h2, x⟩⟩]
      clear h1 h2
      by_cases h3 : 0 ≤ dp
      · by_cases h4 : dp ≤ 3
        · cases bd with
          | false =>
           skip
           go_enter Tryz.func136, Tryz.ntmps136
           go_wp2_with fail
           refine wp_region_held_drew (S := fun w' => Blk w' w.heap.size #[n, q, oc, dp, flV ex]) (by kernel_rfl) HK.out (fun hHeld => ?_)
           refine takeU (d := some 3) 0 rfl rfl hHeld (fun w' hS' => by have qS := hS'.cell; clear hS'; go_simp; (try rfl)) ?_
           simp only [puts]
           refine takeU (d := some 4) 1 rfl rfl hHeld (fun w' hS' => by have qS := hS'.cell; clear hS'; go_simp; (try rfl)) ?_
           simp only [puts]
           refine wpAnyH_call (d := some 5) 2 197 _ _ [.agg #[n, q]] rfl rfl (by kernel_rfl) rfl (enters_of Tryz.func197 (by kernel_rfl) rfl) (by rfl) (by rfl) ?_
           refine (HI.out _).mono ?_; rintro e w5 ⟨rfl, hb1⟩
           have HB := qq (below_then HB.out hb1); have hHeld := hHeld.below hb1
           refine ⟨_, rfl, _, fun _ h => h, hHeld, fun hHeld => ?_⟩
           simp only [Act.put, puts]
           refine takeU (d := some 6) 3 rfl rfl hHeld (fun w' hS' => by have qS := hS'.cell; clear hS'; go_simp; (try rfl)) ?_
           simp only [puts]
           refine takeU (d := some 7) 4 rfl rfl hHeld (fun w' hS' => by have qS := hS'.cell; clear hS'; go_simp; (try rfl)) ?_
           simp only [puts]
           refine takeU (d := some 8) 5 rfl rfl hHeld (fun w' hS' => by have qS := hS'.cell; clear hS'; go_simp; (try rfl)) ?_
           simp only [puts]
           refine takeU (d := some 9) 6 rfl rfl hHeld (fun w' hS' => by have qS := hS'.cell; clear hS'; go_simp; (try rfl)) ?_
           simp only [puts]
           refine takeU (d := some 10) 7 rfl rfl hHeld (fun w' hS' => by have qS := hS'.cell; clear hS'; go_simp; (try rfl)) ?_
           simp only [puts]
           refine takeU (d := some 11) 8 rfl rfl hHeld (fun w' hS' => by have qS := hS'.cell; clear hS'; go_simp; (try rfl)) ?_
           simp only [puts]
           refine takeU (d := some 12) 9 rfl rfl hHeld (fun w' hS' => by have qS := hS'.cell; clear hS'; go_simp; (try rfl)) ?_
           simp only [puts]
           refine takeU (d := some 13) 10 rfl rfl hHeld (fun w' hS' => by have qS := hS'.cell; clear hS'; go_simp; (try rfl)) ?_
           simp only [puts]
           refine takeU (d := some 14) 11 rfl rfl hHeld (fun w' hS' => by have qS := hS'.cell; clear hS'; go_simp; (try rfl)) ?_
           simp only [puts]
           refine takeU (d := some 15) 12 rfl rfl hHeld (fun w' hS' => by have qS := hS'.cell; clear hS'; go_simp; (try rfl)) ?_
           simp only [puts]
           refine takeU (d := some 16) 13 rfl rfl hHeld (fun w' hS' => by have qS := hS'.cell; clear hS'; go_simp; (try rfl)) ?_
           simp only [puts]
           refine takeU (d := some 17) 14 rfl rfl hHeld (fun w' hS' => by have qS := hS'.cell; clear hS'; go_simp; (try rfl)) ?_
           simp only [puts]
           refine takeU (d := some 18) 15 rfl rfl hHeld (fun w' hS' => by have qS := hS'.cell; clear hS'; go_simp; (try rfl)) ?_
           simp only [puts]
           refine takeU (d := some 19) 16 rfl rfl hHeld (fun w' hS' => by have qS := hS'.cell; clear hS'; go_simp; (try rfl)) ?_
           simp only [puts]
           refine takeU (d := some 20) 17 rfl rfl hHeld (fun w' hS' => by have qS := hS'.cell; clear hS'; go_simp; (try rfl)) ?_
           simp only [puts]
           refine takeU (d := some 21) 18 rfl rfl hHeld (fun w' hS' => by have qS := hS'.cell; clear hS'; go_simp; (try rfl)) ?_
           simp only [puts]
           refine takeU (d := some 22) 19 rfl rfl hHeld (fun w' hS' => by have qS := hS'.cell; clear hS'; go_simp; (try rfl)) ?_
           simp only [puts]
           refine takeU (d := some 23) 20 rfl rfl hHeld (fun w' hS' => by have qS := hS'.cell; clear hS'; go_simp; (try rfl)) ?_
           simp only [puts]
           refine takeU (d := some 24) 21 rfl rfl hHeld (fun w' hS' => by have qS := hS'.cell; clear hS'; go_simp; (try rfl)) ?_
           simp only [puts]
           refine takeU (d := some 25) 22 rfl rfl hHeld (fun w' hS' => by have qS := hS'.cell; clear hS'; go_simp; (try rfl)) ?_
           simp only [puts]
           refine takeU (d := some 26) 23 rfl rfl hHeld (fun w' hS' => by have qS := hS'.cell; clear hS'; go_simp; (try rfl)) ?_
           simp only [puts]
           refine takeU (d := some 27) 24 rfl rfl hHeld (fun w' hS' => by have qS := hS'.cell; clear hS'; go_simp; (try rfl)) ?_
           simp only [puts]
           refine takeU (d := some 28) 25 rfl rfl hHeld (fun w' hS' => by have qS := hS'.cell; clear hS'; go_simp; (try rfl)) ?_
           simp only [puts]
           refine wpAnyH_call (d := some 29) 26 223 _ _ [flV ex] rfl rfl (by kernel_rfl) rfl (enters_of Tryz.func223 (by kernel_rfl) rfl) (by rfl) (by rfl) ?_
           refine (HD.out _).mono ?_; rintro e w5 ⟨rfl, rfl⟩
           refine ⟨_, rfl, _, fun _ h => h, hHeld, fun hHeld => ?_⟩
           simp only [Act.put, puts]
           refine takeU (d := some 30) 27 rfl rfl hHeld (fun w' hS' => by have qS := hS'.cell; clear hS'; go_simp; (try rfl)) ?_
           simp only [puts]
           refine takeU (d := some 31) 28 rfl rfl hHeld (fun w' hS' => by have qS := hS'.cell; clear hS'; go_simp; (try rfl)) ?_
           simp only [puts]
           refine skipT (d := some 32) 29 hHeld ?_
           simp only [puts]
           refine skipT (d := some 33) 30 hHeld ?_
           simp only [puts]
           refine skipT (d := some 34) 31 hHeld ?_
           simp only [puts]
           refine skipT (d := some 35) 32 hHeld ?_
           simp only [puts]
           refine skipT (d := some 36) 33 hHeld ?_
           simp only [puts]
           refine skipT (d := some 37) 34 hHeld ?_
           simp only [puts]
           refine skipT (d := some 38) 35 hHeld ?_
           simp only [puts]
           refine takeU (d := some 39) 36 rfl rfl hHeld (fun w' hS' => by have qS := hS'.cell; clear hS'; go_simp; (try rfl)) ?_
           simp only [puts]
           refine takeU (d := some 2) 37 rfl rfl hHeld (fun w' hS' => by have qS := hS'.cell; clear hS'; go_simp; (try rfl)) ?_
           simp only [puts]
           refine wpAnyH_done (by kernel_rfl) ?_ _
           go_wp2_with fail
           go_ret
           exact ⟨ret_bool (by simp [*] <;> omega), HB.out⟩
          | true =>
           skip
           go_enter Tryz.func136, Tryz.ntmps136
           go_wp2_with fail
           refine wp_region_held_drew (S := fun w' => Blk w' w.heap.size #[n, q, oc, dp, flV ex]) (by kernel_rfl) HK.out (fun hHeld => ?_)
           refine takeU (d := some 3) 0 rfl rfl hHeld (fun w' hS' => by have qS := hS'.cell; clear hS'; go_simp; (try rfl)) ?_
           simp only [puts]
           refine takeU (d := some 4) 1 rfl rfl hHeld (fun w' hS' => by have qS := hS'.cell; clear hS'; go_simp; (try rfl)) ?_
           simp only [puts]
           refine wpAnyH_call (d := some 5) 2 197 _ _ [.agg #[n, q]] rfl rfl (by kernel_rfl) rfl (enters_of Tryz.func197 (by kernel_rfl) rfl) (by rfl) (by rfl) ?_
           refine (HI.out _).mono ?_; rintro e w5 ⟨rfl, hb1⟩
           have HB := qq (below_then HB.out hb1); have hHeld := hHeld.below hb1
           refine ⟨_, rfl, _, fun _ h => h, hHeld, fun hHeld => ?_⟩
           simp only [Act.put, puts]
           refine takeU (d := some 6) 3 rfl rfl hHeld (fun w' hS' => by have qS := hS'.cell; clear hS'; go_simp; (try rfl)) ?_
           simp only [puts]
           refine takeU (d := some 7) 4 rfl rfl hHeld (fun w' hS' => by have qS := hS'.cell; clear hS'; go_simp; (try rfl)) ?_
           simp only [puts]
           refine takeU (d := some 8) 5 rfl rfl hHeld (fun w' hS' => by have qS := hS'.cell; clear hS'; go_simp; (try rfl)) ?_
           simp only [puts]
           refine takeU (d := some 9) 6 rfl rfl hHeld (fun w' hS' => by have qS := hS'.cell; clear hS'; go_simp; (try rfl)) ?_
           simp only [puts]
           refine takeU (d := some 10) 7 rfl rfl hHeld (fun w' hS' => by have qS := hS'.cell; clear hS'; go_simp; (try rfl)) ?_
           simp only [puts]
           refine takeU (d := some 11) 8 rfl rfl hHeld (fun w' hS' => by have qS := hS'.cell; clear hS'; go_simp; (try rfl)) ?_
           simp only [puts]
           refine takeU (d := some 12) 9 rfl rfl hHeld (fun w' hS' => by have qS := hS'.cell; clear hS'; go_simp; (try rfl)) ?_
           simp only [puts]
           refine takeU (d := some 13) 10 rfl rfl hHeld (fun w' hS' => by have qS := hS'.cell; clear hS'; go_simp; (try rfl)) ?_
           simp only [puts]
           refine takeU (d := some 14) 11 rfl rfl hHeld (fun w' hS' => by have qS := hS'.cell; clear hS'; go_simp; (try rfl)) ?_
           simp only [puts]
           refine takeU (d := some 15) 12 rfl rfl hHeld (fun w' hS' => by have qS := hS'.cell; clear hS'; go_simp; (try rfl)) ?_
           simp only [puts]
           refine takeU (d := some 16) 13 rfl rfl hHeld (fun w' hS' => by have qS := hS'.cell; clear hS'; go_simp; (try rfl)) ?_
           simp only [puts]
           refine takeU (d := some 17) 14 rfl rfl hHeld (fun w' hS' => by have qS := hS'.cell; clear hS'; go_simp; (try rfl)) ?_
           simp only [puts]
           refine takeU (d := some 18) 15 rfl rfl hHeld (fun w' hS' => by have qS := hS'.cell; clear hS'; go_simp; (try rfl)) ?_
           simp only [puts]
           refine takeU (d := some 19) 16 rfl rfl hHeld (fun w' hS' => by have qS := hS'.cell; clear hS'; go_simp; (try rfl)) ?_
           simp only [puts]
           refine takeU (d := some 20) 17 rfl rfl hHeld (fun w' hS' => by have qS := hS'.cell; clear hS'; go_simp; (try rfl)) ?_
           simp only [puts]
           refine takeU (d := some 21) 18 rfl rfl hHeld (fun w' hS' => by have qS := hS'.cell; clear hS'; go_simp; (try rfl)) ?_
           simp only [puts]
           refine takeU (d := some 22) 19 rfl rfl hHeld (fun w' hS' => by have qS := hS'.cell; clear hS'; go_simp; (try rfl)) ?_
           simp only [puts]
           refine takeU (d := some 23) 20 rfl rfl hHeld (fun w' hS' => by have qS := hS'.cell; clear hS'; go_simp; (try rfl)) ?_
           simp only [puts]
           refine takeU (d := some 24) 21 rfl rfl hHeld (fun w' hS' => by have qS := hS'.cell; clear hS'; go_simp; (try rfl)) ?_
           simp only [puts]
           refine takeU (d := some 25) 22 rfl rfl hHeld (fun w' hS' => by have qS := hS'.cell; clear hS'; go_simp; (try rfl)) ?_
           simp only [puts]
           refine takeU (d := some 26) 23 rfl rfl hHeld (fun w' hS' => by have qS := hS'.cell; clear hS'; go_simp; (try rfl)) ?_
           simp only [puts]
           refine takeU (d := some 27) 24 rfl rfl hHeld (fun w' hS' => by have qS := hS'.cell; clear hS'; go_simp; (try rfl)) ?_
           simp only [puts]
           refine takeU (d := some 28) 25 rfl rfl hHeld (fun w' hS' => by have qS := hS'.cell; clear hS'; go_simp; (try rfl)) ?_
           simp only [puts]
           refine wpAnyH_call (d := some 29) 26 223 _ _ [flV ex] rfl rfl (by kernel_rfl) rfl (enters_of Tryz.func223 (by kernel_rfl) rfl) (by rfl) (by rfl) ?_
           refine (HD.out _).mono ?_; rintro e w5 ⟨rfl, rfl⟩
           refine ⟨_, rfl, _, fun _ h => h, hHeld, fun hHeld => ?_⟩
           simp only [Act.put, puts]
           refine takeU (d := some 30) 27 rfl rfl hHeld (fun w' hS' => by have qS := hS'.cell; clear hS'; go_simp; (try rfl)) ?_
           simp only [puts]
           refine takeU (d := some 31) 28 rfl rfl hHeld (fun w' hS' => by have qS := hS'.cell; clear hS'; go_simp; (try rfl)) ?_
           simp only [puts]
           refine takeU (d := some 32) 29 rfl rfl hHeld (fun w' hS' => by have qS := hS'.cell; clear hS'; go_simp; (try rfl)) ?_
           simp only [puts]
           refine takeU (d := some 33) 30 rfl rfl hHeld (fun w' hS' => by have qS := hS'.cell; clear hS'; go_simp; (try rfl)) ?_
           simp only [puts]
           refine takeU (d := some 35) 32 rfl rfl hHeld (fun w' hS' => by have qS := hS'.cell; clear hS'; go_simp; (try rfl)) ?_
           simp only [puts]
           refine takeU (d := some 36) 33 rfl rfl hHeld (fun w' hS' => by have qS := hS'.cell; clear hS'; go_simp; (try rfl)) ?_
           simp only [puts]
           refine wpAnyH_call (d := some 34) 31 200 _ _ [flV ex] rfl rfl (by kernel_rfl) rfl (enters_of Tryz.func200 (by kernel_rfl) rfl) (by rfl) (by rfl) ?_
           refine (HA.out _).mono ?_; rintro e w5 ⟨rfl, rfl⟩
           refine ⟨_, rfl, _, fun _ h => h, hHeld, fun hHeld => ?_⟩
           simp only [Act.put, puts]
           refine wpAnyH_call (d := some 37) 34 120 _ _ [flV ex] rfl rfl (by kernel_rfl) rfl (enters_of Tryz.func120 (by kernel_rfl) rfl) (by rfl) (by rfl) ?_
           refine (HT.out _).mono ?_; rintro e w5 ⟨rfl, rfl⟩
           refine ⟨_, rfl, _, fun _ h => h, hHeld, fun hHeld => ?_⟩
           simp only [Act.put, puts]
           refine takeU (d := some 38) 35 rfl rfl hHeld (fun w' hS' => by have qS := hS'.cell; clear hS'; go_simp; (try rfl)) ?_
           simp only [puts]
           refine takeU (d := some 39) 36 rfl rfl hHeld (fun w' hS' => by have qS := hS'.cell; clear hS'; go_simp; (try rfl)) ?_
           simp only [puts]
           refine takeU (d := some 2) 37 rfl rfl hHeld (fun w' hS' => by have qS := hS'.cell; clear hS'; go_simp; (try rfl)) ?_
           simp only [puts]
           refine wpAnyH_done (by kernel_rfl) ?_ _
           go_wp2_with fail
           go_ret
           exact ⟨ret_bool (by simp [*] <;> omega), HB.out⟩
        · have e4 : decide (dp ≤ 3) = false := decide_eq_false h4
          skip
          go_enter Tryz.func136, Tryz.ntmps136
          go_wp2_with fail
          refine wp_region_held_drew (S := fun w' => Blk w' w.heap.size #[n, q, oc, dp, flV ex]) (by kernel_rfl) HK.out (fun hHeld => ?_)
          refine takeU (d := some 3) 0 rfl rfl hHeld (fun w' hS' => by have qS := hS'.cell; clear hS'; go_simp; (try rfl)) ?_
          simp only [puts]
          refine takeU (d := some 4) 1 rfl rfl hHeld (fun w' hS' => by have qS := hS'.cell; clear hS'; go_simp; (try rfl)) ?_
          simp only [puts]
          refine wpAnyH_call (d := some 5) 2 197 _ _ [.agg #[n, q]] rfl rfl (by kernel_rfl) rfl (enters_of Tryz.func197 (by kernel_rfl) rfl) (by rfl) (by rfl) ?_
          refine (HI.out _).mono ?_; rintro e w5 ⟨rfl, hb1⟩
          have HB := qq (below_then HB.out hb1); have hHeld := hHeld.below hb1
          refine ⟨_, rfl, _, fun _ h => h, hHeld, fun hHeld => ?_⟩
          simp only [Act.put, puts]
          refine takeU (d := some 6) 3 rfl rfl hHeld (fun w' hS' => by have qS := hS'.cell; clear hS'; go_simp; (try rfl)) ?_
          simp only [puts]
          refine takeU (d := some 7) 4 rfl rfl hHeld (fun w' hS' => by have qS := hS'.cell; clear hS'; go_simp; (try rfl)) ?_
          simp only [puts]
          refine takeU (d := some 8) 5 rfl rfl hHeld (fun w' hS' => by have qS := hS'.cell; clear hS'; go_simp; (try rfl)) ?_
          simp only [puts]
          refine takeU (d := some 9) 6 rfl rfl hHeld (fun w' hS' => by have qS := hS'.cell; clear hS'; go_simp; (try rfl)) ?_
          simp only [puts]
          refine takeU (d := some 10) 7 rfl rfl hHeld (fun w' hS' => by have qS := hS'.cell; clear hS'; go_simp; (try rfl)) ?_
          simp only [puts]
          refine takeU (d := some 11) 8 rfl rfl hHeld (fun w' hS' => by have qS := hS'.cell; clear hS'; go_simp; (try rfl)) ?_
          simp only [puts]
          refine takeU (d := some 12) 9 rfl rfl hHeld (fun w' hS' => by have qS := hS'.cell; clear hS'; go_simp; (try rfl)) ?_
          simp only [puts]
          refine takeU (d := some 13) 10 rfl rfl hHeld (fun w' hS' => by have qS := hS'.cell; clear hS'; go_simp; (try rfl)) ?_
          simp only [puts]
          refine takeU (d := some 14) 11 rfl rfl hHeld (fun w' hS' => by have qS := hS'.cell; clear hS'; go_simp; (try rfl)) ?_
          simp only [puts]
          refine takeU (d := some 15) 12 rfl rfl hHeld (fun w' hS' => by have qS := hS'.cell; clear hS'; go_simp; (try rfl)) ?_
          simp only [puts]
          refine takeU (d := some 16) 13 rfl rfl hHeld (fun w' hS' => by have qS := hS'.cell; clear hS'; go_simp; (try rfl)) ?_
          simp only [puts]
          refine takeU (d := some 17) 14 rfl rfl hHeld (fun w' hS' => by have qS := hS'.cell; clear hS'; go_simp; (try rfl)) ?_
          simp only [puts]
          refine takeU (d := some 18) 15 rfl rfl hHeld (fun w' hS' => by have qS := hS'.cell; clear hS'; go_simp; (try rfl)) ?_
          simp only [puts]
          refine takeU (d := some 19) 16 rfl rfl hHeld (fun w' hS' => by have qS := hS'.cell; clear hS'; go_simp; (try rfl)) ?_
          simp only [puts]
          refine takeU (d := some 20) 17 rfl rfl hHeld (fun w' hS' => by have qS := hS'.cell; clear hS'; go_simp; (try rfl)) ?_
          simp only [puts]
          refine takeU (d := some 21) 18 rfl rfl hHeld (fun w' hS' => by have qS := hS'.cell; clear hS'; go_simp; (try rfl)) ?_
          simp only [puts]
          refine takeU (d := some 22) 19 rfl rfl hHeld (fun w' hS' => by have qS := hS'.cell; clear hS'; go_simp; (try rfl)) ?_
          simp only [puts]
          refine takeU (d := some 23) 20 rfl rfl hHeld (fun w' hS' => by have qS := hS'.cell; clear hS'; go_simp; (try rfl)) ?_
          simp only [puts]
          refine takeU (d := some 24) 21 rfl rfl hHeld (fun w' hS' => by have qS := hS'.cell; clear hS'; go_simp; (try rfl)) ?_
          simp only [puts]
          refine takeU (d := some 25) 22 rfl rfl hHeld (fun w' hS' => by have qS := hS'.cell; clear hS'; go_simp; (try rfl)) ?_
          simp only [puts]
          refine takeU (d := some 26) 23 rfl rfl hHeld (fun w' hS' => by have qS := hS'.cell; clear hS'; go_simp; (try rfl)) ?_
          simp only [puts]
          refine skipT (d := some 27) 24 hHeld ?_
          simp only [puts]
          refine skipT (d := some 28) 25 hHeld ?_
          simp only [puts]
          refine skipT (d := some 29) 26 hHeld ?_
          simp only [puts]
          refine takeU (d := some 30) 27 rfl rfl hHeld (fun w' hS' => by have qS := hS'.cell; clear hS'; go_simp; (try rfl)) ?_
          simp only [puts]
          refine takeU (d := some 31) 28 rfl rfl hHeld (fun w' hS' => by have qS := hS'.cell; clear hS'; go_simp; (try rfl)) ?_
          simp only [puts]
          refine skipT (d := some 32) 29 hHeld ?_
          simp only [puts]
          refine skipT (d := some 33) 30 hHeld ?_
          simp only [puts]
          refine skipT (d := some 34) 31 hHeld ?_
          simp only [puts]
          refine skipT (d := some 35) 32 hHeld ?_
          simp only [puts]
          refine skipT (d := some 36) 33 hHeld ?_
          simp only [puts]
          refine skipT (d := some 37) 34 hHeld ?_
          simp only [puts]
          refine skipT (d := some 38) 35 hHeld ?_
          simp only [puts]
          refine takeU (d := some 39) 36 rfl rfl hHeld (fun w' hS' => by have qS := hS'.cell; clear hS'; go_simp; (try rfl)) ?_
          simp only [puts]
          refine takeU (d := some 2) 37 rfl rfl hHeld (fun w' hS' => by have qS := hS'.cell; clear hS'; go_simp; (try rfl)) ?_
          simp only [puts]
          refine wpAnyH_done (by kernel_rfl) ?_ _
          go_wp2_with fail
          go_ret
          exact ⟨ret_bool (by simp [*] <;> omega), HB.out⟩
      · have e3 : decide (0 ≤ dp) = false := decide_eq_false h3
        skip
        go_enter Tryz.func136, Tryz.ntmps136
        go_wp2_with fail
        refine wp_region_held_drew (S := fun w' => Blk w' w.heap.size #[n, q, oc, dp, flV ex]) (by kernel_rfl) HK.out (fun hHeld => ?_)
        refine takeU (d := some 3) 0 rfl rfl hHeld (fun w' hS' => by have qS := hS'.cell; clear hS'; go_simp; (try rfl)) ?_
        simp only [puts]
        refine takeU (d := some 4) 1 rfl rfl hHeld (fun w' hS' => by have qS := hS'.cell; clear hS'; go_simp; (try rfl)) ?_
        simp only [puts]
        refine wpAnyH_call (d := some 5) 2 197 _ _ [.agg #[n, q]] rfl rfl (by kernel_rfl) rfl (enters_of Tryz.func197 (by kernel_rfl) rfl) (by rfl) (by rfl) ?_
        refine (HI.out _).mono ?_; rintro e w5 ⟨rfl, hb1⟩
        have HB := qq (below_then HB.out hb1); have hHeld := hHeld.below hb1
        refine ⟨_, rfl, _, fun _ h => h, hHeld, fun hHeld => ?_⟩
        simp only [Act.put, puts]
        refine takeU (d := some 6) 3 rfl rfl hHeld (fun w' hS' => by have qS := hS'.cell; clear hS'; go_simp; (try rfl)) ?_
        simp only [puts]
        refine takeU (d := some 7) 4 rfl rfl hHeld (fun w' hS' => by have qS := hS'.cell; clear hS'; go_simp; (try rfl)) ?_
        simp only [puts]
        refine takeU (d := some 8) 5 rfl rfl hHeld (fun w' hS' => by have qS := hS'.cell; clear hS'; go_simp; (try rfl)) ?_
        simp only [puts]
        refine takeU (d := some 9) 6 rfl rfl hHeld (fun w' hS' => by have qS := hS'.cell; clear hS'; go_simp; (try rfl)) ?_
        simp only [puts]
        refine takeU (d := some 10) 7 rfl rfl hHeld (fun w' hS' => by have qS := hS'.cell; clear hS'; go_simp; (try rfl)) ?_
        simp only [puts]
        refine takeU (d := some 11) 8 rfl rfl hHeld (fun w' hS' => by have qS := hS'.cell; clear hS'; go_simp; (try rfl)) ?_
        simp only [puts]
        refine takeU (d := some 12) 9 rfl rfl hHeld (fun w' hS' => by have qS := hS'.cell; clear hS'; go_simp; (try rfl)) ?_
        simp only [puts]
        refine takeU (d := some 13) 10 rfl rfl hHeld (fun w' hS' => by have qS := hS'.cell; clear hS'; go_simp; (try rfl)) ?_
        simp only [puts]
        refine takeU (d := some 14) 11 rfl rfl hHeld (fun w' hS' => by have qS := hS'.cell; clear hS'; go_simp; (try rfl)) ?_
        simp only [puts]
        refine takeU (d := some 15) 12 rfl rfl hHeld (fun w' hS' => by have qS := hS'.cell; clear hS'; go_simp; (try rfl)) ?_
        simp only [puts]
        refine takeU (d := some 16) 13 rfl rfl hHeld (fun w' hS' => by have qS := hS'.cell; clear hS'; go_simp; (try rfl)) ?_
        simp only [puts]
        refine takeU (d := some 17) 14 rfl rfl hHeld (fun w' hS' => by have qS := hS'.cell; clear hS'; go_simp; (try rfl)) ?_
        simp only [puts]
        refine takeU (d := some 18) 15 rfl rfl hHeld (fun w' hS' => by have qS := hS'.cell; clear hS'; go_simp; (try rfl)) ?_
        simp only [puts]
        refine takeU (d := some 19) 16 rfl rfl hHeld (fun w' hS' => by have qS := hS'.cell; clear hS'; go_simp; (try rfl)) ?_
        simp only [puts]
        refine takeU (d := some 20) 17 rfl rfl hHeld (fun w' hS' => by have qS := hS'.cell; clear hS'; go_simp; (try rfl)) ?_
        simp only [puts]
        refine takeU (d := some 21) 18 rfl rfl hHeld (fun w' hS' => by have qS := hS'.cell; clear hS'; go_simp; (try rfl)) ?_
        simp only [puts]
        refine skipT (d := some 22) 19 hHeld ?_
        simp only [puts]
        refine skipT (d := some 23) 20 hHeld ?_
        simp only [puts]
        refine skipT (d := some 24) 21 hHeld ?_
        simp only [puts]
        refine takeU (d := some 25) 22 rfl rfl hHeld (fun w' hS' => by have qS := hS'.cell; clear hS'; go_simp; (try rfl)) ?_
        simp only [puts]
        refine takeU (d := some 26) 23 rfl rfl hHeld (fun w' hS' => by have qS := hS'.cell; clear hS'; go_simp; (try rfl)) ?_
        simp only [puts]
        refine skipT (d := some 27) 24 hHeld ?_
        simp only [puts]
        refine skipT (d := some 28) 25 hHeld ?_
        simp only [puts]
        refine skipT (d := some 29) 26 hHeld ?_
        simp only [puts]
        refine takeU (d := some 30) 27 rfl rfl hHeld (fun w' hS' => by have qS := hS'.cell; clear hS'; go_simp; (try rfl)) ?_
        simp only [puts]
        refine takeU (d := some 31) 28 rfl rfl hHeld (fun w' hS' => by have qS := hS'.cell; clear hS'; go_simp; (try rfl)) ?_
        simp only [puts]
        refine skipT (d := some 32) 29 hHeld ?_
        simp only [puts]
        refine skipT (d := some 33) 30 hHeld ?_
        simp only [puts]
        refine skipT (d := some 34) 31 hHeld ?_
        simp only [puts]
        refine skipT (d := some 35) 32 hHeld ?_
        simp only [puts]
        refine skipT (d := some 36) 33 hHeld ?_
        simp only [puts]
        refine skipT (d := some 37) 34 hHeld ?_
        simp only [puts]
        refine skipT (d := some 38) 35 hHeld ?_
        simp only [puts]
        refine takeU (d := some 39) 36 rfl rfl hHeld (fun w' hS' => by have qS := hS'.cell; clear hS'; go_simp; (try rfl)) ?_
        simp only [puts]
        refine takeU (d := some 2) 37 rfl rfl hHeld (fun w' hS' => by have qS := hS'.cell; clear hS'; go_simp; (try rfl)) ?_
        simp only [puts]
        refine wpAnyH_done (by kernel_rfl) ?_ _
        go_wp2_with fail
        go_ret
        exact ⟨ret_bool (by simp [*] <;> omega), HB.out⟩
    · have e2 : (oc == 2) = false := by simpa using h2
      rw [decide_eq_false (fun x : (oc = 1 ∨ oc = 2) ∧ 0 ≤ dp ∧ dp ≤ 3 => x.1.elim h1 h2)]
      clear h1 h2
      skip
      go_enter Tryz.func136, Tryz.ntmps136
      go_wp2_with fail
      refine wp_region_held_drew (S := fun w' => Blk w' w.heap.size #[n, q, oc, dp, flV ex]) (by kernel_rfl) HK.out (fun hHeld => ?_)
      refine takeU (d := some 3) 0 rfl rfl hHeld (fun w' hS' => by have qS := hS'.cell; clear hS'; go_simp; (try rfl)) ?_
      simp only [puts]
      refine takeU (d := some 4) 1 rfl rfl hHeld (fun w' hS' => by have qS := hS'.cell; clear hS'; go_simp; (try rfl)) ?_
      simp only [puts]
      refine wpAnyH_call (d := some 5) 2 197 _ _ [.agg #[n, q]] rfl rfl (by kernel_rfl) rfl (enters_of Tryz.func197 (by kernel_rfl) rfl) (by rfl) (by rfl) ?_
      refine (HI.out _).mono ?_; rintro e w5 ⟨rfl, hb1⟩
      have HB := qq (below_then HB.out hb1); have hHeld := hHeld.below hb1
      refine ⟨_, rfl, _, fun _ h => h, hHeld, fun hHeld => ?_⟩
      simp only [Act.put, puts]
      refine takeU (d := some 6) 3 rfl rfl hHeld (fun w' hS' => by have qS := hS'.cell; clear hS'; go_simp; (try rfl)) ?_
      simp only [puts]
      refine takeU (d := some 7) 4 rfl rfl hHeld (fun w' hS' => by have qS := hS'.cell; clear hS'; go_simp; (try rfl)) ?_
      simp only [puts]
      refine takeU (d := some 8) 5 rfl rfl hHeld (fun w' hS' => by have qS := hS'.cell; clear hS'; go_simp; (try rfl)) ?_
      simp only [puts]
      refine takeU (d := some 9) 6 rfl rfl hHeld (fun w' hS' => by have qS := hS'.cell; clear hS'; go_simp; (try rfl)) ?_
      simp only [puts]
      refine takeU (d := some 10) 7 rfl rfl hHeld (fun w' hS' => by have qS := hS'.cell; clear hS'; go_simp; (try rfl)) ?_
      simp only [puts]
      refine takeU (d := some 11) 8 rfl rfl hHeld (fun w' hS' => by have qS := hS'.cell; clear hS'; go_simp; (try rfl)) ?_
      simp only [puts]
      refine takeU (d := some 12) 9 rfl rfl hHeld (fun w' hS' => by have qS := hS'.cell; clear hS'; go_simp; (try rfl)) ?_
      simp only [puts]
      refine takeU (d := some 13) 10 rfl rfl hHeld (fun w' hS' => by have qS := hS'.cell; clear hS'; go_simp; (try rfl)) ?_
      simp only [puts]
      refine takeU (d := some 14) 11 rfl rfl hHeld (fun w' hS' => by have qS := hS'.cell; clear hS'; go_simp; (try rfl)) ?_
      simp only [puts]
      refine takeU (d := some 15) 12 rfl rfl hHeld (fun w' hS' => by have qS := hS'.cell; clear hS'; go_simp; (try rfl)) ?_
      simp only [puts]
      refine takeU (d := some 16) 13 rfl rfl hHeld (fun w' hS' => by have qS := hS'.cell; clear hS'; go_simp; (try rfl)) ?_
      simp only [puts]
      refine skipT (d := some 17) 14 hHeld ?_
      simp only [puts]
      refine skipT (d := some 18) 15 hHeld ?_
      simp only [puts]
      refine skipT (d := some 19) 16 hHeld ?_
      simp only [puts]
      refine takeU (d := some 20) 17 rfl rfl hHeld (fun w' hS' => by have qS := hS'.cell; clear hS'; go_simp; (try rfl)) ?_
      simp only [puts]
      refine takeU (d := some 21) 18 rfl rfl hHeld (fun w' hS' => by have qS := hS'.cell; clear hS'; go_simp; (try rfl)) ?_
      simp only [puts]
      refine skipT (d := some 22) 19 hHeld ?_
      simp only [puts]
      refine skipT (d := some 23) 20 hHeld ?_
      simp only [puts]
      refine skipT (d := some 24) 21 hHeld ?_
      simp only [puts]
      refine takeU (d := some 25) 22 rfl rfl hHeld (fun w' hS' => by have qS := hS'.cell; clear hS'; go_simp; (try rfl)) ?_
      simp only [puts]
      refine takeU (d := some 26) 23 rfl rfl hHeld (fun w' hS' => by have qS := hS'.cell; clear hS'; go_simp; (try rfl)) ?_
      simp only [puts]
      refine skipT (d := some 27) 24 hHeld ?_
      simp only [puts]
      refine skipT (d := some 28) 25 hHeld ?_
      simp only [puts]
      refine skipT (d := some 29) 26 hHeld ?_
      simp only [puts]
      refine takeU (d := some 30) 27 rfl rfl hHeld (fun w' hS' => by have qS := hS'.cell; clear hS'; go_simp; (try rfl)) ?_
      simp only [puts]
      refine takeU (d := some 31) 28 rfl rfl hHeld (fun w' hS' => by have qS := hS'.cell; clear hS'; go_simp; (try rfl)) ?_
      simp only [puts]
      refine skipT (d := some 32) 29 hHeld ?_
      simp only [puts]
      refine skipT (d := some 33) 30 hHeld ?_
      simp only [puts]
      refine skipT (d := some 34) 31 hHeld ?_
      simp only [puts]
      refine skipT (d := some 35) 32 hHeld ?_
      simp only [puts]
      refine skipT (d := some 36) 33 hHeld ?_
      simp only [puts]
      refine skipT (d := some 37) 34 hHeld ?_
      simp only [puts]
      refine skipT (d := some 38) 35 hHeld ?_
      simp only [puts]
      refine takeU (d := some 39) 36 rfl rfl hHeld (fun w' hS' => by have qS := hS'.cell; clear hS'; go_simp; (try rfl)) ?_
      simp only [puts]
      refine takeU (d := some 2) 37 rfl rfl hHeld (fun w' hS' => by have qS := hS'.cell; clear hS'; go_simp; (try rfl)) ?_
      simp only [puts]
      refine wpAnyH_done (by kernel_rfl) ?_ _
      go_wp2_with fail
      go_ret
      exact ⟨ret_bool (by simp [*] <;> omega), HB.out⟩
open Go.RowKit
attribute [local go_sem] store_float
theorem ctxOk_ex {n q oc dp : Int} {ex : Nat} (h : ctxOk n q oc dp ex = true) : fdelay ex = true ∧ fplain ex = ex := by
 unfold ctxOk at h
 simp only [Bool.and_eq_true, decide_eq_true_eq] at h
 exact ⟨h.1.1.1, h.1.1.2⟩
theorem scopeOpen_of (n q oc dp : Int) (ex now : Nat) (hx : F64 ex) (hn : F64 now) (ea : Int → Addr) (w : World) (h : EnvS ea w) : Calls Tryz.prog 134 #[.agg #[n, q, oc, dp, .float .f64 ex], flV now] w (Makes (.bool (ctxOpen n q oc dp ex now)) w) := by
 have HR := qq (fun W hW => scopeRight_of n q oc dp ex hx ea W hW)
 have HE := qq h
 have e1 := run_fge now 0 hn f64_zero
 rw [fle_zero now hn] at e1
 have e2 := run_flt now ex hn hx
 unfold ctxOpen
 generalize ctxOk n q oc dp ex = c at *
 generalize fdelay now = a at *
 generalize flt now ex = b at *
 clear h hx hn
 cases c
 case false =>
  go_enter Tryz.func134, Tryz.ntmps134
  go_wp2_with (go_at_call 133; refine (HR.out _ (HE.out.below (by go_grown))).mono ?_; rintro e w1 ⟨rfl, hb1⟩)
  go_ret
  exact ⟨rfl, below_then (by go_grown) hb1⟩
 cases a
 all_goals
  go_enter Tryz.func134, Tryz.ntmps134
  go_wp2_with (go_at_call 133; refine (HR.out _ (HE.out.below (by go_grown))).mono ?_; rintro e w1 ⟨rfl, hb1⟩; have q := ((Blk.fresh w #[n, q, oc, dp, .float .f64 ex] 48 _ rfl).below hb1).cell)
  go_ret
  exact ⟨ret_bool (by simp), below_then (by go_grown) hb1⟩
structure ReadR (B : Nat) (w : World) (fv mv : Value) (r : SRes) : Prop where
 f : ReadFacts w fv r.fs
 m : ReadMsgs w mv r.ms
 ff : ∀ k, sliceBlock fv = some k → B ≤ k
 mf : ∀ k, sliceBlock mv = some k → B ≤ k
def ResR (r : SRes) (w : World) (e : Ending) (w' : World) : Prop := ∃ a c b d, e = .returned (.agg #[.slice a r.fs.length c, .slice b r.ms.length d, r.wk]) ∧ ReadR w.heap.size w' (.slice a r.fs.length c) (.slice b r.ms.length d) r ∧ Below w.heap.size w w'
theorem ReadMsgs.heap {w w' : World} {v : Value} {ms : List SMsg} (h : ReadMsgs w v ms) (hz : w.heap.size ≤ w'.heap.size) (he : ∀ k, sliceBlock v = some k → w'.heap[k]? = w.heap[k]?) : ReadMsgs w' v ms := by
 obtain ⟨a, cap, rfl, hr⟩ := h
 refine ⟨a, cap, rfl, fun hn => ?_⟩
 obtain ⟨b, off, rfl, hb, hc⟩ := hr hn
 have hh := he b rfl
 have hcell : ∀ o, w'.cell? ⟨b, o, none⟩ = w.cell? ⟨b, o, none⟩ := fun o => by simp [World.cell?, hh]
 refine ⟨b, off, rfl, Nat.lt_of_lt_of_le hb hz, fun j hj => ?_⟩
 obtain ⟨h0, h1, h2, h3, h4, h5, h6, h7, h8⟩ := hc j hj
 exact ⟨(hcell _).trans h0, (hcell _).trans h1, (hcell _).trans h2, (hcell _).trans h3, (hcell _).trans h4, (hcell _).trans h5, (hcell _).trans h6, (hcell _).trans h7, (hcell _).trans h8⟩
theorem ReadR.heap {B : Nat} {w w' : World} {fv mv : Value} {r : SRes} (h : ReadR B w fv mv r) (hz : w.heap.size ≤ w'.heap.size) (he : ∀ k, B ≤ k → w'.heap[k]? = w.heap[k]?) : ReadR B w' fv mv r :=
 ⟨h.f.heap hz (fun k hk => he k (h.ff k hk)), h.m.heap hz (fun k hk => he k (h.mf k hk)), h.ff, h.mf⟩
theorem ReadR.below {B : Nat} {w w' : World} {fv mv : Value} {r : SRes} (h : ReadR B w fv mv r) (hb : Below w.heap.size w w') : ReadR B w' fv mv r := ⟨h.f.below hb, h.m.below hb, h.ff, h.mf⟩
theorem ReadR.mono {B B' : Nat} {w : World} {fv mv : Value} {r : SRes} (h : ReadR B w fv mv r) (hb : B' ≤ B) : ReadR B' w fv mv r := ⟨h.f, h.m, fun k hk => Nat.le_trans hb (h.ff k hk), fun k hk => Nat.le_trans hb (h.mf k hk)⟩
theorem ReadR.put3 {B : Nat} {w : World} {fv mv : Value} {r : SRes} (h : ReadR B w fv mv r) (b : Nat) (hb : b < B) (x y z : Value) : ReadR B (((w.setCell ⟨b, 0, none⟩ x).setCell ⟨b, 1, none⟩ y).setCell ⟨b, 2, none⟩ z) fv mv r :=
 h.heap (by simp) (fun k hk => by rw [Below.heap_setCell _ _ _ _ (by dsimp only; omega), Below.heap_setCell _ _ _ _ (by dsimp only; omega), Below.heap_setCell _ _ _ _ (by dsimp only; omega)])
theorem no_block {c : Nat} {n : Nat} {P : Nat → Prop} : ∀ k, sliceBlock (.slice none n c) = some k → P k := fun k h => by simp [sliceBlock] at h
theorem one_block {b c n : Nat} {B : Nat} (h : B ≤ b) : ∀ k, sliceBlock (.slice (some ⟨b, 0, none⟩) n c) = some k → B ≤ k := fun k hk => by simp [sliceBlock] at hk; omega
theorem lmsg_of (rn rp sp sd ss sh an aq oc dp : Int) (ex : Nat) (pa de : Int) (va : Option Addr) (vn vc : Nat) (nd rg : Int) (k : Int) (w : World) : Calls Tryz.prog 168 #[.agg #[rn, rp, sp, sd, ss, sh, an, aq, oc, dp, .float .f64 ex, pa, de, .slice va vn vc, nd, rg], .int .i64 k] w (Makes (msgV ⟨k, nd, rn, an, aq, rg, rp, 0, 0⟩) w) := by
 dsimp only [msgV, msgA]
 have HT0 : Hid (((w.alloc (.cells #[rn, rp, sp, sd, ss, sh, an, aq, oc, dp, .float .f64 ex, pa, de, .slice va vn vc, nd, rg] 247)).alloc (.cells #[.int .i64 0, .int .i64 0, .int .i64 0, .int .i64 0, .int .i64 0, .int .i64 0, .int .i64 0, .int .i64 0, .int .i64 0] 81)).heap[w.heap.size + 1]? = some (.cells #[.int .i64 0, .int .i64 0, .int .i64 0, .int .i64 0, .int .i64 0, .int .i64 0, .int .i64 0, .int .i64 0, .int .i64 0] 81 (0, 0))) := qq (by rw [show w.heap.size + 1 = (w.alloc (.cells #[rn, rp, sp, sd, ss, sh, an, aq, oc, dp, .float .f64 ex, pa, de, .slice va vn vc, nd, rg] 247)).heap.size by simp]; exact heap_alloc_new _ _)
 go_enter Tryz.func168, Tryz.ntmps168
 go_wp2_with (refine wpList_store_row rfl 81 (.tmp 4) (.tmp 20) rfl (w.heap.size + 1) #[.int .i64 k, .int .i64 nd, .int .i64 rn, .int .i64 an, .int .i64 aq, .int .i64 rg, .int .i64 rp, .int .i64 0, .int .i64 0] rfl rfl 81 #[.int .i64 0, .int .i64 0, .int .i64 0, .int .i64 0, .int .i64 0, .int .i64 0, .int .i64 0, .int .i64 0, .int .i64 0] HT0.out (by kernel_rfl) rfl (by simp [Value.oneCell']) ?_)
 obtain ⟨HFr, hgr⟩ := row_end (cells := #[.int .i64 k, .int .i64 nd, .int .i64 rn, .int .i64 an, .int .i64 aq, .int .i64 rg, .int .i64 rp, .int .i64 0, .int .i64 0]) HT0.out
 obtain ⟨q1, f1⟩ := HFr.out
 exact bodyPost_ret (v := .agg #[k, nd, rn, an, aq, rg, rp, .int .i64 0, .int .i64 0]) (by simp [results, Tryz.results168, go_sem, q1, f1]) rfl ⟨rfl, (show Below w.heap.size w _ by go_grown).grown hgr (by first | omega | (simp; done) | (simp; omega)) (fun k hk => by injection hk with hk; omega)⟩
theorem lseated_of (rn rp sp sd ss sh an aq oc dp : Int) (ex : Nat) (pa de : Int) (va : Option Addr) (vn vc : Nat) (nd rg : Int) (xp xd xs xh : Int) (w : World) : Calls Tryz.prog 172 #[.agg #[rn, rp, sp, sd, ss, sh, an, aq, oc, dp, .float .f64 ex, pa, de, .slice va vn vc, nd, rg], .agg #[xp, xd, xs, xh]] w (Makes (factV (fSeat an aq rg xs xh)) w) := by
 dsimp only [factV, factC, fSeat]
 have HT0 : Hid ((((w.alloc (.cells #[rn, rp, sp, sd, ss, sh, an, aq, oc, dp, .float .f64 ex, pa, de, .slice va vn vc, nd, rg] 247)).alloc (.cells #[xp, xd, xs, xh] 53)).alloc (.cells #[.int .i64 0, .int .i64 0, .int .i64 0, .int .i64 0, .int .i64 0, .int .i64 0, .int .i64 0, .int .i64 0, .int .i64 0, .int .i64 0, .int .i64 0, .int .i64 0, .int .i64 0, .float .f64 0] 39)).heap[w.heap.size + 1 + 1]? = some (.cells #[.int .i64 0, .int .i64 0, .int .i64 0, .int .i64 0, .int .i64 0, .int .i64 0, .int .i64 0, .int .i64 0, .int .i64 0, .int .i64 0, .int .i64 0, .int .i64 0, .int .i64 0, .float .f64 0] 39 (0, 0))) := qq (by rw [show w.heap.size + 1 + 1 = ((w.alloc (.cells #[rn, rp, sp, sd, ss, sh, an, aq, oc, dp, .float .f64 ex, pa, de, .slice va vn vc, nd, rg] 247)).alloc (.cells #[xp, xd, xs, xh] 53)).heap.size by simp]; exact heap_alloc_new _ _)
 go_enter Tryz.func172, Tryz.ntmps172
 go_wp2_with (refine wpList_store_row rfl 39 (.tmp 4) (.tmp 15) rfl (w.heap.size + 1 + 1) #[.int .i64 3, .int .i64 an, .int .i64 aq, .int .i64 rg, .int .i64 0, .int .i64 0, .int .i64 0, .int .i64 0, .int .i64 0, .int .i64 0, .int .i64 xs, .int .i64 xh, .int .i64 0, .float .f64 0] rfl rfl 39 #[.int .i64 0, .int .i64 0, .int .i64 0, .int .i64 0, .int .i64 0, .int .i64 0, .int .i64 0, .int .i64 0, .int .i64 0, .int .i64 0, .int .i64 0, .int .i64 0, .int .i64 0, .float .f64 0] HT0.out (by kernel_rfl) rfl (by simp [Value.oneCell']) ?_)
 obtain ⟨HFr, hgr⟩ := row_end (cells := #[.int .i64 3, .int .i64 an, .int .i64 aq, .int .i64 rg, .int .i64 0, .int .i64 0, .int .i64 0, .int .i64 0, .int .i64 0, .int .i64 0, .int .i64 xs, .int .i64 xh, .int .i64 0, .float .f64 0]) HT0.out
 obtain ⟨q1, f1⟩ := HFr.out
 exact bodyPost_ret (v := .agg #[.int .i64 3, an, aq, rg, .int .i64 0, .int .i64 0, .int .i64 0, .int .i64 0, .int .i64 0, .int .i64 0, xs, xh, .int .i64 0, .float .f64 0]) (by simp [results, Tryz.results172, go_sem, q1, f1]) rfl ⟨rfl, (show Below w.heap.size w _ by go_grown).grown hgr (by first | omega | (simp; done) | (simp; omega)) (fun k hk => by injection hk with hk; omega)⟩
theorem lanswer_of (m : SMsg) (k c : Int) (w : World) : Calls Tryz.prog 165 #[msgV m, .int .i64 k, .int .i64 c] w (ResR ⟨[], [ans m k c], 0⟩ w) := by
 have HA := qq (fun W => answer_of m k c W)
 obtain ⟨mk, fr, tq, man, maq, mrg, mpt, mpr, mco⟩ := m
 dsimp only [msgV, msgA, ans, ResR] at *
 go_enter Tryz.func165, Tryz.ntmps165
 go_wp2_with fail
 refine (HA.out _).mono ?_
 rintro e w1 ⟨rfl, hb1⟩
 have B1 : Below w.heap.size w w1 := below_then (by go_grown) hb1
 have HV := qq ((Blk.fresh (w.alloc (.cells #[mk, fr, tq, man, maq, mrg, mpt, mpr, mco] 81)) #[.slice none 0 0, .slice none 0 0, .int .i64 0] 87 (w.heap.size + 1) (by simp)).below hb1)
 have lv := HV.out.lt
 have qv := HV.out.cell; have fv := HV.out.free
 have lw : w.heap.size < w1.heap.size := by omega
 clear hb1
 go_wp2_with fail
 refine bodyPost_ret (v := .agg #[.slice none 0 0, .slice (some ⟨w1.heap.size, 0, none⟩) 1 1, .int .i64 0]) ?_ rfl ⟨none, 0, some ⟨w1.heap.size, 0, none⟩, 1, rfl, ⟨read_nil, ?_, no_block, one_block B1.size⟩, ?_⟩ <;> first | (simp [results, Tryz.results165, go_sem, qv, fv, lv, Nat.ne_of_lt lv, lw]; done) | (refine read_mone ?_; (repeat' first | exact Blk.fresh _ _ _ _ rfl | exact Blk.fresh _ _ _ _ (by simp) | refine Blk.alloc ?_ _ | refine Blk.drew ?_ | refine Blk.other ?_ ?_ _ | (simp; done) | omega | (dsimp only; omega)); done) | (go_grown; done)
theorem lback_of (m : SMsg) (rg pr : Int) (w : World) : Calls Tryz.prog 241 #[msgV m, .int .i64 rg, .int .i64 pr] w (Makes (msgV (lBack m rg pr)) w) := by
 have HA := qq (fun W => answer_of m 18 0 W)
 obtain ⟨mk, fr, tq, man, maq, mrg, mpt, mpr, mco⟩ := m
 dsimp only [msgV, msgA, ans, lBack] at *
 go_enter Tryz.func241, Tryz.ntmps241
 go_wp2_with fail
 refine (HA.out _).mono ?_
 rintro e w1 ⟨rfl, hb1⟩
 have B1 : Below w.heap.size w w1 := below_then (by go_grown) hb1
 have hz : w.heap.size + 1 < w1.heap.size := by have := hb1.size; simp at this; omega
 have HT1 : Hid (w1.heap[w.heap.size + 1]? = some (.cells #[.int .i64 0, .int .i64 0, .int .i64 0, .int .i64 0, .int .i64 0, .int .i64 0, .int .i64 0, .int .i64 0, .int .i64 0] 81 (0, 0))) := qq ((hb1.block _ (by simp)).trans (by rw [show w.heap.size + 1 = (w.alloc (.cells #[mk, fr, tq, man, maq, mrg, mpt, mpr, mco] 81)).heap.size by simp]; exact heap_alloc_new _ _))
 have HT0 : Hid ((w1.alloc (.cells #[.int .i64 18, tq, fr, man, maq, rg, mpt, pr, .int .i64 0] 81)).heap[w.heap.size + 1]? = some (.cells #[.int .i64 0, .int .i64 0, .int .i64 0, .int .i64 0, .int .i64 0, .int .i64 0, .int .i64 0, .int .i64 0, .int .i64 0] 81 (0, 0))) := qq ((((Below.refl w1.heap.size w1).alloc (Nat.le_refl _) _).block _ hz).trans HT1.out)
 clear hb1
 go_wp2_with (refine wpList_store_row rfl 81 (.tmp 6) (.tmp 14) rfl (w.heap.size + 1) #[.int .i64 18, .int .i64 tq, .int .i64 fr, .int .i64 man, .int .i64 maq, .int .i64 rg, .int .i64 mpt, .int .i64 pr, .int .i64 0] rfl rfl 81 #[.int .i64 0, .int .i64 0, .int .i64 0, .int .i64 0, .int .i64 0, .int .i64 0, .int .i64 0, .int .i64 0, .int .i64 0] HT0.out (by kernel_rfl) rfl (by simp [Value.oneCell']) ?_)
 obtain ⟨HFr, hgr⟩ := row_end (cells := #[.int .i64 18, .int .i64 tq, .int .i64 fr, .int .i64 man, .int .i64 maq, .int .i64 rg, .int .i64 mpt, .int .i64 pr, .int .i64 0]) HT0.out
 obtain ⟨q1, f1⟩ := HFr.out
 exact bodyPost_ret (v := .agg #[.int .i64 18, tq, fr, man, maq, rg, mpt, pr, .int .i64 0]) (by simp [results, Tryz.results241, go_sem, q1, f1]) rfl ⟨rfl, (show Below w.heap.size w (World.alloc _ _) by go_grown).grown hgr (by first | omega | (simp; done) | (simp; omega)) (fun k hk => by injection hk with hk; omega)⟩
theorem lworks_of (x : MSeat) (w : World) : Calls Tryz.prog 182 #[seatV x] w (Makes (.bool (lWorks x)) w) := by
 obtain ⟨p, d, s, h⟩ := x
 dsimp only [seatV, lWorks]
 by_cases h1 : s = 1
 · subst h1
   go_enter Tryz.func182, Tryz.ntmps182
   go_wp2_with fail
   go_ret
   exact ⟨rfl, by go_grown⟩
 · have e1 : (s == 1) = false := by simpa using h1
   by_cases h4 : s = 4
   · subst h4
     clear e1 h1
     go_enter Tryz.func182, Tryz.ntmps182
     go_wp2_with fail
     go_ret
     exact ⟨rfl, by go_grown⟩
   · have e4 : (s == 4) = false := by simpa using h4
     rw [decide_eq_false (by omega)]
     clear h1 h4
     go_enter Tryz.func182, Tryz.ntmps182
     go_wp2_with fail
     go_ret
     exact ⟨rfl, by go_grown⟩
end Go.Proofs.YtlkajejbfojkeaaGreatDoor
