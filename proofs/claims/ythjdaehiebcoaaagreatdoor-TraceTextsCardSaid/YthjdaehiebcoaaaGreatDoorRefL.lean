/- The walks of the document's lines (liaisonref05.Digits, liaisonref27): a number's digits, words, texts. -/
import Derived.Test.YthjdaehiebcoaaaGreatDoorRows
import Derived.WalkKit
import Derived.WalkSpells
import Derived.WalkLawsBesides
import Derived.BigQuiet
import Derived.Deep.QuietTactic
import Derived.StillTailTactics
import Derived.Handy
import Derived.Lib.Hide
import Derived.Test.YthjdaehiebcoaaaGreatDoorTrcC
import Derived.Test.YthjdaehiebcoaaaGreatDoorStep
import Derived.Laws.BytesString
import Derived.Laws.IdiomStrings
import Derived.Laws.Runes
import Derived.Laws.BitsLemmas
set_option linter.unusedSimpArgs false
set_option linter.unusedVariables false
namespace Go.Proofs.YthjdaehiebcoaaaGreatDoor
open Go.RowKit

theorem conv_back (E : Nat) (c : UInt8) (W : World) (h : W.cell? ⟨E, 0, none⟩ = some (.int .u8 (c.toNat : Int))) : (convert 76 9 (.slice (some ⟨E, 0, none⟩) 1 1)).run Tryz.prog W = .ok (.string (bs [c])) W := by
  have := run_convert_bytes_back (P := Tryz.prog) W 76 9 5 ⟨E, 0, none⟩ 1 [c] Tryz.underlying76 Tryz.underlying5 Tryz.underlying9 (fun j hj => by
    have : j = 0 := by simpa using hj
    subst this
    exact h)
  exact this
theorem digit_byte (k : Nat) (h : k < 10) : ((UInt8.ofNat (48 + k)).toNat : Int) = 48 + (k : Int) := by
  rw [UInt8.toNat_ofNat']; omega
theorem rdigits_of : ∀ (n : Nat), n ≤ 999999 → ∀ (w : World), Calls Tryz.prog 67 #[.int .i64 (n : Int)] w (Makes (.string (bs (Lib.decDigits n))) w) := by
  intro n
  induction n using Nat.strongRecOn with
  | _ n ih =>
    intro hn w
    rw [Lib.decDigits]
    by_cases h10 : n < 10
    · rw [dif_pos h10]
      obtain ⟨c, hc⟩ : ∃ c, c = UInt8.ofNat (48 + n) := ⟨_, rfl⟩
      have hb : (c.toNat : Int) = 48 + (n : Int) := by rw [hc]; exact digit_byte n h10
      have hcv : ∀ W : World, W.cell? ⟨w.heap.size, 0, none⟩ = some (.int .u8 (48 + (n : Int))) → (convert 76 9 (.slice (some ⟨w.heap.size, 0, none⟩) 1 1)).run Tryz.prog W = .ok (.string (bs [c])) W := fun W hW => conv_back _ _ W (by rw [hb]; exact hW)
      have hcv2 := hcv (w.alloc (.cells #[.int .u8 (48 + (n : Int))] 5)) (by simp)
      have hlt : (n : Int) < 10 := by omega
      have h0 : (0 : Int) ≤ (n : Int) := by omega
      rw [← hc]
      clear ih hb hcv hc
      go_enter Tryz.func67, Tryz.ntmps67
      go_wp2_with fail
      go_ret
      exact ⟨rfl, by go_grown⟩
    · rw [dif_neg h10]
      obtain ⟨q, hq⟩ : ∃ q, q = n / 10 := ⟨_, rfl⟩
      obtain ⟨r, hr⟩ : ∃ r, r = n % 10 := ⟨_, rfl⟩
      have hr10 : r < 10 := by omega
      obtain ⟨c, hc⟩ : ∃ c, c = UInt8.ofNat (48 + r) := ⟨_, rfl⟩
      have hb : (c.toNat : Int) = 48 + (r : Int) := by rw [hc]; exact digit_byte r hr10
      have HI := Lib.hid (fun W => ih q (by omega) (by omega) W)
      have hz : (bs (Lib.decDigits q)).size ≤ 6 := by rw [bs_size]; exact dec_len 5 q (by omega)
      have hz2 : (bs [c]).size = 1 := by rw [bs_size]; rfl
      have hquo : Int.tdiv (n : Int) 10 = (q : Int) := by rw [Int.tdiv_eq_ediv_of_nonneg (by omega)]; omega
      have hrem : Int.tmod (n : Int) 10 = (r : Int) := by rw [Int.tmod_eq_emod_of_nonneg (by omega)]; omega
      have happ : bs (Lib.decDigits q) ++ bs [c] = bs (Lib.decDigits q ++ [c]) := by apply data_inj; simp [bs]
      have hnlt : ¬ (n : Int) < 10 := by omega
      have h0 : (0 : Int) ≤ (n : Int) := by omega
      have hn1 : (n : Int) ≤ 999999 := by omega
      have hr0 : (0 : Int) ≤ (r : Int) := by omega
      have hr1 : (r : Int) < 10 := by omega
      have hw1 : IntKind.i64.wrap (q : Int) = (q : Int) := wrap_small _ (by omega) (by omega)
      have hw2 : IntKind.i64.wrap (48 + (r : Int)) = 48 + (r : Int) := wrap_small _ (by omega) (by omega)
      have hw3 : IntKind.u8.wrap (48 + (r : Int)) = 48 + (r : Int) := by rw [IntKind.wrap_u8]; omega
      have hlim : ¬ 9223372036854775807 < (bs (Lib.decDigits q)).size + 1 := by omega
      rw [← hq, ← hr, ← hc]
      have HCV : Hid (∀ (E : Nat) (W : World), W.cell? ⟨E, 0, none⟩ = some (.int .u8 (48 + (r : Int))) → (convert 76 9 (.slice (some ⟨E, 0, none⟩) 1 1)).run Tryz.prog W = .ok (.string (bs [c])) W) := Lib.hid (fun E W hW => conv_back _ _ W (by rw [hb]; exact hW))
      clear ih hb hc hq hr hn h10
      go_enter Tryz.func67, Tryz.ntmps67
      go_wp2_with fail
      refine wp_region_held_drew (S := fun _ => True) (by kernel_rfl) trivial (fun hHeld => ?_)
      have HB := Lib.hid ((Below.refl w.heap.size w).drew)
      generalize w.drew = w5 at *
      refine wpAnyH_takeAt (v := ?_) (d := some 10) 0 rfl rfl (by kernel_rfl) (by kernel_rfl) (by kernel_rfl) (fun _ _ _ h => h) hHeld (by rfl) ?_ ?_
      rotate_left 1
      · (intro w' hS'; (try dsimp only at hS'); go_simp; (try with_reducible rfl))
      simp only [Act.put, List.setIfInBounds_toArray, List.set_cons_zero, List.set_cons_succ]
      refine wpAnyH_takeAt (v := ?_) (d := some 11) 1 rfl rfl (by kernel_rfl) (by kernel_rfl) (by kernel_rfl) (fun _ _ _ h => h) hHeld (by rfl) ?_ ?_
      rotate_left 1
      · (intro w' hS'; (try dsimp only at hS'); go_simp; (try with_reducible rfl))
      simp only [Act.put, List.setIfInBounds_toArray, List.set_cons_zero, List.set_cons_succ]
      refine wpAnyH_takeAt (v := ?_) (d := some 13) 3 rfl rfl (by kernel_rfl) (by kernel_rfl) (by kernel_rfl) (fun _ _ _ h => h) hHeld (by rfl) ?_ ?_
      rotate_left 1
      · (intro w' hS'; (try dsimp only at hS'); go_simp; (try with_reducible rfl))
      simp only [Act.put, List.setIfInBounds_toArray, List.set_cons_zero, List.set_cons_succ]
      refine wpAnyH_takeAt (v := ?_) (d := some 14) 4 rfl rfl (by kernel_rfl) (by kernel_rfl) (by kernel_rfl) (fun _ _ _ h => h) hHeld (by rfl) ?_ ?_
      rotate_left 1
      · (intro w' hS'; (try dsimp only at hS'); go_simp; (try with_reducible rfl))
      simp only [Act.put, List.setIfInBounds_toArray, List.set_cons_zero, List.set_cons_succ]
      refine wpAnyH_takeAt (v := ?_) (d := some 15) 5 rfl rfl (by kernel_rfl) (by kernel_rfl) (by kernel_rfl) (fun _ _ _ h => h) hHeld (by rfl) ?_ ?_
      rotate_left 1
      · (intro w' hS'; (try dsimp only at hS'); go_simp; (try with_reducible rfl))
      simp only [Act.put, List.setIfInBounds_toArray, List.set_cons_zero, List.set_cons_succ]
      refine wpAnyH_takeAt (v := ?_) (d := some 16) 6 rfl rfl (by kernel_rfl) (by kernel_rfl) (by kernel_rfl) (fun _ _ _ h => h) hHeld (by rfl) ?_ ?_
      rotate_left 1
      · (intro w' hS'; (try dsimp only at hS'); go_simp; (try with_reducible rfl))
      simp only [Act.put, List.setIfInBounds_toArray, List.set_cons_zero, List.set_cons_succ]
      refine wpAnyH_two 2 7 (by kernel_rfl) ?_ ?_
      · refine wpOp_call (d := some 12) 2 67 _ _ [.int .i64 (q : Int)] rfl rfl rfl (enters_of Tryz.func67 (by kernel_rfl) rfl) (by rfl) (by rfl) ?_
        refine (HI.out _).mono ?_; rintro e w5 ⟨rfl, hb1⟩
        have HB := Lib.hid (below_then HB.out hb1)
        refine ⟨_, rfl, trivial, ?_⟩
        simp only [Act.put, List.setIfInBounds_toArray, List.set_cons_zero, List.set_cons_succ]
        refine wpAnyH_alone (d := some 17) 7 (.slice (some ⟨w5.heap.size, 0, none⟩) 1 1) (w5.alloc (.cells #[.int .u8 (48 + (r : Int))] 5)) rfl rfl (by kernel_rfl) (by rfl) (by go_simp) trivial ?_
        simp only [Act.put, List.setIfInBounds_toArray, List.set_cons_zero, List.set_cons_succ]
        refine wpAnyH_narrow (S' := fun w' => w'.cell? ⟨w5.heap.size, 0, none⟩ = some (.int .u8 (48 + (r : Int)))) (fun _ _ => trivial) _ _ _ _ ?_
        clear hHeld
        have hHeld : (fun w' : World => w'.cell? ⟨w5.heap.size, 0, none⟩ = some (.int .u8 (48 + (r : Int)))) (w5.alloc (.cells #[.int .u8 (48 + (r : Int))] 5)) := (Blk.fresh w5 #[.int .u8 (48 + (r : Int))] 5 _ rfl).cell 0
        have HB := Lib.hid (HB.out.alloc HB.out.size (.cells #[.int .u8 (48 + (r : Int))] 5))
        refine wpAnyH_takeAt (v := ?_) (d := some 18) 8 rfl rfl (by kernel_rfl) (by kernel_rfl) (by kernel_rfl) (fun _ _ _ h => h) hHeld (by rfl) ?_ ?_
        rotate_left 1
        · (intro w' hS'; have hcv := HCV.out _ w' hS'; (try dsimp only at hS'); go_simp; (try with_reducible rfl))
        simp only [Act.put, List.setIfInBounds_toArray, List.set_cons_zero, List.set_cons_succ]
        refine wpAnyH_takeAt (v := ?_) (d := some 19) 9 rfl rfl (by kernel_rfl) (by kernel_rfl) (by kernel_rfl) (fun _ _ _ h => h) hHeld (by rfl) ?_ ?_
        rotate_left 1
        · (intro w' hS'; (try dsimp only at hS'); go_simp; (try with_reducible rfl))
        simp only [Act.put, List.setIfInBounds_toArray, List.set_cons_zero, List.set_cons_succ]
        refine wpAnyH_takeAt (v := ?_) (d := some 2) 10 rfl rfl (by kernel_rfl) (by kernel_rfl) (by kernel_rfl) (fun _ _ _ h => h) hHeld (by rfl) ?_ ?_
        rotate_left 1
        · (intro w' hS'; (try dsimp only at hS'); go_simp; (try with_reducible rfl))
        simp only [Act.put, List.setIfInBounds_toArray, List.set_cons_zero, List.set_cons_succ]
        refine wpAnyH_done (by kernel_rfl) ?_ _
        go_wp2_with fail
        go_ret
        exact ⟨rfl, HB.out⟩
      · have HB := Lib.hid (HB.out.alloc HB.out.size (.cells #[.int .u8 (48 + (r : Int))] 5))
        have HV := Lib.hid (Blk.fresh w5 #[.int .u8 (48 + (r : Int))] 5 _ rfl)
        refine wpOp_alone (d := some 17) 7 (.slice (some ⟨w5.heap.size, 0, none⟩) 1 1) (w5.alloc (.cells #[.int .u8 (48 + (r : Int))] 5)) rfl rfl (by rfl) (by go_simp) ?_
        refine ⟨trivial, ?_⟩
        simp only [Act.put, List.setIfInBounds_toArray, List.set_cons_zero, List.set_cons_succ]
        refine wpAnyH_narrow (S' := fun w' => w'.cell? ⟨w5.heap.size, 0, none⟩ = some (.int .u8 (48 + (r : Int)))) (fun _ _ => trivial) _ _ _ _ ?_
        clear hHeld
        have hHeld : (fun w' : World => w'.cell? ⟨w5.heap.size, 0, none⟩ = some (.int .u8 (48 + (r : Int)))) (w5.alloc (.cells #[.int .u8 (48 + (r : Int))] 5)) := HV.out.cell 0
        refine wpAnyH_takeAt (v := ?_) (d := some 18) 8 rfl rfl (by kernel_rfl) (by kernel_rfl) (by kernel_rfl) (fun _ _ _ h => h) hHeld (by rfl) ?_ ?_
        rotate_left 1
        · (intro w' hS'; have hcv := HCV.out _ w' hS'; (try dsimp only at hS'); go_simp; (try with_reducible rfl))
        simp only [Act.put, List.setIfInBounds_toArray, List.set_cons_zero, List.set_cons_succ]
        refine wpAnyH_call (d := some 12) 2 67 _ _ [.int .i64 (q : Int)] rfl rfl (by kernel_rfl) rfl (enters_of Tryz.func67 (by kernel_rfl) rfl) (by rfl) (by rfl) ?_
        refine (HI.out _).mono ?_; rintro e w5 ⟨rfl, hb1⟩
        have HB := Lib.hid (below_then HB.out hb1)
        have hHeld := (HV.out.below hb1).cell 0
        refine ⟨_, rfl, _, fun _ h => h, hHeld, fun hHeld => ?_⟩
        simp only [Act.put, List.setIfInBounds_toArray, List.set_cons_zero, List.set_cons_succ]
        refine wpAnyH_takeAt (v := ?_) (d := some 19) 9 rfl rfl (by kernel_rfl) (by kernel_rfl) (by kernel_rfl) (fun _ _ _ h => h) hHeld (by rfl) ?_ ?_
        rotate_left 1
        · (intro w' hS'; (try dsimp only at hS'); go_simp; (try with_reducible rfl))
        simp only [Act.put, List.setIfInBounds_toArray, List.set_cons_zero, List.set_cons_succ]
        refine wpAnyH_takeAt (v := ?_) (d := some 2) 10 rfl rfl (by kernel_rfl) (by kernel_rfl) (by kernel_rfl) (fun _ _ _ h => h) hHeld (by rfl) ?_ ?_
        rotate_left 1
        · (intro w' hS'; (try dsimp only at hS'); go_simp; (try with_reducible rfl))
        simp only [Act.put, List.setIfInBounds_toArray, List.set_cons_zero, List.set_cons_succ]
        refine wpAnyH_done (by kernel_rfl) ?_ _
        go_wp2_with fail
        go_ret
        exact ⟨rfl, HB.out⟩
end Go.Proofs.YthjdaehiebcoaaaGreatDoor
