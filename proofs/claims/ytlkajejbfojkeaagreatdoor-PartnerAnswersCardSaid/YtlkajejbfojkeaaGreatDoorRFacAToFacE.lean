/- FacA, FacE -/
import Derived.Test.YtlkajejbfojkeaaGreatDoorRows
import Derived.WalkKit
import Derived.WalkSpells
import Derived.WalkLawsBesides
import Derived.BigQuiet
import Derived.Deep.QuietTactic
import Derived.StillTailTactics
import Derived.Handy
import Derived.Lib.Hide
import Derived.Test.YtlkajejbfojkeaaGreatDoorRTrcPToFlC
set_option linter.unusedSimpArgs false
set_option linter.unusedVariables false
namespace Go.Proofs.YtlkajejbfojkeaaGreatDoor
open Go.RowKit

theorem within_of (n l m : Int) (w : World) : Calls Tryz.prog 249 #[.int .i64 n, .int .i64 l, .int .i64 m] w (Gives (.bool (decide (l ≤ n ∧ n ≤ m))) w) := by
 by_cases h1 : l ≤ n
 · by_cases h2 : n ≤ m
   · rw [decide_eq_true ⟨h1, h2⟩]
     go_enter Tryz.func249, Tryz.ntmps249
     go_wp2_with fail
     go_ret
     exact ⟨rfl, rfl⟩
   · rw [decide_eq_false (fun h => h2 h.2)]
     go_enter Tryz.func249, Tryz.ntmps249
     go_wp2_with fail
     go_ret
     exact ⟨rfl, rfl⟩
 · rw [decide_eq_false (fun h => h1 h.1)]
   go_enter Tryz.func249, Tryz.ntmps249
   go_wp2_with fail
   go_ret
   exact ⟨rfl, rfl⟩
theorem isReg_of (n : Int) (w : World) : Calls Tryz.prog 250 #[.int .i64 n] w (Gives (.bool (decide (0 ≤ n ∧ n ≤ 5))) w) := by
 have HW := Lib.hid (within_of n 0 5 w)
 go_enter Tryz.func250, Tryz.ntmps250
 go_wp2_with fail
 refine HW.out.mono ?_
 rintro e w1 ⟨rfl, rfl⟩
 go_wp2_with fail
 go_ret
 exact ⟨ret_bool (by simp), rfl⟩
theorem isPart_of (n : Int) (w : World) : Calls Tryz.prog 251 #[.int .i64 n] w (Gives (.bool (decide (0 ≤ n ∧ n ≤ 7))) w) := by
 have HW := Lib.hid (within_of n 0 7 w)
 go_enter Tryz.func251, Tryz.ntmps251
 go_wp2_with fail
 refine HW.out.mono ?_
 rintro e w1 ⟨rfl, rfl⟩
 go_wp2_with fail
 go_ret
 exact ⟨ret_bool (by simp), rfl⟩
theorem isState_of (s h : Int) (w : World) : Calls Tryz.prog 252 #[.int .i64 s, .int .i64 h] w (Gives (.bool (stOk s h)) w) := by
 have HW := Lib.hid (within_of h 4 8 w)
 have HX := Lib.hid (within_of s 1 13 w)
 unfold stOk
 by_cases h1 : s = 14
 · rw [if_pos h1]
   have e1 : (s == 14) = true := by simpa using h1
   by_cases h2 : h = 1
   · have e2 : (h == 1) = true := by simpa using h2
     rw [decide_eq_true (Or.inl h2)]
     clear h1 h2
     go_enter Tryz.func252, Tryz.ntmps252
     go_wp2_with fail
     go_ret
     exact ⟨rfl, rfl⟩
   · have e2 : (h == 1) = false := by simpa using h2
     have hd : decide (h = 1 ∨ 4 ≤ h ∧ h ≤ 8) = decide (4 ≤ h ∧ h ≤ 8) := decide_eq_decide.2 ⟨fun x => x.resolve_left h2, Or.inr⟩
     rw [hd]
     clear h1 h2 hd
     generalize decide (4 ≤ h ∧ h ≤ 8) = d at *
     go_enter Tryz.func252, Tryz.ntmps252
     go_wp2_with fail
     refine HW.out.mono ?_
     rintro e w1 ⟨rfl, rfl⟩
     go_wp2_with fail
     go_ret
     exact ⟨rfl, rfl⟩
 · rw [if_neg h1]
   have e1 : (s == 14) = false := by simpa using h1
   by_cases h2 : 1 ≤ s ∧ s ≤ 13
   · rw [decide_eq_true h2] at HX
     have hd : decide (1 ≤ s ∧ s ≤ 13 ∧ h = 0) = decide (h = 0) := decide_eq_decide.2 ⟨fun x => x.2.2, fun x => ⟨h2.1, h2.2, x⟩⟩
     rw [hd]
     clear h1 h2 hd
     have e2 : (h == 0) = decide (h = 0) := by by_cases h0 : h = 0 <;> simp [h0]
     generalize decide (h = 0) = d at *
     go_enter Tryz.func252, Tryz.ntmps252
     go_wp2_with fail
     refine HX.out.mono ?_
     rintro e w1 ⟨rfl, rfl⟩
     go_wp2_with fail
     go_ret
     exact ⟨rfl, rfl⟩
   · rw [decide_eq_false h2] at HX
     have hd : decide (1 ≤ s ∧ s ≤ 13 ∧ h = 0) = false := decide_eq_false (fun x => h2 ⟨x.1, x.2.1⟩)
     rw [hd]
     clear h1 h2 hd
     go_enter Tryz.func252, Tryz.ntmps252
     go_wp2_with fail
     refine HX.out.mono ?_
     rintro e w1 ⟨rfl, rfl⟩
     go_wp2_with fail
     go_ret
     exact ⟨rfl, rfl⟩
theorem isOutcome_of (n : Int) (w : World) : Calls Tryz.prog 222 #[.int .i64 n] w (Gives (.bool (decide (n = 1 ∨ n = 2))) w) := by
 by_cases h1 : n = 1
 · have e1 : (n == 1) = true := by simpa using h1
   rw [decide_eq_true (Or.inl h1)]
   clear h1
   go_enter Tryz.func222, Tryz.ntmps222
   go_wp2_with fail
   go_ret
   exact ⟨rfl, rfl⟩
 · have e1 : (n == 1) = false := by simpa using h1
   have hd : (n == 2) = decide (n = 1 ∨ n = 2) := by
     rw [show decide (n = 1 ∨ n = 2) = decide (n = 2) from decide_eq_decide.2 ⟨fun x => x.resolve_left h1, Or.inr⟩]
     by_cases h0 : n = 2 <;> simp [h0]
   clear h1
   generalize decide (n = 1 ∨ n = 2) = d at *
   go_enter Tryz.func222, Tryz.ntmps222
   go_wp2_with fail
   go_ret
   exact ⟨rfl, rfl⟩
theorem forder_self (x : Nat) (hx : F64 x) (hd : fdelay x = true) : (forder (fplain x) x == 0) = decide (fplain x = x) := by
 have hn : fnan x = false := by
   unfold fdelay at hd
   simp only [Bool.and_eq_true, Bool.not_eq_true'] at hd
   exact hd.1
 unfold fplain
 rw [hn]
 simp only [Bool.false_eq_true, if_false]
 by_cases h0 : x = 9223372036854775808
 · subst h0
   decide +kernel
 · rw [if_neg h0, decide_eq_true rfl]
   simp [forder]
set_option maxHeartbeats 2000000 in
theorem scopeRight_of (n q oc dp : Int) (ex : Nat) (hx : F64 ex) (ea : Int → Addr) (w : World) (h : EnvS ea w) :
   Calls Tryz.prog 133 #[.agg #[.int .i64 n, .int .i64 q, .int .i64 oc, .int .i64 dp, flV ex]] w (Makes (.bool (ctxOk n q oc dp ex)) w) := by
 have HK := Lib.hid (Blk.fresh w #[.int .i64 n, .int .i64 q, .int .i64 oc, .int .i64 dp, flV ex] 48 _ rfl)
 have HB := Lib.hid ((Below.refl w.heap.size w).alloc (Nat.le_refl _) (.cells #[.int .i64 n, .int .i64 q, .int .i64 oc, .int .i64 dp, flV ex] 48))
 have HE := Lib.hid (h.below HB.out)
 have HO := Lib.hid (fun W => forder_of (fplain ex) ex (by unfold fplain; split <;> (try split) <;> first | exact hx | (unfold F64; omega)) hx W)
 have HI := Lib.hid (fun W hW => idRight_of n q ea W hW)
 have HU := Lib.hid (fun W => isOutcome_of oc W)
 unfold ctxOk
 cases hd : fdelay ex with
 | false =>
   have HD := Lib.hid (fun W (hW : EnvS ea W) => delay_no ex hx hd (ea 4) W hW.e.e4)
   clear h hd
   go_enter Tryz.func133, Tryz.ntmps133
   go_wp2_with fail
   refine (HD.out _ HE.out).mono ?_
   rintro e w1 ⟨rfl, hb1⟩
   go_wp2_with fail
   go_ret
   exact ⟨rfl, below_then HB.out hb1⟩
 | true =>
   have HD := Lib.hid (fun W => delay_yes ex hx hd W)
   have hf := forder_self ex hx hd
   clear h hd
   obtain ⟨o, ho⟩ : ∃ o, o = forder (fplain ex) ex := ⟨_, rfl⟩
   rw [← ho] at HO hf
   clear ho
   obtain ⟨qc, fc⟩ := HK.out.out
   by_cases h1 : fplain ex = ex
   · rw [decide_eq_true h1] at hf ⊢
     clear h1
     cases hi : idOk n q
     all_goals rw [hi] at HI
     · clear hi
       go_enter Tryz.func133, Tryz.ntmps133
       go_wp2_with fail
       refine (HD.out _).mono ?_
       rintro e w1 ⟨rfl, rfl⟩
       go_wp2_with fail
       refine (HO.out _).mono ?_
       rintro e w1 ⟨rfl, rfl⟩
       go_wp2_with fail
       refine (HI.out _ HE.out).mono ?_
       rintro e w1 ⟨rfl, hb1⟩
       clear qc fc
       obtain ⟨qc, fc⟩ := (HK.out.below hb1).out
       go_wp2_with fail
       go_ret
       first | exact ⟨rfl, below_then HB.out hb1⟩ | exact ⟨ret_bool (by simp; omega), below_then HB.out hb1⟩
     · clear hi
       by_cases h2 : oc = 1 ∨ oc = 2
       · rw [decide_eq_true h2] at HU
         by_cases h3 : 0 ≤ dp
         · by_cases h4 : dp ≤ 3
           · rw [decide_eq_true ⟨h2, h3, h4⟩]
             clear h2
             go_enter Tryz.func133, Tryz.ntmps133
             go_wp2_with fail
             refine (HD.out _).mono ?_
             rintro e w1 ⟨rfl, rfl⟩
             go_wp2_with fail
             refine (HO.out _).mono ?_
             rintro e w1 ⟨rfl, rfl⟩
             go_wp2_with fail
             refine (HI.out _ HE.out).mono ?_
             rintro e w1 ⟨rfl, hb1⟩
             clear qc fc
             obtain ⟨qc, fc⟩ := (HK.out.below hb1).out
             go_wp2_with fail
             refine (HU.out _).mono ?_
             rintro e w2 ⟨rfl, rfl⟩
             go_wp2_with fail
             go_ret
             first | exact ⟨rfl, below_then HB.out hb1⟩ | exact ⟨ret_bool (by simp; omega), below_then HB.out hb1⟩
           · rw [decide_eq_false (fun h => h4 h.2.2)]
             clear h2
             go_enter Tryz.func133, Tryz.ntmps133
             go_wp2_with fail
             refine (HD.out _).mono ?_
             rintro e w1 ⟨rfl, rfl⟩
             go_wp2_with fail
             refine (HO.out _).mono ?_
             rintro e w1 ⟨rfl, rfl⟩
             go_wp2_with fail
             refine (HI.out _ HE.out).mono ?_
             rintro e w1 ⟨rfl, hb1⟩
             clear qc fc
             obtain ⟨qc, fc⟩ := (HK.out.below hb1).out
             go_wp2_with fail
             refine (HU.out _).mono ?_
             rintro e w2 ⟨rfl, rfl⟩
             go_wp2_with fail
             go_ret
             first | exact ⟨rfl, below_then HB.out hb1⟩ | exact ⟨ret_bool (by simp; omega), below_then HB.out hb1⟩
         · rw [decide_eq_false (fun h => h3 h.2.1)]
           clear h2
           go_enter Tryz.func133, Tryz.ntmps133
           go_wp2_with fail
           refine (HD.out _).mono ?_
           rintro e w1 ⟨rfl, rfl⟩
           go_wp2_with fail
           refine (HO.out _).mono ?_
           rintro e w1 ⟨rfl, rfl⟩
           go_wp2_with fail
           refine (HI.out _ HE.out).mono ?_
           rintro e w1 ⟨rfl, hb1⟩
           clear qc fc
           obtain ⟨qc, fc⟩ := (HK.out.below hb1).out
           go_wp2_with fail
           refine (HU.out _).mono ?_
           rintro e w2 ⟨rfl, rfl⟩
           go_wp2_with fail
           go_ret
           first | exact ⟨rfl, below_then HB.out hb1⟩ | exact ⟨ret_bool (by simp; omega), below_then HB.out hb1⟩
       · rw [decide_eq_false h2] at HU
         rw [decide_eq_false (fun h => h2 h.1)]
         clear h2
         go_enter Tryz.func133, Tryz.ntmps133
         go_wp2_with fail
         refine (HD.out _).mono ?_
         rintro e w1 ⟨rfl, rfl⟩
         go_wp2_with fail
         refine (HO.out _).mono ?_
         rintro e w1 ⟨rfl, rfl⟩
         go_wp2_with fail
         refine (HI.out _ HE.out).mono ?_
         rintro e w1 ⟨rfl, hb1⟩
         clear qc fc
         obtain ⟨qc, fc⟩ := (HK.out.below hb1).out
         go_wp2_with fail
         refine (HU.out _).mono ?_
         rintro e w2 ⟨rfl, rfl⟩
         go_wp2_with fail
         go_ret
         first | exact ⟨rfl, below_then HB.out hb1⟩ | exact ⟨ret_bool (by simp; omega), below_then HB.out hb1⟩
   · rw [decide_eq_false h1] at hf ⊢
     clear h1
     go_enter Tryz.func133, Tryz.ntmps133
     go_wp2_with fail
     refine (HD.out _).mono ?_
     rintro e w1 ⟨rfl, rfl⟩
     go_wp2_with fail
     refine (HO.out _).mono ?_
     rintro e w1 ⟨rfl, rfl⟩
     go_wp2_with fail
     go_ret
     exact ⟨rfl, HB.out⟩
end Go.Proofs.YtlkajejbfojkeaaGreatDoor

namespace Go.Proofs.YtlkajejbfojkeaaGreatDoor
open Go.RowKit Go.Shelf

theorem bits_of (x : Nat) (hx : F64 x) (w : World) : Calls Tryz.prog 217 #[flV x] w (Gives (.int .u64 (fplain x : Nat)) w) := by
 have HP := Lib.hid (fun W => plain_of x hx W)
 have hb := bits_run (fplain x)
 go_enter Tryz.func217, Tryz.ntmps217
 go_wp2_with fail
 refine (HP.out _).mono ?_
 rintro e w1 ⟨rfl, rfl⟩
 go_wp2_with fail
 go_ret
 exact ⟨rfl, rfl⟩
theorem fl0 (d : Nat) (w : World) : (Op.equalIn (d + 1) 37 (.float .f64 0) (.float .f64 0)).run Tryz.prog w = .ok true w := by
 have hz : Op.floatEq FloatKind.f64 0 0 = true := by kernel_rfl
 simp [Op.equalIn, run_underlying Tryz.underlying37, hz]
theorem fl00 (w : World) : (Op.equalIn 9999 37 (.float .f64 0) (.float .f64 0)).run Tryz.prog w = .ok true w := fl0 9998 w
theorem factEq (T : TypeId) (hT : T = 39) (a0 a1 a2 a3 a4 a5 a6 a7 a8 a9 a10 a11 a12 b0 b1 b2 b3 b4 b5 b6 b7 b8 b9 b10 b11 b12 : Int) (w : World) :
   (binOp .eql T (.agg #[.int .i64 a0, .int .i64 a1, .int .i64 a2, .int .i64 a3, .int .i64 a4, .int .i64 a5, .int .i64 a6, .int .i64 a7, .int .i64 a8, .int .i64 a9, .int .i64 a10, .int .i64 a11, .int .i64 a12, .float .f64 0]) (.agg #[.int .i64 b0, .int .i64 b1, .int .i64 b2, .int .i64 b3, .int .i64 b4, .int .i64 b5, .int .i64 b6, .int .i64 b7, .int .i64 b8, .int .i64 b9, .int .i64 b10, .int .i64 b11, .int .i64 b12, .float .f64 0])).run Tryz.prog w = .ok (.bool (a0 == b0 && (a1 == b1 && (a2 == b2 && (a3 == b3 && (a4 == b4 && (a5 == b5 && (a6 == b6 && (a7 == b7 && (a8 == b8 && (a9 == b9 && (a10 == b10 && (a11 == b11 && (a12 == b12)))))))))))))) w := by
 subst hT
 have hz := fl00
 go_simp
 by_cases h0 : a0 = b0
 · rw [if_pos h0, beq_iff_eq.2 h0]
   by_cases h1 : a1 = b1
   · rw [if_pos h1, beq_iff_eq.2 h1]
     by_cases h2 : a2 = b2
     · rw [if_pos h2, beq_iff_eq.2 h2]
       by_cases h3 : a3 = b3
       · rw [if_pos h3, beq_iff_eq.2 h3]
         by_cases h4 : a4 = b4
         · rw [if_pos h4, beq_iff_eq.2 h4]
           by_cases h5 : a5 = b5
           · rw [if_pos h5, beq_iff_eq.2 h5]
             by_cases h6 : a6 = b6
             · rw [if_pos h6, beq_iff_eq.2 h6]
               by_cases h7 : a7 = b7
               · rw [if_pos h7, beq_iff_eq.2 h7]
                 by_cases h8 : a8 = b8
                 · rw [if_pos h8, beq_iff_eq.2 h8]
                   by_cases h9 : a9 = b9
                   · rw [if_pos h9, beq_iff_eq.2 h9]
                     by_cases h10 : a10 = b10
                     · rw [if_pos h10, beq_iff_eq.2 h10]
                       by_cases h11 : a11 = b11
                       · rw [if_pos h11, beq_iff_eq.2 h11]
                         by_cases h12 : a12 = b12 <;> simp [h12]
                       · simp [h11]
                     · simp [h10]
                   · simp [h9]
                 · simp [h8]
               · simp [h7]
             · simp [h6]
           · simp [h5]
         · simp [h4]
       · simp [h3]
     · simp [h2]
   · simp [h1]
 · simp [h0]
end Go.Proofs.YtlkajejbfojkeaaGreatDoor
