/- The program's float functions (floats), each once: class, Plain, Delay, Due; and the reference's order. -/
import Derived.Test.YtkidljiffeonjaaDoorRows
import Derived.WalkKit
import Derived.WalkSpells
import Derived.WalkLawsBesides
import Derived.BigQuiet
import Derived.Deep.QuietTactic
import Derived.StillTailTactics
import Derived.Handy
import Derived.Lib.Hide
import Derived.Test.YtkidljiffeonjaaDoorFlA
import Derived.Test.YtkidljiffeonjaaDoorTabC
set_option linter.unusedSimpArgs false
set_option linter.unusedVariables false
namespace Go.Proofs.YtkidljiffeonjaaDoor
open Go.RowKit

theorem sign_pos (x : Nat) (y : Int) (hy : 0 ≤ wrap64 y) (hb : ∀ w, (callFunc 119 #[flV x]).run Tryd.prog w = .ok (.value (.int .u64 y)) w) (w : World) : Calls Tryd.prog 154 #[flV x] w (Gives (.bool false) w) := by
  go_enter Tryd.func154, Tryd.ntmps154
  go_wp2
  go_ret
  exact ⟨ret_bool (by first | rfl | (simp [hy]; done) | (simp; exact hy)), rfl⟩
theorem sign_neg (x : Nat) (y : Int) (hy : wrap64 y < 0) (hb : ∀ w, (callFunc 119 #[flV x]).run Tryd.prog w = .ok (.value (.int .u64 y)) w) (w : World) : Calls Tryd.prog 154 #[flV x] w (Gives (.bool true) w) := by
  go_enter Tryd.func154, Tryd.ntmps154
  go_wp2
  go_ret
  exact ⟨ret_bool (by first | rfl | (simp [hy]; done) | (simp; exact hy)), rfl⟩
theorem sign_of (x : Nat) (hx : F64 x) (w : World) : (x < 9223372036854775808 → Calls Tryd.prog 154 #[flV x] w (Gives (.bool false) w)) ∧ (9223372036854775808 ≤ x → Calls Tryd.prog 154 #[flV x] w (Gives (.bool true) w)) := by
  unfold F64 at hx
  constructor
  · intro h
    exact sign_pos x (x : Int) (by unfold wrap64; omega) (bits_run x) w
  · intro h
    exact sign_neg x (x : Int) (by unfold wrap64; omega) (bits_run x) w
theorem class_a (x : Nat) (h1 : (FloatKind.f64.format.order x x != some .eq) = true) (w : World) : Calls Tryd.prog 115 #[flV x] w (Gives (.int .i64 2) w) := by
  go_enter Tryd.func115, Tryd.ntmps115
  go_wp2
  go_ret
  exact ⟨rfl, rfl⟩
theorem class_b (x : Nat) (h1 : (FloatKind.f64.format.order x x != some .eq) = false) (h2 : (FloatKind.f64.format.order x 0 == some .eq) = false) (w : World) : Calls Tryd.prog 115 #[flV x] w (Gives (.int .i64 1) w) := by
  go_enter Tryd.func115, Tryd.ntmps115
  go_wp2
  go_ret
  exact ⟨rfl, rfl⟩
theorem class_c (x : Nat) (h1 : (FloatKind.f64.format.order x x != some .eq) = false) (h2 : (FloatKind.f64.format.order x 0 == some .eq) = true) (hs : ∀ W, Calls Tryd.prog 154 #[flV x] W (Gives (.bool false) W)) (w : World) : Calls Tryd.prog 115 #[flV x] w (Gives (.int .i64 1) w) := by
  go_enter Tryd.func115, Tryd.ntmps115
  go_wp2_with (go_at_call 154; refine (hs _).mono ?_; rintro e w1 ⟨rfl, rfl⟩)
  go_ret
  exact ⟨rfl, rfl⟩
theorem class_d (x : Nat) (h1 : (FloatKind.f64.format.order x x != some .eq) = false) (h2 : (FloatKind.f64.format.order x 0 == some .eq) = true) (hs : ∀ W, Calls Tryd.prog 154 #[flV x] W (Gives (.bool true) W)) (w : World) : Calls Tryd.prog 115 #[flV x] w (Gives (.int .i64 0) w) := by
  go_enter Tryd.func115, Tryd.ntmps115
  go_wp2_with (go_at_call 154; refine (hs _).mono ?_; rintro e w1 ⟨rfl, rfl⟩)
  go_ret
  exact ⟨rfl, rfl⟩
theorem class_of (x : Nat) (hx : F64 x) (w : World) : Calls Tryd.prog 115 #[flV x] w (Gives (.int .i64 (fclass x)) w) := by
  have e1 : (FloatKind.f64.format.order x x != some .eq) = fnan x := by
    rw [bne, run_feq x x hx hx]; unfold feq; cases fnan x <;> simp
  have e2 := run_feq x 0 hx f64_zero
  have h0 : fkey 0 = 0 := by decide
  have hn0 : fnan 0 = false := by decide
  unfold fclass
  cases hn : fnan x with
  | true =>
    rw [hn] at e1
    exact class_a x e1 w
  | false =>
    rw [hn] at e1
    unfold feq at e2
    rw [hn, hn0, h0] at e2
    simp only [Bool.not_false, Bool.true_and, Bool.false_eq_true, if_false] at e2 ⊢
    by_cases h1 : x = 9223372036854775808
    · have : fkey x = 0 := by rw [h1]; decide
      rw [decide_eq_true this] at e2
      rw [if_pos h1]
      exact class_d x e1 e2 (fun W => (sign_of x hx W).2 (by omega)) w
    · rw [if_neg h1]
      by_cases h2 : x = 0
      · have : fkey x = 0 := by rw [h2]; decide
        rw [decide_eq_true this] at e2
        exact class_c x e1 e2 (fun W => (sign_of x hx W).1 (by omega)) w
      · have : ¬ fkey x = 0 := by unfold fkey; unfold F64 at hx; split <;> omega
        rw [decide_eq_false this] at e2
        exact class_b x e1 e2 w
theorem nan_of (w : World) : Calls Tryd.prog 120 #[] w (Gives (flV 9221120237041090561) w) := by
  have hf := frombits_run 9221120237041090561
  go_enter Tryd.func120, Tryd.ntmps120
  go_wp2
  go_ret
  exact ⟨rfl, rfl⟩
theorem plain_of (x : Nat) (hx : F64 x) (w : World) : Calls Tryd.prog 86 #[flV x] w (Gives (flV (fplain x)) w) := by
  have hC := fun W => class_of x hx W
  unfold fclass at hC
  unfold fplain
  have HN := Lib.hid nan_of
  cases hn : fnan x with
  | true =>
    simp only [hn, if_true] at hC ⊢
    clear hx hn
    go_enter Tryd.func86, Tryd.ntmps86
    go_wp2_with (first | (go_at_call 115; refine (hC _).mono ?_; rintro e w1 ⟨rfl, rfl⟩) | (go_at_call 120; refine (HN.out _).mono ?_; rintro e w1 ⟨rfl, rfl⟩))
    go_ret
    exact ⟨rfl, rfl⟩
  | false =>
    simp only [hn, Bool.false_eq_true, if_false] at hC ⊢
    by_cases h1 : x = 9223372036854775808
    · rw [if_pos h1]
      simp only [h1, if_true] at hC
      subst h1
      clear hx hn
      go_enter Tryd.func86, Tryd.ntmps86
      go_wp2_with (first | (go_at_call 115; refine (hC _).mono ?_; rintro e w1 ⟨rfl, rfl⟩))
      go_ret
      exact ⟨rfl, rfl⟩
    · rw [if_neg h1]
      simp only [h1, if_false] at hC
      clear hx hn h1
      go_enter Tryd.func86, Tryd.ntmps86
      go_wp2_with (first | (go_at_call 115; refine (hC _).mono ?_; rintro e w1 ⟨rfl, rfl⟩))
      go_ret
      exact ⟨rfl, rfl⟩
theorem delay_yes (x : Nat) (hx : F64 x) (hd : fdelay x = true) (w : World) : Calls Tryd.prog 48 #[flV x] w (Gives (.tuple #[flV (fplain x), .nilIface]) w) := by
  have HP := Lib.hid (fun W => plain_of x hx W)
  have e1 := run_fge x 0 hx f64_zero
  rw [fle_zero x hx, hd] at e1
  clear hx hd
  go_enter Tryd.func48, Tryd.ntmps48
  go_wp2_with (first | (go_at_call 86; refine (HP.out _).mono ?_; rintro e w1 ⟨rfl, rfl⟩))
  go_ret2
  exact ⟨rfl, rfl⟩
theorem delay_no (x : Nat) (hx : F64 x) (hd : fdelay x = false) (a : Addr) (w : World) (he : ErrIs w 0 a) : Calls Tryd.prog 48 #[flV x] w (Makes (.tuple #[flV 0, errV a]) w) := by
  have e1 := run_fge x 0 hx f64_zero
  rw [fle_zero x hx, hd] at e1
  have h1 : w.cell? ⟨0, 0, none⟩ = some (errV a) := he
  clear hx hd he
  go_enter Tryd.func48, Tryd.ntmps48
  go_wp2_with fail
  go_region
  all_goals go_wp2
  all_goals go_ret2
  all_goals exact ⟨rfl, by go_grown⟩
theorem due_of (x y : Nat) (hx : F64 x) (hy : F64 y) (w : World) : Calls Tryd.prog 74 #[flV x, flV y] w (Gives (.bool (fdelay x && fdelay y && fle y x)) w) := by
  have e1 := run_fge x 0 hx f64_zero
  have e2 := run_fge y 0 hy f64_zero
  have e3 := run_fle y x hy hx
  rw [fle_zero x hx] at e1
  rw [fle_zero y hy] at e2
  generalize fdelay x = a at *
  generalize fdelay y = b at *
  generalize fle y x = c at *
  clear hx hy
  cases a
  · go_enter Tryd.func74, Tryd.ntmps74
    go_wp2
    go_ret
    exact ⟨ret_bool (by simp), rfl⟩
  cases b
  · go_enter Tryd.func74, Tryd.ntmps74
    go_wp2
    go_ret
    exact ⟨ret_bool (by simp), rfl⟩
  go_enter Tryd.func74, Tryd.ntmps74
  go_wp2
  go_ret
  exact ⟨ret_bool (by first | rfl | simp [e3]), rfl⟩
end Go.Proofs.YtkidljiffeonjaaDoor
