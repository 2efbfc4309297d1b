/- The walks of package trace: numbers, what a text means. -/
import Derived.Test.YthjdaehiebcoaaaGreatDoorRows
import Derived.WalkKit
import Derived.WalkSpells
import Derived.WalkLawsBesides
import Derived.BigQuiet
import Derived.Deep.QuietTactic
import Derived.StillTailTactics
import Derived.Handy
import Derived.Lib.Hide
import Derived.Test.YthjdaehiebcoaaaGreatDoorTrcA
import Derived.Deep.RegionWith
import Derived.Deep.RegionHeld3
import Derived.Test.YthjdaehiebcoaaaGreatDoorQuiet
set_option linter.unusedSimpArgs false
set_option linter.unusedVariables false
namespace Go.Proofs.YthjdaehiebcoaaaGreatDoor
open Go.RowKit

theorem fail_if (c : Bool) (v : Value) (w : World) (hc : c = true) : Calls Tryz.prog 20 #[.bool c, v] w (Gives (.tuple #[]) w) := hc ▸ fail_ok v w
theorem fail_unless (c : Bool) (a : Addr) (w : World) (hc : c = false) : Calls Tryz.prog 20 #[.bool c, errV a] w (fun e w' => e = .panicked [{ v := errV a, recovered := false }] ∧ w = w') := by
  subst hc; exact fail_no a w
/-- the byte at a place of a text -/
def byteAt (s : Str) (j : Nat) : Int := ((s.getD j 0).toNat : Int)
theorem small_byte (b : UInt8) : 0 ≤ (b.toNat : Int) ∧ (b.toNat : Int) < 256 := by
  have h := b.toNat_lt
  obtain ⟨n, hn⟩ : ∃ n, n = b.toNat := ⟨_, rfl⟩
  rw [← hn] at h ⊢
  omega
theorem byteAt_range (s : Str) (j : Nat) : 0 ≤ byteAt s j ∧ byteAt s j < 256 := small_byte _
theorem bs_get (s : Str) (j : Nat) (h : j < (bs s).size) : ((bs s)[j]'h) = s.getD j 0 := by
  have hj : j < s.length := by rw [bs_size] at h; exact h
  rw [List.getD, List.getElem?_eq_getElem hj]
  rfl
theorem digs_head {s : Str} (h : tDigs s = true) (h0 : s ≠ [48]) : byteAt s 0 ≠ 48 := by
  unfold tDigs at h
  simp only [Bool.and_eq_true, Bool.not_eq_true', beq_eq_false_iff_ne, ne_eq, Bool.or_eq_true, beq_iff_eq] at h
  obtain ⟨⟨hne, hh⟩, _⟩ := h
  rcases hh with hh | hh
  · exact absurd hh h0
  · cases s with
    | nil => exact absurd rfl hne
    | cons c r =>
      intro e
      apply hh
      have : c.toNat = 48 := by unfold byteAt at e; simpa using (by exact_mod_cast e : c.toNat = 48)
      have h48 : (48 : UInt8).toNat = 48 := rfl
      simp [UInt8.toNat_inj.1 (this.trans h48.symm)]
theorem digs_all {s : Str} (h : tDigs s = true) (j : Nat) (hj : j < s.length) : 48 ≤ byteAt s j ∧ byteAt s j ≤ 57 := by
  unfold tDigs at h
  simp only [Bool.and_eq_true] at h
  have h1 := List.all_eq_true.1 h.2 (s.getD j 0) (by rw [List.getD, List.getElem?_eq_getElem hj]; exact List.getElem_mem _)
  simp only [tDig, Bool.and_eq_true, decide_eq_true_eq, UInt8.le_iff_toNat_le] at h1
  unfold byteAt
  have e48 : (48 : UInt8).toNat = 48 := rfl
  have e57 : (57 : UInt8).toNat = 57 := rfl
  rw [e48, e57] at h1
  obtain ⟨n, hn⟩ : ∃ n, n = (s.getD j 0).toNat := ⟨_, rfl⟩
  rw [← hn] at h1 ⊢
  omega
theorem val_take {s : Str} {j : Nat} (hj : j < s.length) : tVal (s.take (j + 1)) = 10 * tVal (s.take j) + ((s.getD j 0).toNat - 48) := by
  rw [List.take_succ_eq_append_getElem hj]
  unfold tVal
  rw [List.foldl_append]
  simp [dgv, List.getD, List.getElem?_eq_getElem hj]
theorem val_small {s : Str} (h : s.all tDig = true) {j : Nat} (hj : j ≤ 7) : tVal (s.take j) < 10 ^ j := by
  have h2 : (s.take j).all tDig = true := List.all_eq_true.2 fun x hx => List.all_eq_true.1 h x (List.mem_of_mem_take hx)
  have h3 := val_lt (s.take j) 0 h2
  have hl : (s.take j).length ≤ j := by rw [List.length_take]; omega
  have : 10 ^ (s.take j).length ≤ 10 ^ j := Nat.pow_le_pow_right (by omega) hl
  unfold tVal
  omega
theorem val_small' {s : Str} {j : Nat} (h2 : (s.take j).all tDig = true) (hj : j ≤ 7) : tVal (s.take j) < 10 ^ j := by
  have h3 := val_lt (s.take j) 0 h2
  have hl : (s.take j).length ≤ j := by rw [List.length_take]; omega
  have : 10 ^ (s.take j).length ≤ 10 ^ j := Nat.pow_le_pow_right (by omega) hl
  unfold tVal
  omega
set_option maxRecDepth 20000 in
set_option maxHeartbeats 1000000 in
theorem number_yes (s : Str) (hs : s.length ≤ 100000) (hd : tDigs s = true) (ea : Int → Addr) (w : World) (h : Errs ea w) :
    Calls Tryz.prog 22 #[.string (bs s)] w (Makes (.int .i64 (tVal7 s)) w) := by
  have h4 : w.cell? ⟨0, 0, none⟩ = some (errV (ea 4)) := h.e4
  have e1 : ((bs s).toList == []) = false := by
    rw [bs_toList]; unfold tDigs at hd; simp only [Bool.and_eq_true] at hd; simpa using hd.1.1
  have hl0 : 0 < s.length := by
    rcases Nat.eq_zero_or_pos s.length with h | h
    · rw [bs_toList, List.eq_nil_of_length_eq_zero h] at e1; cases e1
    · exact h
  have hall : s.all tDig = true := by unfold tDigs at hd; simp only [Bool.and_eq_true] at hd; exact hd.2
  obtain ⟨n, hn⟩ : ∃ n : Nat, n = s.length := ⟨_, rfl⟩
  have hsz : (bs s).size = n := by rw [bs_size, hn]
  have hn0 : 0 < n := by omega
  have hn1 : n ≤ 100000 := by omega
  have HD := Lib.hid hd; have HN := Lib.hid hn; have HA := Lib.hid hall
  clear h hd hs hl0 hn hall
  by_cases h0 : s = [48]
  · have e2 : ((bs s).toList == [48]) = true := by rw [bs_toList, h0]; rfl
    clear h0
    go_enter Tryz.func22, Tryz.ntmps22
    go_wp2_with fail
    go_quiet ((go_at_call 20; exact Calls.quiet_of_same ((fail_if _ _ _ (by first | rfl)).mono fun e w' h => ⟨h.1, h.2.symm⟩)))
    clear e1 e2
    go_wp2_with fail
    go_loopw [3, 20] (fun a i wr => ∃ j x : Nat, j ≤ n ∧ a = .int .i64 (x : Int) ∧ i = .int .i64 j ∧ Below w.heap.size w wr ∧ x ≤ 9999999 ∧ Hid (x = tVal (s.take (min j 7)))) (fun _ i _ => n - (intOf i).toNat)
    case atStart => exact ⟨0, 0, Nat.zero_le _, rfl, rfl, ⟨rfl, rfl, rfl, Nat.le_refl _, fun _ _ => rfl⟩, by omega, Lib.hid rfl⟩
    case round =>
      obtain ⟨j, x, hj, rfl, rfl, hB, hx, HV⟩ := hrel
      have k4 : wr.cell? ⟨0, 0, none⟩ = some (errV (ea 4)) := ErrIs.below h4 hB
      by_cases hjn : j < n
      · have hjs : j < (bs s).size := by omega
        have hb : 48 ≤ (((bs s)[j]'hjs).toNat : Int) ∧ (((bs s)[j]'hjs).toNat : Int) ≤ 57 := by rw [bs_get]; exact digs_all HD.out j (by rw [← HN.out]; exact hjn)
        obtain ⟨b0, b1⟩ := hb
        have hj0 : (0 : Int) ≤ (j : Int) := by omega
        have hj1 : (j : Int) < (n : Int) := by omega
        go_wp2_with fail
        go_quiet ((go_at_call 20; exact Calls.quiet_of_same ((fail_if _ _ _ (by first | rfl)).mono fun e w' h => ⟨h.1, h.2.symm⟩)))
        have hB2 : Below w.heap.size w (wr.drewN nq) := hB.trans ⟨rfl, rfl, rfl, Nat.le_refl _, fun _ _ => rfl⟩
        clear k4
        by_cases h6 : (j : Int) ≤ 6
        · have hxs : x < 1000000 := by
            have h1 := val_small HA.out (j := j) (by omega)
            have h2 : 10 ^ j ≤ 10 ^ 6 := Nat.pow_le_pow_right (by omega) (by omega)
            have h3 := HV.out
            rw [Nat.min_eq_left (by omega)] at h3
            omega
          have hval : 10 * x + ((s.getD j 0).toNat - 48) = tVal (s.take (min (j + 1) 7)) := by
            have h3 := HV.out
            rw [Nat.min_eq_left (by omega)] at h3
            rw [Nat.min_eq_left (by omega), val_take (by rw [← HN.out]; exact hjn), ← h3]
          have hbe : (((bs s)[j]'hjs).toNat : Int) - 48 = ((((s.getD j 0).toNat - 48 : Nat)) : Int) := by
            rw [bs_get] at b0 ⊢
            generalize (s.getD j 0).toNat = q at b0 ⊢
            omega
          have hd9 : (s.getD j 0).toNat - 48 ≤ 9 := by
            rw [bs_get] at b1
            generalize (s.getD j 0).toNat = q at b1 ⊢
            omega
          have HVAL := Lib.hid hval; have HBE := Lib.hid hbe
          clear hval hbe
          go_wp2_with fail
          go_roundw
          case rel => exact ⟨j + 1, 10 * x + ((s.getD j 0).toNat - 48), by omega, by rw [HBE.out]; go_num, by go_num, hB2, by omega, HVAL⟩
          case measure => simp [intOf]; omega
        · have hval : x = tVal (s.take (min (j + 1) 7)) := by
            have h3 := HV.out
            rw [Nat.min_eq_right (by omega)] at h3 ⊢
            exact h3
          have HVAL := Lib.hid hval
          clear hval
          go_wp2_with fail
          go_roundw
          case rel => exact ⟨j + 1, x, by omega, by go_num, by go_num, hB2, by omega, HVAL⟩
          case measure => simp [intOf]; omega
      · obtain rfl : j = n := by omega
        have hval : x = tVal7 s := by
          have h3 := HV.out
          unfold tVal7
          rw [h3, HN.out]
          by_cases h7 : s.length ≤ 7
          · rw [Nat.min_eq_left h7, List.take_of_length_le (Nat.le_refl _), List.take_of_length_le h7]
          · rw [Nat.min_eq_right (by omega)]
        have HVAL := Lib.hid hval
        clear k4 hval
        go_wp2_with fail
        go_ret
        exact ⟨ret_int (by rw [HVAL.out]), hB⟩
  · have e2 : ((bs s).toList == [48]) = false := by rw [bs_toList]; simpa using h0
    have HX : Hid (∀ h : 0 < (bs s).size, ((((bs s)[0]'h).toNat : Int) != 48) = true) := Lib.hid (fun h => by
      rw [bs_get s 0 h]
      have := digs_head HD.out h0
      simpa [byteAt] using this)
    clear h0
    go_enter Tryz.func22, Tryz.ntmps22
    go_wp2_with fail
    go_quiet ((go_at_call 20; exact Calls.quiet_of_same ((fail_if _ _ _ (by first | rfl | exact HX.out _)).mono fun e w' h => ⟨h.1, h.2.symm⟩)))
    clear e1 e2
    go_wp2_with fail
    go_loopw [3, 20] (fun a i wr => ∃ j x : Nat, j ≤ n ∧ a = .int .i64 (x : Int) ∧ i = .int .i64 j ∧ Below w.heap.size w wr ∧ x ≤ 9999999 ∧ Hid (x = tVal (s.take (min j 7)))) (fun _ i _ => n - (intOf i).toNat)
    case atStart => exact ⟨0, 0, Nat.zero_le _, rfl, rfl, ⟨rfl, rfl, rfl, Nat.le_refl _, fun _ _ => rfl⟩, by omega, Lib.hid rfl⟩
    case round =>
      obtain ⟨j, x, hj, rfl, rfl, hB, hx, HV⟩ := hrel
      have k4 : wr.cell? ⟨0, 0, none⟩ = some (errV (ea 4)) := ErrIs.below h4 hB
      by_cases hjn : j < n
      · have hjs : j < (bs s).size := by omega
        have hb : 48 ≤ (((bs s)[j]'hjs).toNat : Int) ∧ (((bs s)[j]'hjs).toNat : Int) ≤ 57 := by rw [bs_get]; exact digs_all HD.out j (by rw [← HN.out]; exact hjn)
        obtain ⟨b0, b1⟩ := hb
        have hj0 : (0 : Int) ≤ (j : Int) := by omega
        have hj1 : (j : Int) < (n : Int) := by omega
        go_wp2_with fail
        go_quiet ((go_at_call 20; exact Calls.quiet_of_same ((fail_if _ _ _ (by first | rfl)).mono fun e w' h => ⟨h.1, h.2.symm⟩)))
        have hB2 : Below w.heap.size w (wr.drewN nq) := hB.trans ⟨rfl, rfl, rfl, Nat.le_refl _, fun _ _ => rfl⟩
        clear k4
        by_cases h6 : (j : Int) ≤ 6
        · have hxs : x < 1000000 := by
            have h1 := val_small HA.out (j := j) (by omega)
            have h2 : 10 ^ j ≤ 10 ^ 6 := Nat.pow_le_pow_right (by omega) (by omega)
            have h3 := HV.out
            rw [Nat.min_eq_left (by omega)] at h3
            omega
          have hval : 10 * x + ((s.getD j 0).toNat - 48) = tVal (s.take (min (j + 1) 7)) := by
            have h3 := HV.out
            rw [Nat.min_eq_left (by omega)] at h3
            rw [Nat.min_eq_left (by omega), val_take (by rw [← HN.out]; exact hjn), ← h3]
          have hbe : (((bs s)[j]'hjs).toNat : Int) - 48 = ((((s.getD j 0).toNat - 48 : Nat)) : Int) := by
            rw [bs_get] at b0 ⊢
            generalize (s.getD j 0).toNat = q at b0 ⊢
            omega
          have hd9 : (s.getD j 0).toNat - 48 ≤ 9 := by
            rw [bs_get] at b1
            generalize (s.getD j 0).toNat = q at b1 ⊢
            omega
          have HVAL := Lib.hid hval; have HBE := Lib.hid hbe
          clear hval hbe
          go_wp2_with fail
          go_roundw
          case rel => exact ⟨j + 1, 10 * x + ((s.getD j 0).toNat - 48), by omega, by rw [HBE.out]; go_num, by go_num, hB2, by omega, HVAL⟩
          case measure => simp [intOf]; omega
        · have hval : x = tVal (s.take (min (j + 1) 7)) := by
            have h3 := HV.out
            rw [Nat.min_eq_right (by omega)] at h3 ⊢
            exact h3
          have HVAL := Lib.hid hval
          clear hval
          go_wp2_with fail
          go_roundw
          case rel => exact ⟨j + 1, x, by omega, by go_num, by go_num, hB2, by omega, HVAL⟩
          case measure => simp [intOf]; omega
      · obtain rfl : j = n := by omega
        have hval : x = tVal7 s := by
          have h3 := HV.out
          unfold tVal7
          rw [h3, HN.out]
          by_cases h7 : s.length ≤ 7
          · rw [Nat.min_eq_left h7, List.take_of_length_le (Nat.le_refl _), List.take_of_length_le h7]
          · rw [Nat.min_eq_right (by omega)]
        have HVAL := Lib.hid hval
        clear k4 hval
        go_wp2_with fail
        go_ret
        exact ⟨ret_int (by rw [HVAL.out]), hB⟩
theorem digs_cases {s : Str} (h : tDigs s = false) : s = [] ∨ s ≠ [] ∧ s ≠ [48] ∧ byteAt s 0 = 48 ∨ s ≠ [] ∧ s ≠ [48] ∧ byteAt s 0 ≠ 48 ∧ s.all tDig = false := by
  by_cases h1 : s = []
  · exact .inl h1
  by_cases h2 : s = [48]
  · subst h2; exact absurd h (by decide)
  right
  by_cases h3 : byteAt s 0 = 48
  · exact .inl ⟨h1, h2, h3⟩
  refine .inr ⟨h1, h2, h3, ?_⟩
  cases hall : s.all tDig with
  | false => rfl
  | true =>
    unfold tDigs at h
    rw [hall] at h
    have hh : (s.head? == some 48) = false := by
      cases s with
      | nil => rfl
      | cons c r =>
        have : c ≠ 48 := fun e => h3 (by subst e; rfl)
        simpa using this
    rw [hh] at h
    simp [h1] at h
theorem dig_byte {s : Str} {j : Nat} (hj : j < s.length) : tDig s[j] = (decide (48 ≤ byteAt s j) && decide (byteAt s j ≤ 57)) := by
  unfold tDig byteAt
  rw [List.getD, List.getElem?_eq_getElem hj]
  have e48 : (48 : UInt8).toNat = 48 := rfl
  have e57 : (57 : UInt8).toNat = 57 := rfl
  have a1 : decide ((48 : UInt8) ≤ s[j]) = decide ((48 : Int) ≤ ((s[j].toNat : Nat) : Int)) := by
    rw [decide_eq_decide, UInt8.le_iff_toNat_le, e48]; omega
  have a2 : decide (s[j] ≤ (57 : UInt8)) = decide (((s[j].toNat : Nat) : Int) ≤ (57 : Int)) := by
    rw [decide_eq_decide, UInt8.le_iff_toNat_le, e57]; omega
  rw [a1, a2]; rfl
set_option maxRecDepth 20000 in
set_option maxHeartbeats 1000000 in
theorem number_no (s : Str) (hs : s.length ≤ 100000) (hd : tDigs s = false) (ea : Int → Addr) (w : World) (h : Errs ea w) :
    Calls Tryz.prog 22 #[.string (bs s)] w (Fails (errV (ea 4)) w) := by
  have h4 : w.cell? ⟨0, 0, none⟩ = some (errV (ea 4)) := h.e4
  have B0 : Below w.heap.size w w.drew := (Below.refl _ _).drew
  clear h
  rcases digs_cases hd with h1 | ⟨h1, h2, h3⟩ | ⟨h1, h2, h3, hall⟩
  · have e1 : (bs s).toList = [] := by rw [bs_toList, h1]
    clear h1 hd
    go_enter Tryz.func22, Tryz.ntmps22
    go_wp2_with fail
    refine wp_region_quiet_tail 12 _ _ rfl rfl (by kernel_rfl) (by kernel_rfl) ?_; simp only [List.take_succ_cons, List.take_zero, List.drop_succ_cons, List.drop_zero]; (repeat (first | go_big_quiet_skip | (go_big_quiet_want; go_big_quiet_op; go_big_quiet_on))); refine wpQuiet_nil ?_
    go_wp2_with (go_at_call 20; refine (fail_unless _ _ _ (by first | rfl)).mono ?_; rintro e w1 ⟨rfl, rfl⟩)
    exact ⟨rfl, rfl, B0⟩
  · have e1 : ((bs s).toList == []) = false := by rw [bs_toList]; simpa using h1
    have e2 : ((bs s).toList == [48]) = false := by rw [bs_toList]; simpa using h2
    have hl0 : 0 < s.length := by
      rcases Nat.eq_zero_or_pos s.length with h | h
      · exact absurd (List.eq_nil_of_length_eq_zero h) h1
      · exact h
    have hsz : 0 < (bs s).size := by rw [bs_size]; exact hl0
    have hx : ((((bs s)[0]'hsz).toNat : Int) == 48) = true := by rw [bs_get]; simpa [byteAt] using h3
    have HX : Hid (∀ h : 0 < (bs s).size, ((((bs s)[0]'h).toNat : Int) != 48) = false) := Lib.hid (fun h => by
      rw [bs_get s 0 h]
      simpa [byteAt] using h3)
    clear h1 h2 h3 hd
    go_enter Tryz.func22, Tryz.ntmps22
    go_wp2_with fail
    refine wp_region_quiet_tail 12 _ _ rfl rfl (by kernel_rfl) (by kernel_rfl) ?_; simp only [List.take_succ_cons, List.take_zero, List.drop_succ_cons, List.drop_zero]; (repeat (first | go_big_quiet_skip | (go_big_quiet_want; go_big_quiet_op; go_big_quiet_on))); refine wpQuiet_nil ?_
    go_wp2_with (go_at_call 20; refine (fail_unless _ _ _ (by first | rfl | exact HX.out _)).mono ?_; rintro e w1 ⟨rfl, rfl⟩)
    exact ⟨rfl, rfl, B0⟩
  · have e1 : ((bs s).toList == []) = false := by rw [bs_toList]; simpa using h1
    have e2 : ((bs s).toList == [48]) = false := by rw [bs_toList]; simpa using h2
    have hl0 : 0 < s.length := by
      rcases Nat.eq_zero_or_pos s.length with h | h
      · exact absurd (List.eq_nil_of_length_eq_zero h) h1
      · exact h
    have HX : Hid (∀ h : 0 < (bs s).size, ((((bs s)[0]'h).toNat : Int) != 48) = true) := Lib.hid (fun h => by
      rw [bs_get s 0 h]
      simpa [byteAt] using h3)
    obtain ⟨n, hn⟩ : ∃ n : Nat, n = s.length := ⟨_, rfl⟩
    have hsz : (bs s).size = n := by rw [bs_size, hn]
    have hn0 : 0 < n := by omega
    have hn1 : n ≤ 100000 := by omega
    have HN := Lib.hid hn; have HA := Lib.hid hall
    clear h1 h2 h3 hd hs hl0 hn hall
    go_enter Tryz.func22, Tryz.ntmps22
    go_wp2_with fail
    go_quiet ((go_at_call 20; exact Calls.quiet_of_same ((fail_if _ _ _ (by first | rfl | exact HX.out _)).mono fun e w' h => ⟨h.1, h.2.symm⟩)))
    clear e1 e2
    go_wp2_with fail
    go_loopw [3, 20] (fun a i wr => ∃ j x : Nat, j ≤ n ∧ a = .int .i64 (x : Int) ∧ i = .int .i64 j ∧ Below w.heap.size w wr ∧ x ≤ 9999999 ∧ Hid (x = tVal (s.take (min j 7)) ∧ (s.take j).all tDig = true)) (fun _ i _ => n - (intOf i).toNat)
    case atStart => exact ⟨0, 0, Nat.zero_le _, rfl, rfl, ⟨rfl, rfl, rfl, Nat.le_refl _, fun _ _ => rfl⟩, by omega, Lib.hid ⟨rfl, rfl⟩⟩
    case round =>
      obtain ⟨j, x, hj, rfl, rfl, hB, hx, HV⟩ := hrel
      have k4 : wr.cell? ⟨0, 0, none⟩ = some (errV (ea 4)) := ErrIs.below h4 hB
      by_cases hjn : j < n
      · have hjs : j < (bs s).size := by omega
        have hjl : j < s.length := by rw [← HN.out]; exact hjn
        have hj0 : (0 : Int) ≤ (j : Int) := by omega
        have hj1 : (j : Int) < (n : Int) := by omega
        have hbj : (((bs s)[j]'hjs).toNat : Int) = byteAt s j := by rw [bs_get]; rfl
        by_cases hlow : (((bs s)[j]'hjs).toNat : Int) < 48
        · have hf : decide (48 ≤ (((bs s)[j]'hjs).toNat : Int)) = false := decide_eq_false (by omega)
          clear hbj
          go_wp2_with fail
          refine wp_region_quiet_tail 11 _ _ rfl rfl (by kernel_rfl) (by kernel_rfl) ?_; simp only [List.take_succ_cons, List.take_zero, List.drop_succ_cons, List.drop_zero]; (repeat (first | go_big_quiet_skip | (go_big_quiet_want; go_big_quiet_op; go_big_quiet_on))); refine wpQuiet_nil ?_
          go_wp2_with (go_at_call 20; refine (fail_unless _ _ _ (by first | rfl)).mono ?_; rintro e w1 ⟨rfl, rfl⟩)
          exact ⟨rfl, rfl, hB.drew⟩
        · by_cases hhigh : 57 < (((bs s)[j]'hjs).toNat : Int)
          · have b0 : 48 ≤ (((bs s)[j]'hjs).toNat : Int) := by omega
            have hf : decide ((((bs s)[j]'hjs).toNat : Int) ≤ 57) = false := decide_eq_false (by omega)
            clear hbj
            go_wp2_with fail
            refine wp_region_quiet_tail 11 _ _ rfl rfl (by kernel_rfl) (by kernel_rfl) ?_; simp only [List.take_succ_cons, List.take_zero, List.drop_succ_cons, List.drop_zero]; (repeat (first | go_big_quiet_skip | (go_big_quiet_want; go_big_quiet_op; go_big_quiet_on))); refine wpQuiet_nil ?_
            go_wp2_with (go_at_call 20; refine (fail_unless _ _ _ (by first | rfl)).mono ?_; rintro e w1 ⟨rfl, rfl⟩)
            exact ⟨rfl, rfl, hB.drew⟩
          · have b0 : 48 ≤ (((bs s)[j]'hjs).toNat : Int) := by omega
            have b1 : (((bs s)[j]'hjs).toNat : Int) ≤ 57 := by omega
            have hdig : (s.take (j + 1)).all tDig = true := by
              rw [List.take_succ_eq_append_getElem hjl, List.all_append, HV.out.2, List.all_cons, dig_byte hjl, ← hbj, decide_eq_true b0, decide_eq_true b1]; rfl
            clear hlow hhigh hbj
            go_wp2_with fail
            go_quiet ((go_at_call 20; exact Calls.quiet_of_same ((fail_if _ _ _ (by first | rfl)).mono fun e w' h => ⟨h.1, h.2.symm⟩)))
            have hB2 : Below w.heap.size w (wr.drewN nq) := hB.trans ⟨rfl, rfl, rfl, Nat.le_refl _, fun _ _ => rfl⟩
            clear k4
            by_cases h6 : (j : Int) ≤ 6
            · have hxs : x < 1000000 := by
                have h1 := val_small' HV.out.2 (j := j) (by omega)
                have h2 : 10 ^ j ≤ 10 ^ 6 := Nat.pow_le_pow_right (by omega) (by omega)
                have h3 := HV.out.1
                rw [Nat.min_eq_left (by omega)] at h3
                omega
              have hval : 10 * x + ((s.getD j 0).toNat - 48) = tVal (s.take (min (j + 1) 7)) := by
                have h3 := HV.out.1
                rw [Nat.min_eq_left (by omega)] at h3
                rw [Nat.min_eq_left (by omega), val_take hjl, ← h3]
              have hbe : (((bs s)[j]'hjs).toNat : Int) - 48 = ((((s.getD j 0).toNat - 48 : Nat)) : Int) := by
                rw [bs_get] at b0 ⊢
                generalize (s.getD j 0).toNat = q at b0 ⊢
                omega
              have hd9 : (s.getD j 0).toNat - 48 ≤ 9 := by
                rw [bs_get] at b1
                generalize (s.getD j 0).toNat = q at b1 ⊢
                omega
              have HVAL := Lib.hid (And.intro hval hdig); have HBE := Lib.hid hbe
              clear hval hbe hdig
              go_wp2_with fail
              go_roundw
              case rel => exact ⟨j + 1, 10 * x + ((s.getD j 0).toNat - 48), by omega, by rw [HBE.out]; go_num, by go_num, hB2, by omega, HVAL⟩
              case measure => simp [intOf]; omega
            · have hval : x = tVal (s.take (min (j + 1) 7)) := by
                have h3 := HV.out.1
                rw [Nat.min_eq_right (by omega)] at h3 ⊢
                exact h3
              have HVAL := Lib.hid (And.intro hval hdig)
              clear hval hdig
              go_wp2_with fail
              go_roundw
              case rel => exact ⟨j + 1, x, by omega, by go_num, by go_num, hB2, by omega, HVAL⟩
              case measure => simp [intOf]; omega
      · have hall := HV.out.2
        rw [List.take_of_length_le (by rw [← HN.out]; omega), HA.out] at hall
        cases hall
end Go.Proofs.YthjdaehiebcoaaaGreatDoor
