/- The walks of ids.ToNode: a node's text read. -/
import Derived.Test.YthjdaehiebcoaaaGreatDoorRows
import Derived.WalkKit
import Derived.WalkSpells
import Derived.WalkLawsBesides
import Derived.BigQuiet
import Derived.Deep.QuietTactic
import Derived.StillTailTactics
import Derived.Handy
import Derived.Lib.Hide
import Derived.Test.YthjdaehiebcoaaaGreatDoorTrcD
set_option linter.unusedSimpArgs false
set_option linter.unusedVariables false
namespace Go.Proofs.YthjdaehiebcoaaaGreatDoor
open Go.RowKit

set_option maxRecDepth 20000 in
set_option maxHeartbeats 1000000 in
theorem digits_yes (s : Str) (hs : s.length ≤ 100000) (hd : tDigs s = true) (w : World) :
    Calls Tryz.prog 54 #[.string (bs s)] w (Gives (.int .i64 (tVal7 s)) w) := by
  have e1 : ((bs s).toList == []) = false := by
    rw [bs_toList]; unfold tDigs at hd; simp only [Bool.and_eq_true] at hd; simpa using hd.1.1
  have hl0 : 0 < s.length := by
    rcases Nat.eq_zero_or_pos s.length with h | h
    · rw [bs_toList, List.eq_nil_of_length_eq_zero h] at e1; cases e1
    · exact h
  have hall : s.all tDig = true := by unfold tDigs at hd; simp only [Bool.and_eq_true] at hd; exact hd.2
  obtain ⟨n, hn⟩ : ∃ n : Nat, n = s.length := ⟨_, rfl⟩
  have hsz : (bs s).size = n := by rw [bs_size, hn]
  have hn0 : 0 < n := by omega
  have hn1 : n ≤ 100000 := by omega
  have HD := Lib.hid hd; have HN := Lib.hid hn; have HA := Lib.hid hall
  clear hs hl0 hn hall hd
  by_cases h1 : n = 1
  · have hg : ¬ ((1 : Int) < (n : Int)) := by omega
    have hg2 : decide ((1 : Int) < (n : Int)) = false := decide_eq_false hg
    clear h1
    go_enter Tryz.func54, Tryz.ntmps54
    go_wp2_with fail
    clear e1
    go_loop [3, 20] (fun a i => ∃ j x : Nat, j ≤ n ∧ a = .int .i64 (x : Int) ∧ i = .int .i64 j ∧ x ≤ 9999999 ∧ Hid (x = tVal (s.take (min j 7)))) (fun _ i => n - (intOf i).toNat)
    case atStart => exact ⟨0, 0, Nat.zero_le _, rfl, rfl, by omega, Lib.hid rfl⟩
    case round =>
      obtain ⟨j, x, hj, rfl, rfl, hx, HV⟩ := hrel
      by_cases hjn : j < n
      · have hjs : j < (bs s).size := by omega
        have hb : 48 ≤ (((bs s)[j]'hjs).toNat : Int) ∧ (((bs s)[j]'hjs).toNat : Int) ≤ 57 := by rw [bs_get]; exact digs_all HD.out j (by rw [← HN.out]; exact hjn)
        obtain ⟨b0, b1⟩ := hb
        have hj0 : (0 : Int) ≤ (j : Int) := by omega
        have hj1 : (j : Int) < (n : Int) := by omega
        by_cases h6 : (j : Int) < 7
        · have hxs : x < 1000000 := by
            have h1 := val_small HA.out (j := j) (by omega)
            have h2 : 10 ^ j ≤ 10 ^ 6 := Nat.pow_le_pow_right (by omega) (by omega)
            have h3 := HV.out
            rw [Nat.min_eq_left (by omega)] at h3
            omega
          have hval : 10 * x + ((s.getD j 0).toNat - 48) = tVal (s.take (min (j + 1) 7)) := by
            have h3 := HV.out
            rw [Nat.min_eq_left (by omega)] at h3
            rw [Nat.min_eq_left (by omega), val_take (by rw [← HN.out]; exact hjn), ← h3]
          have hbe : (((bs s)[j]'hjs).toNat : Int) - 48 = ((((s.getD j 0).toNat - 48 : Nat)) : Int) := by
            rw [bs_get] at b0 ⊢
            generalize (s.getD j 0).toNat = q at b0 ⊢
            omega
          have hd9 : (s.getD j 0).toNat - 48 ≤ 9 := by
            rw [bs_get] at b1
            generalize (s.getD j 0).toNat = q at b1 ⊢
            omega
          have HVAL := Lib.hid hval; have HBE := Lib.hid hbe
          clear hval hbe
          go_wp2_with fail
          go_round
          case rel => exact ⟨j + 1, 10 * x + ((s.getD j 0).toNat - 48), by omega, by rw [HBE.out]; go_num, by go_num, by omega, HVAL⟩
          case measure => simp [intOf]; omega
        · exfalso; omega
      · obtain rfl : j = n := by omega
        have hval : x = tVal7 s := by
          have h3 := HV.out
          unfold tVal7
          rw [h3, HN.out]
          by_cases h7 : s.length ≤ 7
          · rw [Nat.min_eq_left h7, List.take_of_length_le (Nat.le_refl _), List.take_of_length_le h7]
          · rw [Nat.min_eq_right (by omega)]
        have HVAL := Lib.hid hval
        clear hval
        go_wp2_with fail
        go_ret
        exact ⟨ret_int (by rw [HVAL.out]), rfl⟩
  · have hg : (1 : Int) < (n : Int) := by omega
    have hz0 : 0 < (bs s).size := by omega
    have hx : ((((bs s)[0]'hz0).toNat : Int) == 48) = false := by
      rw [bs_get]
      have := digs_head HD.out (fun e => h1 (by rw [HN.out, e]; rfl))
      simpa [byteAt] using this
    clear h1
    go_enter Tryz.func54, Tryz.ntmps54
    go_wp2_with fail
    clear e1
    go_loop [3, 20] (fun a i => ∃ j x : Nat, j ≤ n ∧ a = .int .i64 (x : Int) ∧ i = .int .i64 j ∧ x ≤ 9999999 ∧ Hid (x = tVal (s.take (min j 7)))) (fun _ i => n - (intOf i).toNat)
    case atStart => exact ⟨0, 0, Nat.zero_le _, rfl, rfl, by omega, Lib.hid rfl⟩
    case round =>
      obtain ⟨j, x, hj, rfl, rfl, hx, HV⟩ := hrel
      by_cases hjn : j < n
      · have hjs : j < (bs s).size := by omega
        have hb : 48 ≤ (((bs s)[j]'hjs).toNat : Int) ∧ (((bs s)[j]'hjs).toNat : Int) ≤ 57 := by rw [bs_get]; exact digs_all HD.out j (by rw [← HN.out]; exact hjn)
        obtain ⟨b0, b1⟩ := hb
        have hj0 : (0 : Int) ≤ (j : Int) := by omega
        have hj1 : (j : Int) < (n : Int) := by omega
        by_cases h6 : (j : Int) < 7
        · have hxs : x < 1000000 := by
            have h1 := val_small HA.out (j := j) (by omega)
            have h2 : 10 ^ j ≤ 10 ^ 6 := Nat.pow_le_pow_right (by omega) (by omega)
            have h3 := HV.out
            rw [Nat.min_eq_left (by omega)] at h3
            omega
          have hval : 10 * x + ((s.getD j 0).toNat - 48) = tVal (s.take (min (j + 1) 7)) := by
            have h3 := HV.out
            rw [Nat.min_eq_left (by omega)] at h3
            rw [Nat.min_eq_left (by omega), val_take (by rw [← HN.out]; exact hjn), ← h3]
          have hbe : (((bs s)[j]'hjs).toNat : Int) - 48 = ((((s.getD j 0).toNat - 48 : Nat)) : Int) := by
            rw [bs_get] at b0 ⊢
            generalize (s.getD j 0).toNat = q at b0 ⊢
            omega
          have hd9 : (s.getD j 0).toNat - 48 ≤ 9 := by
            rw [bs_get] at b1
            generalize (s.getD j 0).toNat = q at b1 ⊢
            omega
          have HVAL := Lib.hid hval; have HBE := Lib.hid hbe
          clear hval hbe
          go_wp2_with fail
          go_round
          case rel => exact ⟨j + 1, 10 * x + ((s.getD j 0).toNat - 48), by omega, by rw [HBE.out]; go_num, by go_num, by omega, HVAL⟩
          case measure => simp [intOf]; omega
        · have hval : x = tVal (s.take (min (j + 1) 7)) := by
            have h3 := HV.out
            rw [Nat.min_eq_right (by omega)] at h3 ⊢
            exact h3
          have HVAL := Lib.hid hval
          clear hval
          go_wp2_with fail
          go_round
          case rel => exact ⟨j + 1, x, by omega, by go_num, by go_num, by omega, HVAL⟩
          case measure => simp [intOf]; omega
      · obtain rfl : j = n := by omega
        have hval : x = tVal7 s := by
          have h3 := HV.out
          unfold tVal7
          rw [h3, HN.out]
          by_cases h7 : s.length ≤ 7
          · rw [Nat.min_eq_left h7, List.take_of_length_le (Nat.le_refl _), List.take_of_length_le h7]
          · rw [Nat.min_eq_right (by omega)]
        have HVAL := Lib.hid hval
        clear hval
        go_wp2_with fail
        go_ret
        exact ⟨ret_int (by rw [HVAL.out]), rfl⟩
set_option maxRecDepth 20000 in
set_option maxHeartbeats 1000000 in
theorem digits_no (s : Str) (hs : s.length ≤ 100000) (hd : tDigs s = false) (ea : Int → Addr) (w : World) (h : Errs ea w) :
    Calls Tryz.prog 54 #[.string (bs s)] w (Fails (errV (ea 4)) w) := by
  have h4 : w.cell? ⟨0, 0, none⟩ = some (errV (ea 4)) := h.e4
  clear h
  have hpos : s ≠ [] → 0 < s.length := fun h1 => by
    rcases Nat.eq_zero_or_pos s.length with h | h
    · exact absurd (List.eq_nil_of_length_eq_zero h) h1
    · exact h
  obtain ⟨n, hn⟩ : ∃ n : Nat, n = s.length := ⟨_, rfl⟩
  have hsz : (bs s).size = n := by rw [bs_size, hn]
  have hn1 : n ≤ 100000 := by omega
  rcases digs_cases hd with h1 | ⟨h1, h2, h3⟩ | ⟨h1, h2, h3, hall⟩
  · have e1 : (bs s).toList = [] := by rw [bs_toList, h1]
    clear h1 hd hn hs hpos
    go_enter Tryz.func54, Tryz.ntmps54
    go_wp2_with fail
    exact ⟨rfl, rfl, by go_grown⟩
  · have e1 : ((bs s).toList == []) = false := by rw [bs_toList]; simpa using h1
    have hz0 : 0 < (bs s).size := by rw [bs_size]; exact hpos h1
    have hn2 : (1 : Int) < (n : Int) := by
      have := hpos h1
      have hne : s.length ≠ 1 := fun e => by
        obtain ⟨c, hc⟩ := List.length_eq_one_iff.1 e
        subst hc
        have : c.toNat = 48 := by unfold byteAt at h3; simpa using (by exact_mod_cast h3 : c.toNat = 48)
        have h48 : (48 : UInt8).toNat = 48 := rfl
        exact h2 (by rw [UInt8.toNat_inj.1 (this.trans h48.symm)])
      omega
    have hx : ((((bs s)[0]'hz0).toNat : Int) == 48) = true := by rw [bs_get]; simpa [byteAt] using h3
    clear h1 h2 h3 hd hn hs hpos
    go_enter Tryz.func54, Tryz.ntmps54
    go_wp2_with fail
    all_goals exact ⟨rfl, rfl, by go_grown⟩
  · have e1 : ((bs s).toList == []) = false := by rw [bs_toList]; simpa using h1
    have hz0 : 0 < (bs s).size := by rw [bs_size]; exact hpos h1
    have hx : ((((bs s)[0]'hz0).toNat : Int) == 48) = false := by rw [bs_get]; simpa [byteAt] using h3
    have hn0 : 0 < n := by rw [hn]; exact hpos h1
    have HN := Lib.hid hn; have HA := Lib.hid hall
    clear h1 h2 h3 hd hs hn hall hpos
    by_cases hg : (1 : Int) < (n : Int)
    · go_enter Tryz.func54, Tryz.ntmps54
      go_wp2_with fail
      clear e1
      go_loop [3, 20] (fun a i => ∃ j x : Nat, j ≤ n ∧ a = .int .i64 (x : Int) ∧ i = .int .i64 j ∧ x ≤ 9999999 ∧ Hid (x = tVal (s.take (min j 7)) ∧ (s.take j).all tDig = true)) (fun _ i => n - (intOf i).toNat)
      case atStart => exact ⟨0, 0, Nat.zero_le _, rfl, rfl, by omega, Lib.hid ⟨rfl, rfl⟩⟩
      case round =>
        obtain ⟨j, x, hj, rfl, rfl, hx, HV⟩ := hrel
        by_cases hjn : j < n
        · have hjs : j < (bs s).size := by omega
          have hjl : j < s.length := by rw [← HN.out]; exact hjn
          have hj0 : (0 : Int) ≤ (j : Int) := by omega
          have hj1 : (j : Int) < (n : Int) := by omega
          have hbj : (((bs s)[j]'hjs).toNat : Int) = byteAt s j := by rw [bs_get]; rfl
          by_cases hlow : (((bs s)[j]'hjs).toNat : Int) < 48
          · clear hbj
            go_wp2_with fail
            exact ⟨rfl, rfl, by go_grown⟩
          · by_cases hhigh : 57 < (((bs s)[j]'hjs).toNat : Int)
            · clear hbj
              go_wp2_with fail
              exact ⟨rfl, rfl, by go_grown⟩
            · have b0 : 48 ≤ (((bs s)[j]'hjs).toNat : Int) := by omega
              have b1 : (((bs s)[j]'hjs).toNat : Int) ≤ 57 := by omega
              have hdig : (s.take (j + 1)).all tDig = true := by
                rw [List.take_succ_eq_append_getElem hjl, List.all_append, HV.out.2, List.all_cons, dig_byte hjl, ← hbj, decide_eq_true b0, decide_eq_true b1]; rfl
              clear hlow hhigh hbj
              by_cases h6 : (j : Int) < 7
              · have hxs : x < 1000000 := by
                  have h1 := val_small' HV.out.2 (j := j) (by omega)
                  have h2 : 10 ^ j ≤ 10 ^ 6 := Nat.pow_le_pow_right (by omega) (by omega)
                  have h3 := HV.out.1
                  rw [Nat.min_eq_left (by omega)] at h3
                  omega
                have hval : 10 * x + ((s.getD j 0).toNat - 48) = tVal (s.take (min (j + 1) 7)) := by
                  have h3 := HV.out.1
                  rw [Nat.min_eq_left (by omega)] at h3
                  rw [Nat.min_eq_left (by omega), val_take hjl, ← h3]
                have hbe : (((bs s)[j]'hjs).toNat : Int) - 48 = ((((s.getD j 0).toNat - 48 : Nat)) : Int) := by
                  rw [bs_get] at b0 ⊢
                  generalize (s.getD j 0).toNat = q at b0 ⊢
                  omega
                have hd9 : (s.getD j 0).toNat - 48 ≤ 9 := by
                  rw [bs_get] at b1
                  generalize (s.getD j 0).toNat = q at b1 ⊢
                  omega
                have HVAL := Lib.hid (And.intro hval hdig); have HBE := Lib.hid hbe
                clear hval hbe hdig
                go_wp2_with fail
                go_round
                case rel => exact ⟨j + 1, 10 * x + ((s.getD j 0).toNat - 48), by omega, by rw [HBE.out]; go_num, by go_num, by omega, HVAL⟩
                case measure => simp [intOf]; omega
              · have hval : x = tVal (s.take (min (j + 1) 7)) := by
                  have h3 := HV.out.1
                  rw [Nat.min_eq_right (by omega)] at h3 ⊢
                  exact h3
                have HVAL := Lib.hid (And.intro hval hdig)
                clear hval hdig
                go_wp2_with fail
                go_round
                case rel => exact ⟨j + 1, x, by omega, by go_num, by go_num, by omega, HVAL⟩
                case measure => simp [intOf]; omega
        · have hall := HV.out.2
          rw [List.take_of_length_le (by rw [← HN.out]; omega), HA.out] at hall
          cases hall
    · have hg2 : decide ((1 : Int) < (n : Int)) = false := decide_eq_false hg
      go_enter Tryz.func54, Tryz.ntmps54
      go_wp2_with fail
      clear e1
      go_loop [3, 20] (fun a i => ∃ j x : Nat, j ≤ n ∧ a = .int .i64 (x : Int) ∧ i = .int .i64 j ∧ x ≤ 9999999 ∧ Hid (x = tVal (s.take (min j 7)) ∧ (s.take j).all tDig = true)) (fun _ i => n - (intOf i).toNat)
      case atStart => exact ⟨0, 0, Nat.zero_le _, rfl, rfl, by omega, Lib.hid ⟨rfl, rfl⟩⟩
      case round =>
        obtain ⟨j, x, hj, rfl, rfl, hx, HV⟩ := hrel
        by_cases hjn : j < n
        · have hjs : j < (bs s).size := by omega
          have hjl : j < s.length := by rw [← HN.out]; exact hjn
          have hj0 : (0 : Int) ≤ (j : Int) := by omega
          have hj1 : (j : Int) < (n : Int) := by omega
          have hbj : (((bs s)[j]'hjs).toNat : Int) = byteAt s j := by rw [bs_get]; rfl
          by_cases hlow : (((bs s)[j]'hjs).toNat : Int) < 48
          · clear hbj
            go_wp2_with fail
            exact ⟨rfl, rfl, by go_grown⟩
          · by_cases hhigh : 57 < (((bs s)[j]'hjs).toNat : Int)
            · clear hbj
              go_wp2_with fail
              exact ⟨rfl, rfl, by go_grown⟩
            · have b0 : 48 ≤ (((bs s)[j]'hjs).toNat : Int) := by omega
              have b1 : (((bs s)[j]'hjs).toNat : Int) ≤ 57 := by omega
              have hdig : (s.take (j + 1)).all tDig = true := by
                rw [List.take_succ_eq_append_getElem hjl, List.all_append, HV.out.2, List.all_cons, dig_byte hjl, ← hbj, decide_eq_true b0, decide_eq_true b1]; rfl
              clear hlow hhigh hbj
              by_cases h6 : (j : Int) < 7
              · have hxs : x < 1000000 := by
                  have h1 := val_small' HV.out.2 (j := j) (by omega)
                  have h2 : 10 ^ j ≤ 10 ^ 6 := Nat.pow_le_pow_right (by omega) (by omega)
                  have h3 := HV.out.1
                  rw [Nat.min_eq_left (by omega)] at h3
                  omega
                have hval : 10 * x + ((s.getD j 0).toNat - 48) = tVal (s.take (min (j + 1) 7)) := by
                  have h3 := HV.out.1
                  rw [Nat.min_eq_left (by omega)] at h3
                  rw [Nat.min_eq_left (by omega), val_take hjl, ← h3]
                have hbe : (((bs s)[j]'hjs).toNat : Int) - 48 = ((((s.getD j 0).toNat - 48 : Nat)) : Int) := by
                  rw [bs_get] at b0 ⊢
                  generalize (s.getD j 0).toNat = q at b0 ⊢
                  omega
                have hd9 : (s.getD j 0).toNat - 48 ≤ 9 := by
                  rw [bs_get] at b1
                  generalize (s.getD j 0).toNat = q at b1 ⊢
                  omega
                have HVAL := Lib.hid (And.intro hval hdig); have HBE := Lib.hid hbe
                clear hval hbe hdig
                go_wp2_with fail
                go_round
                case rel => exact ⟨j + 1, 10 * x + ((s.getD j 0).toNat - 48), by omega, by rw [HBE.out]; go_num, by go_num, by omega, HVAL⟩
                case measure => simp [intOf]; omega
              · exfalso; omega
        · have hall := HV.out.2
          rw [List.take_of_length_le (by rw [← HN.out]; omega), HA.out] at hall
          cases hall
theorem upTo_yes (n m : Int) (h : n ≤ m) (w : World) : Calls Tryz.prog 56 #[.int .i64 n, .int .i64 m] w (Gives (.tuple #[]) w) := by
  go_enter Tryz.func56, Tryz.ntmps56
  go_wp2_with fail
  exact bodyPost_end (results_none rfl _ _ _) rfl ⟨rfl, rfl⟩
theorem upTo_no (n m : Int) (hm : m < n) (ea : Int → Addr) (w : World) (h : Errs ea w) : Calls Tryz.prog 56 #[.int .i64 n, .int .i64 m] w (Fails (errV (ea 1)) w) := by
  have h1 : w.cell? ⟨1, 0, none⟩ = some (errV (ea 1)) := h.e1
  clear h
  go_enter Tryz.func56, Tryz.ntmps56
  go_wp2_with fail
  exact ⟨rfl, rfl, by go_grown⟩
theorem prefix_yes (r : Str) : Lib.hasPrefix (110 :: r) [110] = true ∧ Lib.trimPrefix (110 :: r) [110] = r := by
  simp [Lib.hasPrefix, Lib.trimPrefix, List.isPrefixOf]
theorem prefix_no {s : Str} (h : ∀ r, s ≠ 110 :: r) : Lib.hasPrefix s [110] = false := by
  cases s with
  | nil => rfl
  | cons c r =>
    have : c ≠ 110 := fun e => h r (by rw [e])
    simp [Lib.hasPrefix, List.isPrefixOf]
    exact fun e => this e.symm
theorem after_yes (r : Str) (w : World) : Calls Tryz.prog 55 #[.string (bs (110 :: r)), .string ⟨#[110]⟩] w (Gives (.string (bs r)) w) := by
  have HC := Lib.hid (cut_of (110 :: r) [110] w)
  rw [(prefix_yes r).1, (prefix_yes r).2] at HC
  go_enter Tryz.func55, Tryz.ntmps55
  go_wp2_with fail
  refine HC.out.mono ?_
  rintro e w1 ⟨rfl, rfl⟩
  go_wp2_with fail
  go_ret
  exact ⟨rfl, rfl⟩
theorem after_no (s : Str) (hs : ∀ r, s ≠ 110 :: r) (ea : Int → Addr) (w : World) (h : Errs ea w) : Calls Tryz.prog 55 #[.string (bs s), .string ⟨#[110]⟩] w (Fails (errV (ea 4)) w) := by
  have h4 : w.cell? ⟨0, 0, none⟩ = some (errV (ea 4)) := h.e4
  have HC := Lib.hid (cut_of s [110] w)
  rw [prefix_no hs] at HC
  clear h hs
  go_enter Tryz.func55, Tryz.ntmps55
  go_wp2_with fail
  refine HC.out.mono ?_
  rintro e w1 ⟨rfl, rfl⟩
  go_wp2_with fail
  exact ⟨rfl, rfl, by go_grown⟩
end Go.Proofs.YthjdaehiebcoaaaGreatDoor
