/- The walks of the document's lines (liaisonref27): words, texts, what is shown, an event's line. -/
import Derived.Test.YthjdaehiebcoaaaGreatDoorRows
import Derived.WalkKit
import Derived.WalkSpells
import Derived.WalkLawsBesides
import Derived.BigQuiet
import Derived.Deep.QuietTactic
import Derived.StillTailTactics
import Derived.Handy
import Derived.Lib.Hide
import Derived.Test.YthjdaehiebcoaaaGreatDoorRefL
import Derived.Test.YthjdaehiebcoaaaGreatDoorTrcD
set_option linter.unusedSimpArgs false
set_option linter.unusedVariables false
namespace Go.Proofs.YthjdaehiebcoaaaGreatDoor
open Go.RowKit

theorem rword_of (s : Str) (w : World) : Calls Tryz.prog 27 #[.string (bs s)] w (Gives (.bool (tWord s)) w) := by
  go_enter Tryz.func27, Tryz.ntmps27
  go_wp2
  all_goals (go_ret; refine ⟨ret_bool ?_, rfl⟩; simp_all [tWord, bs_toList])
theorem rshown_of (s : Str) (w : World) : Calls Tryz.prog 68 #[.string (bs s)] w (Gives (.string (bs (tShown s))) w) := by
  unfold tShown
  by_cases h : s = []
  · subst h
    rw [if_pos rfl]
    have h2 : (bs ([] : Str)).toList.isEmpty = true := by rw [bs_toList]; rfl
    go_enter Tryz.func68, Tryz.ntmps68
    go_wp2
    go_ret
    exact ⟨rfl, rfl⟩
  · rw [if_neg h]
    have h2 : ((bs s).toList == []) = false := by rw [bs_toList]; simpa using h
    clear h
    go_enter Tryz.func68, Tryz.ntmps68
    go_wp2
    go_ret
    exact ⟨rfl, rfl⟩
theorem rtext_of (s : Str) (hs : s.length ≤ 100000) (w : World) : Calls Tryz.prog 28 #[.string (bs s)] w (Gives (.bool (tText s)) w) := by
  obtain ⟨n, hn⟩ : ∃ n : Nat, n = s.length := ⟨_, rfl⟩
  have hsz : (bs s).size = n := by rw [bs_size, hn]
  have hn1 : n ≤ 100000 := by omega
  have HN := Lib.hid hn
  clear hn hs
  go_enter Tryz.func28, Tryz.ntmps28
  go_wp2_with fail
  go_loop [3] (fun i => ∃ j : Nat, j ≤ n ∧ i = .int .i64 j ∧ Hid ((s.take j).all tByte = true)) (fun i => n - (intOf i).toNat)
  case atStart => exact ⟨0, Nat.zero_le _, rfl, Lib.hid rfl⟩
  case round =>
    obtain ⟨j, hj, rfl, HT⟩ := hrel
    by_cases hjn : j < n
    · have hjs : j < (bs s).size := by omega
      have hjl : j < s.length := by rw [← HN.out]; exact hjn
      have hj0 : (0 : Int) ≤ (j : Int) := by omega
      have hj1 : (j : Int) < (n : Int) := by omega
      have hgj : (bs s)[j]'hjs = s[j] := rfl
      have hall : (s.take (j + 1)).all tByte = tByte s[j] := by rw [List.take_succ_eq_append_getElem hjl, List.all_append, HT.out]; simp
      have hby := byte_int ((bs s)[j]'hjs)
      rw [hgj, ← hall, ← hgj] at hby
      have HA := Lib.hid hby; clear hall hgj hby
      by_cases h1 : (((bs s)[j]'hjs).toNat : Int) < 33
      · go_wp2_with fail
        go_ret
        refine ⟨ret_bool ?_, rfl⟩
        unfold tText
        rw [← List.take_append_drop (j + 1) s, List.all_append, HA.out, decide_eq_true h1]; simp
      · by_cases h2 : 126 < (((bs s)[j]'hjs).toNat : Int)
        · go_wp2_with fail
          go_ret
          refine ⟨ret_bool ?_, rfl⟩
          unfold tText
          rw [← List.take_append_drop (j + 1) s, List.all_append, HA.out, decide_eq_true h2]; simp
        · go_wp2_with fail
          go_round
          case rel => exact ⟨j + 1, by omega, by go_num, Lib.hid (by rw [HA.out, decide_eq_false h1, decide_eq_false h2]; rfl)⟩
          case measure => simp [intOf]; omega
    · obtain rfl : j = n := by omega
      rw [List.take_of_length_le (by rw [HN.out]; exact Nat.le_refl _)] at HT
      have h200 : decide (s.length ≤ 200) = decide ((j : Int) ≤ 200) := by rw [← HN.out, decide_eq_decide]; omega
      have HT2 : Hid (tText s = (decide ((j : Int) ≤ 200) && !(s == [45]))) := Lib.hid (by unfold tText; rw [HT.out, h200]; simp)
      clear h200 HT
      by_cases h1 : (j : Int) ≤ 200
      · by_cases h2 : s = [45]
        · have h45 : ((bs s).toList == [45]) = true := by rw [bs_toList, h2]; rfl
          have e : (decide ((j : Int) ≤ 200) && !(s == [45])) = false := by simp [h2]
          have HF := Lib.hid (HT2.out.trans e)
          clear e h2 HT2
          go_wp2_with fail
          go_ret
          exact ⟨ret_bool HF.out.symm, rfl⟩
        · have h45 : ((bs s).toList == [45]) = false := by rw [bs_toList]; simpa using h2
          have e : (decide ((j : Int) ≤ 200) && !(s == [45])) = true := by simp [h1, h2]
          have HF := Lib.hid (HT2.out.trans e)
          clear e h2 HT2
          go_wp2_with fail
          go_ret
          exact ⟨ret_bool HF.out.symm, rfl⟩
      · have e : (decide ((j : Int) ≤ 200) && !(s == [45])) = false := by simp [h1]
        have HF := Lib.hid (HT2.out.trans e)
        clear e HT2
        go_wp2_with fail
        go_ret
        exact ⟨ret_bool HF.out.symm, rfl⟩
end Go.Proofs.YthjdaehiebcoaaaGreatDoor
