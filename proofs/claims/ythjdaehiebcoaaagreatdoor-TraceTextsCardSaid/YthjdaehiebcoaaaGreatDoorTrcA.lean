/- The walks of package trace: words, texts, places. -/
import Derived.Test.YthjdaehiebcoaaaGreatDoorRows
import Derived.WalkKit
import Derived.WalkSpells
import Derived.WalkLawsBesides
import Derived.BigQuiet
import Derived.Deep.QuietTactic
import Derived.StillTailTactics
import Derived.Handy
import Derived.Lib.Hide
import Derived.Test.YthjdaehiebcoaaaGreatDoorShT
import Derived.Test.YthjdaehiebcoaaaGreatDoorTryA
import Derived.Test.YthjdaehiebcoaaaGreatDoorBlk
set_option linter.unusedSimpArgs false
set_option linter.unusedVariables false
namespace Go.Proofs.YthjdaehiebcoaaaGreatDoor
open Go.RowKit

theorem bs_toList (s : Str) : (bs s).toList = s := ByteArray.toList_eq (bs s)
theorem fail_ok (v : Value) (w : World) : Calls Tryz.prog 20 #[.bool true, v] w (Gives (.tuple #[]) w) := by
  go_enter Tryz.func20, Tryz.ntmps20
  go_wp2_with fail
  exact bodyPost_end (results_none rfl _ _ _) rfl ⟨rfl, rfl⟩
theorem fail_no (a : Addr) (w : World) : Calls Tryz.prog 20 #[.bool false, errV a] w (fun e w' => e = .panicked [{ v := errV a, recovered := false }] ∧ w = w') := by
  go_enter Tryz.func20, Tryz.ntmps20
  go_wp2_with fail
  exact ⟨rfl, rfl, rfl⟩
theorem isWord_of (s : Str) (w : World) : Calls Tryz.prog 21 #[.string (bs s)] w (Gives (.bool (tWord s)) w) := by
  go_enter Tryz.func21, Tryz.ntmps21
  go_wp2
  all_goals (go_ret; refine ⟨ret_bool ?_, rfl⟩; simp_all [tWord, bs_toList])
theorem shown_of (s : Str) (w : World) : Calls Tryz.prog 48 #[.string (bs s)] w (Gives (.string (bs (tShown s))) w) := by
  unfold tShown
  by_cases h : s = []
  · subst h
    rw [if_pos rfl]
    have h2 : (bs ([] : Str)).toList.isEmpty = true := by rw [bs_toList]; rfl
    go_enter Tryz.func48, Tryz.ntmps48
    go_wp2
    go_ret
    exact ⟨rfl, rfl⟩
  · rw [if_neg h]
    have h2 : ((bs s).toList == []) = false := by rw [bs_toList]; simpa using h
    clear h
    go_enter Tryz.func48, Tryz.ntmps48
    go_wp2
    go_ret
    exact ⟨rfl, rfl⟩
theorem conv_of (s : Str) (w : World) : ∃ c W1, (convert 9 76 (.string (bs s))).run Tryz.prog w = .ok (.slice (some ⟨w.heap.size, 0, none⟩) s.length c) W1 ∧ Below w.heap.size w W1 ∧ w.heap.size < W1.heap.size ∧ ∀ j (h : j < s.length), W1.cell? ⟨w.heap.size, j, none⟩ = some (.int .u8 (s[j].toNat : Int)) := by
  refine ⟨_, _, by rw [Lib.run_convert_string_bytes w 9 76 5 (bs s) Tryz.underlying9 Tryz.underlying76 Tryz.underlying5, bs_size], Go.Joins.below_bytesWorld _ _ _ _ (Nat.le_refl _), ?_, fun j hj => ?_⟩
  · rw [Lib.bytesWorld_size]; omega
  · rw [Lib.bytesWorld_cell w _ (bs s) j (by rw [bs_size]; exact hj), bs_list, List.getD, List.getElem?_eq_getElem hj]; rfl
theorem byte_int (b : UInt8) : tByte b = !(decide ((b.toNat : Int) < 33) || decide (126 < (b.toNat : Int))) := by
  unfold tByte
  have e1 : decide (b < 33) = decide ((b.toNat : Int) < 33) := by
    rw [decide_eq_decide, UInt8.lt_iff_toNat_lt]
    show b.toNat < 33 ↔ _
    omega
  have e2 : decide (126 < b) = decide (126 < (b.toNat : Int)) := by
    rw [decide_eq_decide, UInt8.lt_iff_toNat_lt]
    show 126 < b.toNat ↔ _
    omega
  rw [e1, e2]
theorem isText_of (s : Str) (w : World) (hs : s.length ≤ 100000) : Calls Tryz.prog 44 #[.string (bs s)] w (Makes (.bool (tText s)) w) := by
  obtain ⟨c, W1, hcv, hB, hz, hcell⟩ := conv_of s w
  obtain ⟨n, hn⟩ : ∃ n : Nat, n = s.length := ⟨_, rfl⟩
  have hsz : ((bs s).size : Int) = (n : Int) := by rw [bs_size, hn]
  rw [← hn] at hcv hs
  have HC := Lib.hid hcell; have HN := Lib.hid hn; have HSZ := Lib.hid hsz
  clear hcell hn hsz
  go_enter Tryz.func44, Tryz.ntmps44
  go_wp2_with fail
  go_loop [8] (fun i => ∃ j : Nat, j ≤ n ∧ i = .int .i64 j ∧ Hid ((s.take j).all tByte = true)) (fun i => n - (intOf i).toNat)
  case atStart => exact ⟨0, Nat.zero_le _, rfl, Lib.hid rfl⟩
  case round =>
    obtain ⟨j, hj, rfl, HT⟩ := hrel
    by_cases hjn : j < n
    · have hjs : j < s.length := by rw [← HN.out]; exact hjn
      have hc := HC.out j hjs
      obtain ⟨b, hb⟩ : ∃ b, b = s[j] := ⟨_, rfl⟩
      rw [← hb] at hc
      have hlast := byte_int b
      have hbl := b.toNat_lt
      obtain ⟨x, hx⟩ : ∃ x : Int, x = (b.toNat : Int) := ⟨_, rfl⟩
      rw [← hx] at hc hlast
      have hx0 : 0 ≤ x := by omega
      have hx1 : x < 256 := by omega
      have HL := Lib.hid hlast; have HBJ := Lib.hid hb
      clear hb hlast hx hbl
      have hall : (s.take (j + 1)).all tByte = ((s.take j).all tByte && tByte b) := by rw [List.take_succ_eq_append_getElem hjs, List.all_append, ← HBJ.out]; simp
      have HA := Lib.hid hall; clear hall
      by_cases h1 : x < 33
      · go_wp2
        go_ret
        refine ⟨ret_bool ?_, hB⟩
        unfold tText
        rw [← List.take_append_drop (j + 1) s, List.all_append, HA.out, HL.out, decide_eq_true h1]; simp
      · by_cases h2 : 126 < x
        · go_wp2
          go_ret
          refine ⟨ret_bool ?_, hB⟩
          unfold tText
          rw [← List.take_append_drop (j + 1) s, List.all_append, HA.out, HL.out, decide_eq_true h2]; simp
        · go_wp2
          go_round
          case rel => exact ⟨j + 1, by omega, by go_num, Lib.hid (by rw [HA.out, HL.out, HT.out, decide_eq_false h1, decide_eq_false h2]; rfl)⟩
          case measure => simp [intOf]; omega
    · obtain rfl : j = n := by omega
      rw [List.take_of_length_le (by rw [HN.out]; exact Nat.le_refl _)] at HT
      have h200 : decide (s.length ≤ 200) = decide ((j : Int) ≤ 200) := by rw [← HN.out, decide_eq_decide]; omega
      have HT2 : Hid (tText s = (decide ((j : Int) ≤ 200) && !(s == [45]))) := Lib.hid (by unfold tText; rw [HT.out, h200]; simp)
      have hq := HSZ.out
      clear h200 HT
      by_cases h1 : (j : Int) ≤ 200
      · by_cases h2 : s = [45]
        · have h45 : ((bs s).toList == [45]) = true := by rw [bs_toList, h2]; rfl
          have e : (decide ((j : Int) ≤ 200) && !(s == [45])) = false := by simp [h2]
          have HF := Lib.hid (HT2.out.trans e)
          clear e h2 HT2
          go_wp2
          go_ret
          exact ⟨ret_bool HF.out.symm, hB⟩
        · have h45 : ((bs s).toList == [45]) = false := by rw [bs_toList]; simpa using h2
          have e : (decide ((j : Int) ≤ 200) && !(s == [45])) = true := by simp [h1, h2]
          have HF := Lib.hid (HT2.out.trans e)
          clear e h2 HT2
          go_wp2
          go_ret
          exact ⟨ret_bool HF.out.symm, hB⟩
      · have e : (decide ((j : Int) ≤ 200) && !(s == [45])) = false := by simp [h1]
        have HF := Lib.hid (HT2.out.trans e)
        clear e HT2
        go_wp2
        go_ret
        exact ⟨ret_bool HF.out.symm, hB⟩
end Go.Proofs.YthjdaehiebcoaaaGreatDoor
