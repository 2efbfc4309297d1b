/- The law on texts, walked: TraceParses. -/
import Derived.Test.YthjdaehiebcoaaaGreatDoorRows
import Derived.WalkKit
import Derived.WalkSpells
import Derived.WalkLawsBesides
import Derived.BigQuiet
import Derived.Deep.QuietTactic
import Derived.StillTailTactics
import Derived.Handy
import Derived.Lib.Hide
import Derived.Test.YthjdaehiebcoaaaGreatDoorReadE
set_option linter.unusedSimpArgs false
set_option linter.unusedVariables false
namespace Go.Proofs.YthjdaehiebcoaaaGreatDoor
open Go.RowKit

theorem reads_length : ∀ (ls : List Str) (es : List Ev), tReads ls = .evs es → es.length = ls.length
  | [], es, h => by
    have : es = [] := by unfold tReads at h; injection h with h; exact h.symm
    subst this; rfl
  | x :: ls, es, h => by
    unfold tReads at h
    split at h
    · cases h
    · split at h
      · next l hl =>
        injection h with h
        subst h
        rw [List.length_cons, List.length_cons, reads_length ls l hl]
      · cases h
theorem read_length {s : Str} {es : List Ev} (h : tRead s = .evs es) : es.length ≤ s.length := by
  unfold tRead at h
  split at h
  · rw [reads_length _ _ h]; exact lines_length s
  · cases h
theorem read_num {s : Str} {n : Int} (h : tRead s = .no n) : n = 1 ∨ n = 4 := by
  unfold tRead at h
  split at h
  · exact reads_num _ _ h
  · injection h with h; exact .inr h.symm
set_option maxHeartbeats 4000000 in
set_option maxRecDepth 20000 in
theorem law_parses (s : Str) (ea : Int → Addr) (w : World) (h : Env ea w) : Calls Tryz.prog 3 #[.string (bs s)] w (Makes (.bool true) w) := by
  have HA := Lib.hid (fun W hW => alive27 ea W hW)
  have HE := Lib.hid h
  obtain ⟨n, hn⟩ : ∃ n : Nat, (bs s).size = n := ⟨_, rfl⟩
  have hln : n = s.length := by rw [← hn, bs_size]
  clear h
  by_cases hs : n ≤ 2000
  · have hs1 : s.length ≤ 100000 := by omega
    have hP := fun W hW => parse_of s hs1 ea W hW
    have hR := fun W => rparse_of s hs1 W
    have HX := Lib.hid (fun W hW => read_of s hs1 ea W hW)
    have HY := Lib.hid (fun W => rread27_of s hs1 W)
    have hnum := parse_num s
    obtain ⟨r, hr⟩ : ∃ r, r = tRead s := ⟨_, rfl⟩
    have HRN : Hid (∀ k, r = .no k → k = 1 ∨ k = 4) := Lib.hid (fun k hk => read_num (hr ▸ hk))
    have HRL : Hid (∀ es, r = .evs es → es.length ≤ 100000) := Lib.hid (fun es hk => by have := read_length (s := s) (hr ▸ hk); omega)
    rw [← hr] at HX HY
    obtain ⟨q, hq⟩ : ∃ q, q = (tParse s).num := ⟨_, rfl⟩
    rw [← hq] at hP hR hnum
    obtain ⟨e, he⟩ : ∃ e, e = (tParse s).get := ⟨_, rfl⟩
    rw [← he] at hP hR
    clear hr hq he hln hs1
    obtain ⟨step, what, node, first, second⟩ := e
    dsimp only [evV, evC] at hP hR
    have HP := Lib.hid hP; have HR := Lib.hid hR
    have HN := Lib.hid (fun W (hW : Errs ea W) => num27 q (by omega) ea W hW)
    have heq := fun W => rowEq _ rfl step node what first second W
    clear hP hR hnum
    go_enter Tryz.func3, Tryz.ntmps3
    go_wp2_with fail
    refine (HA.out _ HE.out).mono ?_
    rintro e w1 ⟨rfl, hb1⟩
    have HB1 := Lib.hid hb1; have HE1 := Lib.hid (HE.out.below hb1)
    go_wp2_with fail
    refine (HP.out _ HE1.out).mono ?_
    rintro e w2 ⟨rfl, hb2⟩
    have HB2 := Lib.hid ((below_then HB1.out hb2).alloc (below_then HB1.out hb2).size (.cells #[.int .i64 step, .string (bs what), .int .i64 node, .string (bs first), .string (bs second)] 24))
    have HK2 := Lib.hid (Blk.fresh w2 #[.int .i64 step, .string (bs what), .int .i64 node, .string (bs first), .string (bs second)] 24 _ rfl)
    go_wp2_with fail
    refine (HR.out _).mono ?_
    rintro e w3 ⟨rfl, hb3⟩
    have HB3 := Lib.hid (below_then HB2.out hb3); have HK3 := Lib.hid (HK2.out.below hb3); have HE3 := Lib.hid (HE.out.below ((below_then HB2.out hb3).alloc (below_then HB2.out hb3).size (.cells #[.int .i64 step, .string (bs what), .int .i64 node, .string (bs first), .string (bs second)] 29)))
    obtain ⟨qc, qf⟩ := (HK3.out.alloc (.cells #[.int .i64 step, .string (bs what), .int .i64 node, .string (bs first), .string (bs second)] 29)).out
    go_wp2_with fail
    refine (HN.out _ HE3.out.e).mono ?_
    rintro e w4 ⟨rfl, hb4⟩
    have HB4 := Lib.hid (below_then (HB3.out.alloc HB3.out.size (.cells #[.int .i64 step, .string (bs what), .int .i64 node, .string (bs first), .string (bs second)] 29)) hb4)
    have HE4 := Lib.hid (HE.out.below HB4.out)
    clear qc qf
    go_wp2_with fail
    cases r with
    | evs es =>
      have hel := HRL.out es rfl
      refine (HX.out _ HE4.out).mono ?_
      rintro e w5 ⟨v5, rfl, ho5, hb5⟩
      have HB5 := Lib.hid (below_then HB4.out hb5); have HE5 := Lib.hid (HE.out.below HB5.out)
      have HV5 := Lib.hid ho5
      clear ho5
      go_wp2_with fail
      refine (HY.out _).mono ?_
      rintro e w6 ⟨v6, rfl, ho6, hb6⟩
      have HB6 := Lib.hid (below_then HB5.out hb6); have HE6 := Lib.hid (HE.out.below HB6.out)
      have HS := Lib.hid (same_of v5 v6 es hel w6 (row_of_own (HV5.out.below hb6)) (row_of_own ho6))
      have HN0 := Lib.hid (fun W => num_nil W)
      clear ho6
      go_wp2_with fail
      refine HS.out.mono ?_
      rintro e w7 ⟨rfl, hb7⟩
      have HB7 := Lib.hid (below_then HB6.out hb7)
      go_wp2_with fail
      refine (HN0.out _).mono ?_
      rintro e w8 ⟨rfl, hb8⟩
      have HB8 := Lib.hid (below_then HB7.out hb8)
      go_wp2_with fail
      go_ret
      exact ⟨rfl, HB8.out⟩
    | no k =>
      have hk := HRN.out k rfl
      have HNK := Lib.hid (fun W (hW : Errs ea W) => num_some k (by omega) ea W hW)
      refine (HX.out _ HE4.out).mono ?_
      rintro e w5 ⟨rfl, hb5⟩
      have HB5 := Lib.hid (below_then HB4.out hb5)
      go_wp2_with fail
      refine (HY.out _).mono ?_
      rintro e w6 ⟨rfl, hb6⟩
      have HB6 := Lib.hid (below_then HB5.out hb6); have HE6 := Lib.hid (HE.out.below HB6.out)
      have HS := Lib.hid (same_of (.slice none 0 0) (.slice none 0 0) [] (by simp) w6 ⟨0, 0, none, 0, rfl, fun h => by simp at h, fun j h => by simp at h⟩ ⟨0, 0, none, 0, rfl, fun h => by simp at h, fun j h => by simp at h⟩)
      clear hk
      go_wp2_with fail
      refine HS.out.mono ?_
      rintro e w7 ⟨rfl, hb7⟩
      have HB7 := Lib.hid (below_then HB6.out hb7); have HE7 := Lib.hid (HE.out.below HB7.out)
      go_wp2_with fail
      refine (HNK.out _ HE7.out.e).mono ?_
      rintro e w8 ⟨rfl, hb8⟩
      have HB8 := Lib.hid (below_then HB7.out hb8)
      go_wp2_with fail
      go_ret
      exact ⟨ret_bool (by simp), HB8.out⟩
  · clear hln
    go_enter Tryz.func3, Tryz.ntmps3
    go_wp2_with fail
    refine (HA.out _ HE.out).mono ?_
    rintro e w1 ⟨rfl, hb1⟩
    go_wp2_with fail
    go_ret
    exact ⟨rfl, hb1⟩
end Go.Proofs.YthjdaehiebcoaaaGreatDoor
