/- The walk of liaisonref05.Read at a pattern with one number at its end. -/
import Derived.Test.YthjdaehiebcoaaaGreatDoorRows
import Derived.WalkKit
import Derived.WalkSpells
import Derived.WalkLawsBesides
import Derived.BigQuiet
import Derived.Deep.QuietTactic
import Derived.StillTailTactics
import Derived.Handy
import Derived.Lib.Hide
import Derived.Test.YthjdaehiebcoaaaGreatDoorRefP
import Derived.IntWalk
set_option linter.unusedSimpArgs false
set_option linter.unusedVariables false
namespace Go.Proofs.YthjdaehiebcoaaaGreatDoor
open Go.RowKit

def rdOk (pre s : Str) : Bool := pre.isPrefixOf s && tDigs (s.drop pre.length)
theorem infoInt' : (Tryz.prog.info? 3).map (fun i => (i.zero, i.size, i.bytes)) = some (some (.int .i64 0), 1, 8) := by kernel_rfl
def OwnN (B : Nat) (v : Value) (xs : List Int) (w : World) : Prop := w.ownsRow B 3 1 v xs.length (xs.map (Value.int .i64))
/-- numbers in a slice of its own, and whether the text was one -/
def MakesRd (ok : Bool) (x : Int) (w : World) (e : Ending) (w' : World) : Prop := ∃ v, e = .returned (.tuple #[v, .bool ok]) ∧ (ok = true → OwnN w.heap.size v [x] w') ∧ Below w.heap.size w w'
theorem tDigs_nil : tDigs [] = false := rfl
theorem lead_none {r : Str} (h : ∀ h : 0 < r.length, tDig r[0] = false) : tDigs r = false := by
  cases r with
  | nil => rfl
  | cons c r =>
    have := h (by simp)
    simp only [List.getElem_cons_zero] at this
    unfold tDigs
    rw [List.all_cons, this]; simp
theorem lead_zero {r : Str} (h : 1 < r.length) (h0 : byteAt r 0 = 48) : tDigs r = false := by
  match r, h with
  | c :: d :: r, _ =>
    have hc : c = 48 := by
      have : c.toNat = 48 := by unfold byteAt at h0; simpa using (by exact_mod_cast h0 : c.toNat = 48)
      have h48 : (48 : UInt8).toNat = 48 := rfl
      exact UInt8.toNat_inj.1 (this.trans h48.symm)
    subst hc
    unfold tDigs
    simp
theorem lead_end {r : Str} {k : Nat} (hk : k ≤ r.length) (hd : (r.take k).all tDig = true) (h0 : k ≠ 0) (h1 : ¬ (1 < k ∧ byteAt r 0 = 48)) (hn : ∀ h : k < r.length, tDig r[k] = false) :
    (k = r.length → tDigs r = true) ∧ (k ≠ r.length → tDigs r = false) := by
  refine ⟨fun e => ?_, fun e => ?_⟩
  · subst e
    rw [List.take_of_length_le (Nat.le_refl _)] at hd
    cases hc : tDigs r with
    | true => rfl
    | false =>
      rcases digs_cases hc with h | ⟨h2, h3, h4⟩ | ⟨_, _, _, h4⟩
      · subst h; exact absurd rfl h0
      · exfalso
        refine h1 ⟨?_, h4⟩
        rcases Nat.lt_or_ge 1 r.length with h | h
        · exact h
        · exfalso
          have hl1 : r.length = 1 := by omega
          obtain ⟨c, hc⟩ := List.length_eq_one_iff.1 hl1
          subst hc
          apply h3
          have : c.toNat = 48 := by unfold byteAt at h4; simpa using (by exact_mod_cast h4 : c.toNat = 48)
          have h48 : (48 : UInt8).toNat = 48 := rfl
          rw [UInt8.toNat_inj.1 (this.trans h48.symm)]
      · rw [hd] at h4; cases h4
  · have hlt : k < r.length := by omega
    have hq := hn hlt
    cases hc : tDigs r with
    | false => rfl
    | true =>
      unfold tDigs at hc
      simp only [Bool.and_eq_true] at hc
      have := List.all_eq_true.1 hc.2 r[k] (List.getElem_mem _)
      rw [hq] at this; cases this
theorem sat_take {s : Str} {j : Nat} (hj : j < s.length) : tSat (s.take (j + 1)) = min (10 * tSat (s.take j) + ((s.getD j 0).toNat - 48)) 1000000 := by
  rw [List.take_succ_eq_append_getElem hj]
  unfold tSat
  rw [List.foldl_append]
  simp [satv, List.getD, List.getElem?_eq_getElem hj]
theorem sat_le (s : Str) : tSat s ≤ 1000000 := by rw [tSat_eq]; omega
/-- where the outer loop stands -/
def RdAt (B : Nat) (pre s : Str) (v a i : Value) (wr : World) : Prop :=
  (∃ j : Nat, j ≤ pre.length ∧ i = .int .i64 (j : Int) ∧ a = .int .i64 (j : Int) ∧ OwnN B v [] wr ∧ j ≤ s.length ∧ s.take j = pre.take j) ∨
  (∃ k : Nat, i = .int .i64 ((pre.length + 1 : Nat) : Int) ∧ a = .int .i64 (k : Int) ∧ OwnN B v [(tSat ((s.drop pre.length).take (k - pre.length)) : Int)] wr ∧ pre.length ≤ k ∧ k ≤ s.length ∧ pre.isPrefixOf s = true ∧
    (k = s.length → tDigs (s.drop pre.length) = true) ∧ (k ≠ s.length → tDigs (s.drop pre.length) = false))
theorem prefix_take {pre s : Str} (h : s.take pre.length = pre) : pre.isPrefixOf s = true := by
  rw [List.isPrefixOf_iff_prefix]
  exact ⟨s.drop pre.length, by conv => lhs; lhs; rw [← h]
                               exact List.take_append_drop _ _⟩
theorem prefix_short {pre s : Str} (h : s.length < pre.length) : pre.isPrefixOf s = false := by
  rw [Bool.eq_false_iff]
  intro e
  have := (List.isPrefixOf_iff_prefix.1 e).length_le
  omega
theorem prefix_off {pre s : Str} {j : Nat} (h1 : j < pre.length) (h2 : j < s.length) (h : s[j] ≠ pre[j]) : pre.isPrefixOf s = false := by
  rw [Bool.eq_false_iff]
  intro e
  obtain ⟨t, ht⟩ := List.isPrefixOf_iff_prefix.1 e
  subst ht
  exact h (by rw [List.getElem_append_left h1])
theorem u8_eq {a b : UInt8} : a = b ↔ (a.toNat : Int) = (b.toNat : Int) := by
  constructor
  · rintro rfl; rfl
  · intro h; exact UInt8.toNat_inj.1 (by exact_mod_cast h)
set_option maxRecDepth 100000 in
set_option maxHeartbeats 2000000 in
theorem rread_of (pre s : Str) (hp : pre.length ≤ 10) (hpre : ∀ x ∈ pre, x ≠ 35) (hs : s.length ≤ 100000) (w : World) :
    Calls Tryz.prog 29 #[.string (bs s), .string (bs (pre ++ [35]))] w (MakesRd (rdOk pre s) (tSat (s.drop pre.length)) w) := by
  obtain ⟨n, hn⟩ : ∃ n : Nat, n = s.length := ⟨_, rfl⟩
  have hsz : (bs s).size = n := by rw [bs_size, hn]
  have hn1 : n ≤ 100000 := by omega
  obtain ⟨p, hpl⟩ : ∃ p : Nat, p = pre.length := ⟨_, rfl⟩
  obtain ⟨pat, hpat⟩ : ∃ pat : Str, pat = pre ++ [35] := ⟨_, rfl⟩
  have hpsz : (bs pat).size = p + 1 := by rw [bs_size, hpat, hpl]; simp
  have hp10 : p ≤ 10 := by omega
  have HN := Lib.hid hn; have HPL := Lib.hid hpl; have HPAT := Lib.hid hpat; have HPRE := Lib.hid hpre
  obtain ⟨i0, ei, ez, es, eb⟩ := info_parts infoInt'
  rw [← hpat]
  clear hn hs hpl hpat hpre hp
  go_enter Tryz.func29, Tryz.ntmps29
  go_wp2_with fail
  go_loopw [6, 7, 8] (fun v a i wr => RdAt w.heap.size pre s v a i wr ∧ Below w.heap.size w wr) (fun _ _ i _ => p + 1 - (intOf i).toNat)
  case atStart =>
    refine ⟨.inl ⟨0, Nat.zero_le _, rfl, rfl, ?_, Nat.zero_le _, rfl⟩, by go_grown⟩
    exact World.ownsRow_lit w #[] 0 (Nat.le_refl _) (by decide) rfl
  case round =>
    obtain ⟨hat, hB⟩ := hrel
    rcases hat with ⟨j, hj, rfl, rfl, hown, hjs, htk⟩ | ⟨k, rfl, rfl, hown, h1, h2, h3, h4, h5⟩
    · rw [← HPL.out] at hj; rw [← HN.out] at hjs
      have HTK := Lib.hid htk
      clear htk
      by_cases hjp : j < p
      · have hjq : j < (bs pat).size := by omega
        have hjl : j < pre.length := by rw [← HPL.out]; exact hjp
        have hpj : (bs pat)[j]'hjq = pre[j] := by
          rw [bs_get, HPAT.out, List.getD, List.getElem?_append_left hjl, List.getElem?_eq_getElem hjl]; rfl
        have h35 : ((((bs pat)[j]'hjq).toNat : Int) != 35) = true := by
          rw [hpj, bne_iff_ne]
          intro e
          exact HPRE.out pre[j] (List.getElem_mem _) (u8_eq.2 e)
        have hj1 : (j : Int) < ((p + 1 : Nat) : Int) := by omega
        by_cases hjn : j < n
        · have hjs2 : j < (bs s).size := by omega
          have hjl2 : j < s.length := by rw [← HN.out]; exact hjn
          have hne : ((j : Int) == (n : Int)) = false := by rw [beq_eq_false_iff_ne]; omega
          by_cases hm : s[j] = pre[j]
          · have hmb : ((((bs s)[j]'hjs2).toNat : Int) != (((bs pat)[j]'hjq).toNat : Int)) = false := by
              rw [hpj, show (bs s)[j]'hjs2 = s[j] from rfl, hm]; simp
            have htk2 : s.take (j + 1) = pre.take (j + 1) := by
              rw [List.take_succ_eq_append_getElem hjl2, List.take_succ_eq_append_getElem hjl, HTK.out, hm]
            have HTK2 := Lib.hid htk2
            clear hm hpj htk2
            go_wp2_with fail
            go_quiet (fail)
            have hB2 : Below w.heap.size w (wr.drewN nq) := hB.trans ⟨rfl, rfl, rfl, Nat.le_refl _, fun _ _ => rfl⟩
            go_wp2_with fail
            go_roundw
            case rel => exact ⟨.inl ⟨j + 1, by rw [← HPL.out]; omega, by go_num, by go_num, hown, by rw [← HN.out]; omega, HTK2.out⟩, hB2⟩
            case measure => simp [intOf]; omega
          · have hmb : ((((bs s)[j]'hjs2).toNat : Int) != (((bs pat)[j]'hjq).toNat : Int)) = true := by
              rw [hpj, show (bs s)[j]'hjs2 = s[j] from rfl, bne_iff_ne]
              exact fun e => hm (u8_eq.2 e)
            have hok : rdOk pre s = false := by unfold rdOk; rw [prefix_off hjl hjl2 hm]; rfl
            have HOK := Lib.hid hok
            clear hm hpj hok
            go_wp2_with fail
            go_quiet (fail)
            have hB2 : Below w.heap.size w (wr.drewN nq) := hB.trans ⟨rfl, rfl, rfl, Nat.le_refl _, fun _ _ => rfl⟩
            go_wp2_with fail
            go_ret2
            exact ⟨_, by rw [HOK.out]; rfl, fun e => by (rw [HOK.out] at e; cases e), hB2⟩
        · obtain rfl : n = j := by omega
          have hok : rdOk pre s = false := by unfold rdOk; rw [prefix_short (by rw [← HN.out, ← HPL.out]; exact hjp)]; rfl
          have HOK := Lib.hid hok
          clear hpj hok
          go_wp2_with fail
          go_quiet (fail)
          have hB2 : Below w.heap.size w (wr.drewN nq) := hB.trans ⟨rfl, rfl, rfl, Nat.le_refl _, fun _ _ => rfl⟩
          go_wp2_with fail
          go_ret2
          exact ⟨_, by rw [HOK.out]; rfl, fun e => by (rw [HOK.out] at e; cases e), hB2⟩
      · obtain rfl : p = j := by omega
        have hjq : p < (bs pat).size := by omega
        have h35 : ((((bs pat)[p]'hjq).toNat : Int) != 35) = false := by
          rw [bs_get, HPAT.out, List.getD, List.getElem?_append_right (by rw [← HPL.out]; exact Nat.le_refl _), ← HPL.out]; simp
        have hj1 : (p : Int) < ((p + 1 : Nat) : Int) := by omega
        have hpx : pre.isPrefixOf s = true := by
          have := HTK.out
          rw [HPL.out] at this
          rw [List.take_of_length_le (Nat.le_refl pre.length)] at this
          exact prefix_take this
        have HPX := Lib.hid hpx
        clear hpx
        go_wp2_with fail
        clear h35
        go_loop [7, 10] (fun a x => ∃ k y : Nat, p ≤ k ∧ k ≤ n ∧ a = .int .i64 k ∧ x = .int .i64 (y : Int) ∧ y ≤ 1000000 ∧ Hid (y = tSat ((s.drop p).take (k - p)) ∧ ((s.drop p).take (k - p)).all tDig = true)) (fun a _ => n - (intOf a).toNat)
        case atStart => exact ⟨p, 0, Nat.le_refl _, hjs, rfl, rfl, by omega, Lib.hid ⟨by rw [Nat.sub_self]; rfl, by rw [Nat.sub_self]; rfl⟩⟩
        case round =>
          obtain ⟨k, y, hpk, hkn, rfl, rfl, hy, HY⟩ := hrel
          have hrl : (s.drop p).length = n - p := by rw [List.length_drop, ← HN.out]
          have HRL := Lib.hid hrl
          clear hrl
          have hk0 : (0 : Int) ≤ (k : Int) := by omega
          by_cases hkn2 : k < n ∧ (48 ≤ byteAt s k ∧ byteAt s k ≤ 57)
          · obtain ⟨hk, b0, b1⟩ := hkn2
            have hks : k < (bs s).size := by omega
            have hbe : (((bs s)[k]'hks).toNat : Int) = byteAt s k := by rw [bs_get]; rfl
            have hbn : byteAt s k = (((s.drop p).getD (k - p) 0).toNat : Int) := by
              unfold byteAt
              rw [List.getD, List.getD, List.getElem?_drop, show p + (k - p) = k by omega]
            have hkr : k - p < (s.drop p).length := by rw [HRL.out]; omega
            have hdig : ((s.drop p).take (k - p + 1)).all tDig = true := by
              rw [List.take_succ_eq_append_getElem hkr, List.all_append, HY.out.2, List.all_cons, dig_byte hkr]
              unfold byteAt
              rw [← hbn, decide_eq_true b0, decide_eq_true b1]; rfl
            have hst := sat_take hkr
            obtain ⟨d, hd⟩ : ∃ d : Nat, d = ((s.drop p).getD (k - p) 0).toNat := ⟨_, rfl⟩
            rw [← hd] at hst hbn
            rw [← HY.out.1] at hst
            rw [hbn] at hbe b0 b1
            have b0' : 48 ≤ (((bs s)[k]'hks).toNat : Int) := by rw [hbe]; exact b0
            have b1' : (((bs s)[k]'hks).toNat : Int) ≤ 57 := by rw [hbe]; exact b1
            have hk1 : (k : Int) < (n : Int) := by omega
            have HBE := Lib.hid hbe; have HST := Lib.hid hst; have HDG := Lib.hid hdig
            have HB0 := Lib.hid (And.intro b0 b1)
            clear hbe hbn hdig hst hd b0 b1
            by_cases hbig : 1000000 < 10 * (y : Int) + (((bs s)[k]'hks).toNat : Int) - 48
            · have hy2 : min (10 * y + (d - 48)) 1000000 = 1000000 := by
                have := HBE.out; have := HB0.out
                omega
              have HY2 := Lib.hid hy2
              clear hy2
              go_wp2_with fail
              go_round
              case rel => exact ⟨k + 1, 1000000, by omega, by omega, by go_num, rfl, by omega, Lib.hid ⟨by rw [show k + 1 - p = k - p + 1 by omega, HST.out, HY2.out], by rw [show k + 1 - p = k - p + 1 by omega]; exact HDG.out⟩⟩
              case measure => simp [intOf]; omega
            · have hy2 : min (10 * y + (d - 48)) 1000000 = 10 * y + (d - 48) := by
                have := HBE.out; have := HB0.out
                omega
              have hval : 10 * (y : Int) + (((bs s)[k]'hks).toNat : Int) - 48 = ((10 * y + (d - 48) : Nat) : Int) := by
                have := HBE.out; have := HB0.out
                omega
              have HY2 := Lib.hid hy2; have HVAL := Lib.hid hval
              have hle : 10 * y + (d - 48) ≤ 1000000 := by
                have := HBE.out; have := HB0.out
                omega
              clear hy2 hval
              go_wp2_with fail
              go_round
              case rel => exact ⟨k + 1, 10 * y + (d - 48), by omega, by omega, by go_num, by rw [← HVAL.out], hle, Lib.hid ⟨by rw [show k + 1 - p = k - p + 1 by omega, HST.out, HY2.out], by rw [show k + 1 - p = k - p + 1 by omega]; exact HDG.out⟩⟩
              case measure => simp [intOf]; omega
          · -- behind the digits
            have hnd : ∀ h : k - p < (s.drop p).length, tDig (s.drop p)[k - p] = false := fun h => by
              rw [dig_byte h]
              have e : byteAt (s.drop p) (k - p) = byteAt s k := by
                unfold byteAt
                rw [List.getD, List.getD, List.getElem?_drop, show p + (k - p) = k by omega]
              rw [e]
              have hk : k < n := by rw [HRL.out] at h; omega
              by_cases b0 : 48 ≤ byteAt s k
              · rw [decide_eq_false (fun b1 => hkn2 ⟨hk, b0, b1⟩)]; simp
              · rw [decide_eq_false b0]; rfl
            have hbk : ∀ h : k < (bs s).size, (((bs s)[k]'h).toNat : Int) = byteAt s k := fun h => by rw [bs_get]; rfl
            have hstop : ¬ k < n ∨ ∃ h : k < (bs s).size, k < n ∧ ((((bs s)[k]'h).toNat : Int) < 48 ∨ 48 ≤ (((bs s)[k]'h).toNat : Int) ∧ 57 < (((bs s)[k]'h).toNat : Int)) := by
              by_cases hk : k < n
              · right
                refine ⟨by omega, hk, ?_⟩
                rw [hbk]
                by_cases b0 : 48 ≤ byteAt s k
                · right
                  refine ⟨b0, ?_⟩
                  by_cases b1 : byteAt s k ≤ 57
                  · exact absurd ⟨hk, b0, b1⟩ hkn2
                  · omega
                · left; omega
              · exact .inl hk
            have HND := Lib.hid hnd
            clear hnd hbk hkn2
            have hmain : k = p ∨ (p < k ∧ ∃ hp : p < (bs s).size, 1 < (k : Int) - (p : Int) ∧ ((((bs s)[p]'hp).toNat : Int) == 48) = true) ∨ (p < k ∧ ∃ hp : p < (bs s).size, 1 < (k : Int) - (p : Int) ∧ ((((bs s)[p]'hp).toNat : Int) == 48) = false) ∨ (p < k ∧ ¬ 1 < (k : Int) - (p : Int)) := by
              by_cases h1 : k = p
              · exact .inl h1
              · right
                have hlt : p < k := by omega
                have hp : p < (bs s).size := by omega
                by_cases h2 : 1 < (k : Int) - (p : Int)
                · cases hc : ((((bs s)[p]'hp).toNat : Int) == 48) with
                  | true => exact .inl ⟨hlt, hp, h2, hc⟩
                  | false => exact .inr (.inl ⟨hlt, hp, h2, hc⟩)
                · exact .inr (.inr ⟨hlt, h2⟩)
            have hb48 : ∀ hp : p < (bs s).size, (((bs s)[p]'hp).toNat : Int) = byteAt (s.drop p) 0 := fun h => by
              rw [bs_get]
              unfold byteAt
              rw [List.getD, List.getD, List.getElem?_drop, Nat.add_zero]
            have HB48 := Lib.hid hb48
            clear hb48
            have hrow : wr.ownsRow w.heap.size 3 1 _ ([] : List Int).length (([] : List Int).map (Value.int .i64)) := hown
            obtain ⟨av, cv, rfl⟩ := row_slice hrow
            have HOWN := Lib.hid hrow
            have HROK : Hid (rdOk pre s = tDigs (s.drop p)) := Lib.hid (by unfold rdOk; rw [HPX.out, ← HPL.out]; rfl)
            clear hown hrow
            rcases hmain with rfl | ⟨hlt, hp, h2, h3⟩ | ⟨hlt, hp, h2, h3⟩ | ⟨hlt, h2⟩
            · have hok : rdOk pre s = false := by
                rw [HROK.out]
                exact lead_none (fun h => by have := HND.out (by rw [Nat.sub_self]; exact h); simpa using this)
              have HOK := Lib.hid hok
              clear hok
              rcases hstop with c | ⟨hks, c, c1 | ⟨c1, c2⟩⟩
              all_goals
                go_wp2_with fail
                go_ret2
                exact ⟨_, by rw [HOK.out]; rfl, fun e => by (rw [HOK.out] at e; cases e), hB⟩
            · have hok : rdOk pre s = false := by
                rw [HROK.out]
                refine lead_zero (by rw [HRL.out]; omega) ?_
                rw [← HB48.out hp]
                simpa using h3
              have HOK := Lib.hid hok
              clear hok
              rcases hstop with c | ⟨hks, c, c1 | ⟨c1, c2⟩⟩
              all_goals
                go_wp2_with fail
                go_ret2
                exact ⟨_, by rw [HOK.out]; rfl, fun e => by (rw [HOK.out] at e; cases e), hB⟩
            · have hle := lead_end (r := s.drop p) (k := k - p) (by rw [HRL.out]; omega) HY.out.2 (by omega) (fun h => by
                have := HB48.out hp
                rw [h.2] at this
                rw [this] at h3
                simp at h3) (fun h => HND.out h)
              have HLE := Lib.hid hle
              clear hle
              rcases hstop with c | ⟨hks, c, c1 | ⟨c1, c2⟩⟩
              all_goals
                go_wp2_with (at_builtin; go_loud (refine wpList_append_own _ rfl _ _ 62 rfl w.heap.size 3 i0 (.int .i64 0) 1 8 Tryz.underlying62 ei ez es eb rfl (by decide) _ _ _ rfl (HOWN.out.alloc _) ⟨wr.heap.size, 0, none⟩ 1 1 [.int .i64 (y : Int)] rfl rfl (by intro j u hj; match j, hj with | 0, hj => (simp at hj; subst hj; simp [Addr.add])) (by intro u hu; simp at hu; subst hu; rfl) (by unfold maxLen; simp) (by simp) (by have := hB.size; simp; omega) ?_))
                intro v' w2 hown' hgrow _
                have hlt' := HOWN.out.lt
                have hB' : Below w.heap.size w w2 := (hB.alloc hB.size _).grown hgrow (by have := hB.size; simp; omega) (fun k hk => by have := (hlt' k hk).1; omega)
                have hown2 : OwnN w.heap.size v' [(y : Int)] w2 := hown'
                clear hown' hgrow hlt'
                go_wp2_with fail
                go_roundw
                case rel => exact ⟨.inr ⟨k, by rw [← HPL.out]; rfl, rfl, by rw [← HPL.out, ← HY.out.1]; exact hown2, by rw [← HPL.out]; omega, by rw [← HN.out]; omega, HPX.out, fun e => by (rw [← HPL.out]; exact HLE.out.1 (by rw [HRL.out]; rw [← HN.out] at e; omega)), fun e => by (rw [← HPL.out]; exact HLE.out.2 (by rw [HRL.out]; rw [← HN.out] at e; omega))⟩, hB'⟩
                case measure => (simp [intOf] <;> omega)
            · have hle := lead_end (r := s.drop p) (k := k - p) (by rw [HRL.out]; omega) HY.out.2 (by omega) (fun h => by omega) (fun h => HND.out h)
              have HLE := Lib.hid hle
              clear hle
              rcases hstop with c | ⟨hks, c, c1 | ⟨c1, c2⟩⟩
              all_goals
                go_wp2_with (at_builtin; go_loud (refine wpList_append_own _ rfl _ _ 62 rfl w.heap.size 3 i0 (.int .i64 0) 1 8 Tryz.underlying62 ei ez es eb rfl (by decide) _ _ _ rfl (HOWN.out.alloc _) ⟨wr.heap.size, 0, none⟩ 1 1 [.int .i64 (y : Int)] rfl rfl (by intro j u hj; match j, hj with | 0, hj => (simp at hj; subst hj; simp [Addr.add])) (by intro u hu; simp at hu; subst hu; rfl) (by unfold maxLen; simp) (by simp) (by have := hB.size; simp; omega) ?_))
                intro v' w2 hown' hgrow _
                have hlt' := HOWN.out.lt
                have hB' : Below w.heap.size w w2 := (hB.alloc hB.size _).grown hgrow (by have := hB.size; simp; omega) (fun k hk => by have := (hlt' k hk).1; omega)
                have hown2 : OwnN w.heap.size v' [(y : Int)] w2 := hown'
                clear hown' hgrow hlt'
                go_wp2_with fail
                go_roundw
                case rel => exact ⟨.inr ⟨k, by rw [← HPL.out]; rfl, rfl, by rw [← HPL.out, ← HY.out.1]; exact hown2, by rw [← HPL.out]; omega, by rw [← HN.out]; omega, HPX.out, fun e => by (rw [← HPL.out]; exact HLE.out.1 (by rw [HRL.out]; rw [← HN.out] at e; omega)), fun e => by (rw [← HPL.out]; exact HLE.out.2 (by rw [HRL.out]; rw [← HN.out] at e; omega))⟩, hB'⟩
                case measure => (simp [intOf] <;> omega)
    · have HEND := Lib.hid (And.intro h1 (And.intro h2 (And.intro h3 (And.intro h4 h5))))
      have hpk : p ≤ k := by rw [HPL.out]; exact h1
      have hkn : k ≤ n := by rw [HN.out]; exact h2
      have HOWN := Lib.hid (show OwnN w.heap.size _ [(tSat ((s.drop p).take (k - p)) : Int)] wr from by rw [HPL.out]; exact hown)
      rw [← HPL.out]
      have hip : ¬ ((p + 1 : Nat) : Int) < ((p + 1 : Nat) : Int) := by omega
      have HROK : Hid (rdOk pre s = tDigs (s.drop p)) := Lib.hid (by unfold rdOk; rw [h3, ← HPL.out]; rfl)
      clear h1 h2 h3 h4 h5 hown
      by_cases hkn2 : k = n
      · have hkb : ((k : Int) == (n : Int)) = true := by rw [hkn2]; simp
        have hok : rdOk pre s = true := by
          rw [HROK.out, HPL.out]
          exact HEND.out.2.2.2.1 (by rw [← HN.out]; exact hkn2)
        have hx : tSat ((s.drop p).take (k - p)) = tSat (s.drop pre.length) := by
          rw [List.take_of_length_le (by rw [List.length_drop, ← HN.out]; omega), HPL.out]
        have HOK := Lib.hid (And.intro hok hx)
        clear hok hx hkn2
        go_wp2_with fail
        go_ret2
        exact ⟨_, by rw [HOK.out.1, ← hkb]; rfl, fun _ => by rw [← HOK.out.2]; exact HOWN.out, hB⟩
      · have hkb : ((k : Int) == (n : Int)) = false := by rw [beq_eq_false_iff_ne]; omega
        have hok : rdOk pre s = false := by
          rw [HROK.out, HPL.out]
          exact HEND.out.2.2.2.2 (by rw [← HN.out]; exact hkn2)
        have HOK := Lib.hid hok
        clear hok hkn2
        go_wp2_with fail
        go_ret2
        exact ⟨_, by rw [HOK.out, ← hkb]; rfl, fun e => by (rw [HOK.out] at e; cases e), hB⟩
end Go.Proofs.YthjdaehiebcoaaaGreatDoor
