/- liaisonlaw13.TimersOrder, walked. -/
import Derived.Test.YtkidljiffeonjaaDoorRows
import Derived.WalkKit
import Derived.WalkSpells
import Derived.WalkLawsBesides
import Derived.BigQuiet
import Derived.Deep.QuietTactic
import Derived.StillTailTactics
import Derived.Handy
import Derived.Lib.Hide
import Derived.Test.YtkidljiffeonjaaDoorLawOrder
import Derived.Deep.CutRange
set_option linter.unusedSimpArgs false
set_option linter.unusedVariables false
namespace Go.Proofs.YtkidljiffeonjaaDoor
open Go.RowKit Go.Maps
attribute [local go_sem] store_float

theorem order_gt (a b : Nat) (ha : a ≤ 9218868437227405312) (hb : b ≤ 9218868437227405312) (h : a ≤ b) : (FloatKind.f64.format.order a b == some .gt) = false := by
  rw [run_fgt a b (le_parts a ha).1 (le_parts b hb).1, flt_le b a hb ha]
  exact decide_eq_false (by omega)
theorem order_lt (a b : Nat) (ha : a ≤ 9218868437227405312) (hb : b ≤ 9218868437227405312) (h : b ≤ a) : (FloatKind.f64.format.order a b == some .lt) = false := by
  rw [run_flt a b (le_parts a ha).1 (le_parts b hb).1, flt_le a b ha hb]
  exact decide_eq_false (by omega)
theorem Below.ownsMap {R : Value → Option (DataW Unit × List MemPlace)} {w w' : World} {b n : Nat} {D : DataW Unit} (h : w.ownsMap Tryd.prog 9 R b n D) (hb : Below w.heap.size w w') : w'.ownsMap Tryd.prog 9 R b n D :=
  h.kept ⟨hb.os, hb.tape, hb.output, hb.size, fun k hk _ => hb.block k hk⟩ (row := none) (by simp)
set_option maxRecDepth 100000 in
set_option maxHeartbeats 8000000 in
theorem law_order (v : Value) (xs : List Nat) {y : Nat} (ea : Int → Addr) (w : World) (hE : Err4 ea w) (fy : F64 y) (hvx : FloatRow w v xs ∧ ∀ z ∈ xs, F64 z) :
    Calls Tryd.prog 6 #[v, flV y] w (Makes (.bool true) w) := by
  have HE := Lib.hid hE
  have HV := Lib.hid hvx.1
  have HX := Lib.hid hvx.2
  have HY := Lib.hid fy
  have HCv := Lib.hid keyB_conv
  obtain ⟨a, cap, rfl, _⟩ := hvx.1
  obtain ⟨n, hn⟩ : ∃ n, n = xs.length := ⟨_, rfl⟩
  rw [← hn] at HV ⊢
  have HN := Lib.hid hn
  clear hn hE hvx fy
  by_cases hlong : 50 < n
  · go_enter Tryd.func6, Tryd.ntmps6
    go_wp2_with fail
    refine (alive_of _).mono ?_; rintro e w1 ⟨rfl, hb1⟩
    go_wp2_with fail
    go_ret
    exact ⟨rfl, hb1⟩
  go_enter Tryd.func6, Tryd.ntmps6
  go_wp2_with fail
  refine (alive_of _).mono ?_; rintro e w1 ⟨rfl, hb1⟩
  go_wp2_with fail
  refine (new_of _).mono ?_; rintro e w2 ⟨c, b, rfl, hc2, hb2, lc, lb⟩
  have HC2 := Lib.hid hc2
  have hB2 : Below w.heap.size w w2 := below_then hb1 hb2
  have lc : w.heap.size ≤ c := Nat.le_trans hb1.size lc
  have lb : w.heap.size ≤ b := Nat.le_trans hb1.size lb
  clear hc2 hb1 hb2
  go_wp2_with fail
  go_loopw [30] (fun i wr => ∃ (k : Nat) (L : List MTimer), k ≤ n ∧ i = .int .i64 k ∧ Hid (Keys 65 k L) ∧ Hid (ClockAt c b 0 L wr) ∧ Below w.heap.size w wr) (fun i _ => n - (intOf i).toNat)
  case atStart => exact ⟨0, [], by omega, rfl, Lib.hid ⟨by simp, by simp⟩, HC2, hB2⟩
  case round =>
    obtain ⟨k, L, hk, rfl, HK, HC, hB⟩ := hrel
    by_cases hlt : k < n
    · have hlt' : k < xs.length := by rw [← HN.out]; exact hlt
      obtain ⟨a2, cap2, e2, hc2⟩ := HV.out.below hB
      obtain ⟨g, o, ea2, hcell⟩ := hc2 k hlt'
      simp only [Value.slice.injEq] at e2
      obtain ⟨rfl, -, rfl⟩ := e2
      subst ea2
      have hz := HX.out _ (List.getElem_mem hlt')
      generalize xs[k] = z at hcell hz
      have hcv := HCv.out wr (65 + k) (by omega)
      rw [show ((65 + k : Nat) : Int) = 65 + (k : Int) by omega] at hcv
      have hwr : IntKind.u8.wrap (65 + (k : Int)) = 65 + (k : Int) := by simp [IntKind.wrap, IntKind.bits, IntKind.signed]; omega
      have hBa : Below w.heap.size w (wr.alloc (.cells #[.int .u8 (65 + (k : Int))] 5)) := hB.alloc hB.size _
      have HCa := Lib.hid (HC.out.below ((Below.refl _ wr).alloc (Nat.le_refl _) (.cells #[.int .u8 (65 + (k : Int))] 5)))
      cases hdl : fdelay z
      · have HSt := Lib.hid (set_bad1 c (keyB (65 + k)) z z (ea 4) _ hz hz hdl (HE.out.below hBa).e4)
        clear hc2 hz hdl hB
        go_wp2_with fail
        refine HSt.out.mono ?_; rintro e w3 ⟨rfl, hb3⟩
        have HC3 := Lib.hid (HCa.out.below hb3)
        have hB3 := below_then hBa hb3
        clear hcv hBa hcell
        go_wp2_with fail
        go_roundw
        case rel => exact ⟨k + 1, L, by omega, by go_num, Lib.hid HK.out.keep, HC3, hB3⟩
        case measure => simp [intOf]; omega
      · have HSt := Lib.hid (set_room c b 0 L (keyB (65 + k)) z z _ HCa.out (keyB_size _) (HK.out.none (by omega)) (by have := HK.out.len; omega) hz hz hdl hdl)
        clear hc2 hz hdl hB
        go_wp2_with fail
        refine HSt.out.mono ?_; rintro e w3 ⟨rfl, hc3, ht3⟩
        have HC3 := Lib.hid hc3
        have hB3 := hBa.trans (ht3.below hBa.size lc lb)
        clear hcv hBa hcell hc3 ht3
        go_wp2_with fail
        go_roundw
        case rel => exact ⟨k + 1, _, by omega, by go_num, Lib.hid (HK.out.put (tnew 0 (keyB (65 + k)) z z) rfl), HC3, hB3⟩
        case measure => simp [intOf]; omega
    · obtain rfl : k = n := by omega
      go_wp2_with fail
      refine (len_at c b 0 L _ HC.out).mono ?_; rintro e w3 ⟨rfl, rfl⟩
      go_wp2_with fail
      have HLn : Hid (L.length ≤ 64) := Lib.hid (by have := HK.out.len; omega)
      cases hdl : fdelay y
      · have f4 := run_fge y 0 HY.out f64_zero
        rw [fle_zero y HY.out, hdl] at f4
        refine (tick_bad c b 0 y L (ea 4) _ HC.out HY.out hdl (HE.out.below hB).e4).mono ?_; rintro e w4 ⟨rfl, hb4⟩
        go_wp2_with fail
        go_ret
        exact ⟨by first | rfl | exact ret_bool (by simp), below_then hB hb4⟩
      · refine (tick_at c b 0 y L _ HC.out HY.out hdl).mono ?_; rintro e w4 ⟨rfl, hc4, ht4⟩
        have HC4 := Lib.hid hc4
        have hB4 := hB.trans (ht4.below hB.size lc lb)
        have HAp := Lib.hid hc4.apart
        have HTop := Lib.hid hc4.top
        have HGd := Lib.hid hc4.good
        clear hc4 ht4 hB HC hdl
        generalize fsum 0 (fplain y) = now at *
        go_wp2_with fail
        refine (due_at c b now L _ HC4.out HLn.out).mono ?_; rintro e w5 ⟨vd, rfl, hd, hb5⟩
        have HC5 := Lib.hid (HC4.out.below hb5)
        have hB5 := below_then hB4 hb5
        have HKR := Lib.hid (key_own hd)
        obtain ⟨a5, cap5, rfl⟩ := own_slice hd
        have HFd := Lib.hid (due_find now HAp.out)
        have HNw := Lib.hid (due_new now HAp.out)
        have HUp := Lib.hid (due_up now HAp.out)
        have HMe := Lib.hid (fun j hj => (due_mem now HAp.out (t := (tdue now L)[j])).1 (List.getElem_mem hj))
        have HTd := Lib.hid (due_told now HAp.out)
        rw [List.length_map] at HKR ⊢
        obtain ⟨ts, hts⟩ : ∃ ts, ts = tdue now L := ⟨_, rfl⟩
        have hlen : ts.length ≤ L.length := by rw [hts, (tdue_spec now HAp.out).2.length_eq]; exact List.length_filter_le _ _
        rw [← hts] at HKR HFd HNw HUp HMe HTd ⊢
        obtain ⟨m, hm⟩ : ∃ m, m = ts.length := ⟨_, rfl⟩
        rw [← hm] at HKR ⊢
        have HM := Lib.hid hm
        have hmle : m ≤ 64 := by rw [hm]; exact Nat.le_trans hlen HLn.out
        clear hd hts hlen hm hB4 hb5 HC4
        have hmm := @run_makeMap Tryd.prog
        go_wp2_with fail
        go_loopw [11, 59] (fun last i wr => ∃ (j lastN : Nat) (D : DataW Unit), j ≤ m ∧ i = .int .i64 j ∧ last = flV lastN ∧ Hid (lastN ≤ 9218868437227405312 ∧ ∀ j' (h : j' < ts.length), j ≤ j' → lastN ≤ ts[j'].at_) ∧ Hid (Told D ((ts.take j).map (·.key))) ∧ wr.ownsMap Tryd.prog 9 boolR w5.heap.size j D ∧ Below w5.heap.size w5 wr) (fun _ i _ => m - (intOf i).toNat)
        case atStart => exact ⟨0, 0, _, by omega, rfl, rfl, Lib.hid ⟨by omega, fun j' h _ => Nat.zero_le _⟩, Lib.hid Told.new, World.ownsMap_made _ _ _ _, (Below.refl _ _).alloc (Nat.le_refl _) _⟩
        case round =>
          obtain ⟨j, lastN, D, hj, rfl, rfl, HLst, HTo, hown, hB6⟩ := hrel
          by_cases hlt : j < m
          · have hlt' : j < ts.length := by rw [← HM.out]; exact hlt
            obtain ⟨a7, cap7, e7, hc7⟩ := HKR.out.below hB6
            obtain ⟨g, ea7, hcell⟩ := hc7 j (by simpa using hlt')
            rw [List.getElem_map] at hcell
            simp only [Value.slice.injEq] at e7
            obtain ⟨rfl, -, rfl⟩ := e7
            subst ea7
            have hmem := HMe.out j hlt'
            have hgd := HGd.out _ hmem.1
            have hks := hgd.key
            have hfi := HFd.out j hlt'
            have hnew := kin_no (HNw.out j hlt')
            have hup : ∀ j' (h : j' < ts.length), j + 1 ≤ j' → ts[j].at_ ≤ ts[j'].at_ := fun j' h hjj => HUp.out j j' hlt' h (by omega)
            have f5 := order_lt ts[j].at_ lastN hgd.at_ HLst.out.1 (HLst.out.2 j hlt' (Nat.le_refl _))
            have f6 := order_gt ts[j].at_ now hgd.at_ HTop.out hmem.2
            have hTo2 := HTo.out.put ts[j].key
            have htk : (ts.take j).map (·.key) ++ [ts[j].key] = (ts.take (j + 1)).map (·.key) := by
              rw [List.take_succ_eq_append_getElem hlt', List.map_append]; rfl
            rw [htk] at hTo2
            have HTo2 := Lib.hid hTo2
            have HUp2 : Hid (ts[j].at_ ≤ 9218868437227405312 ∧ ∀ j' (h : j' < ts.length), j + 1 ≤ j' → ts[j].at_ ≤ ts[j'].at_) := Lib.hid ⟨hgd.at_, hup⟩
            have hAt := fun W hW => at_at c b now L ts[j].key W hW hks
            rw [hfi] at hAt
            simp only [Option.getD_some, Option.isSome_some] at hAt
            have HAt := Lib.hid hAt
            have HKs := Lib.hid hks
            have HOw := Lib.hid hown
            have HC6 := Lib.hid (HC5.out.below hB6)
            clear hc7 hmem hgd hfi hup hTo2 htk hAt hown hks
            generalize ts[j] = t at *
            go_upto_region 20 with fail
            go_wp2_with (go_at_call 36; refine (HAt.out _ HC6.out).mono ?_; rintro e w7 ⟨rfl, hb7⟩; have hcell := hb7; have hown7 := Below.ownsMap HOw.out hb7; have hlk := told_look HTo.out hown7 t.key HKs.out; rw [hnew] at hlk; have HC7 := Lib.hid (HC6.out.below hb7); have HOw7 := Lib.hid hown7; have hB7 := below_then hB6 hb7; have hz7 := hb7.size; obtain ⟨w8, hrun8, hown8, hgrow8⟩ := hown7.update (t := 78) (e := 4) (string_keyed Tryd.underlying9) Tryd.underlying78 (show j < maxLen by unfold maxLen; omega) (key := .string t.key) (val := .bool true) (Go.WideMaps.keyOf_string_mk Tryd.underlying9 HKs.out) rfl; have HO8 := Lib.hid hown8; have HG8 := Lib.hid hgrow8; clear hcell hown7 hown8 hgrow8 hB6 hb7)
            refine (now_at c b now L _ HC7.out).mono ?_; rintro e w9 ⟨rfl, rfl⟩
            have HB8 := Lib.hid (hB7.grown HG8.out hB7.size (fun k hk => by cases hk; exact Nat.le_refl _))
            go_wp2_with fail
            go_roundw
            case rel => exact ⟨j + 1, t.at_, _, by omega, by go_num, rfl, HUp2, HTo2, HO8.out, HB8.out⟩
            case measure => simp [intOf]; omega
          · obtain rfl : j = m := by omega
            have e1 : ts.take j = ts := List.take_of_length_le (by rw [← HM.out]; exact Nat.le_refl _)
            rw [e1] at HTo
            clear hj HLst HKR HFd HNw HUp HM e1
            have HTl : Hid (∀ (k : ByteArray) (t : MTimer), tfind L k = some t → kin (ts.map (·.key)) k = decide (t.at_ ≤ now)) := Lib.hid HTd.out
            have HOw := Lib.hid hown
            have HC6 := Lib.hid (HC5.out.below hB6)
            have HB6 := Lib.hid (below_then hB5 hB6)
            clear hown hB6 HTd
            obtain ⟨wq, hwq⟩ : ∃ wq, wq = wr := ⟨_, rfl⟩
            subst hwq
            go_wp2_with fail
            go_loopw [94] (fun i ws => ∃ q : Nat, q ≤ k ∧ i = .int .i64 q ∧ Below wq.heap.size wq ws) (fun i _ => k - (intOf i).toNat)
            case atStart => exact ⟨0, by omega, rfl, Below.refl _ _⟩
            case round =>
              obtain ⟨q, hq, rfl, hBs⟩ := hrel
              by_cases hltq : q < k
              · have hcv := HCv.out wr (65 + q) (by omega)
                rw [show ((65 + q : Nat) : Int) = 65 + (q : Int) by omega] at hcv
                have hwr : IntKind.u8.wrap (65 + (q : Int)) = 65 + (q : Int) := by simp [IntKind.wrap, IntKind.bits, IntKind.signed]; omega
                have hBa : Below wq.heap.size wq (wr.alloc (.cells #[.int .u8 (65 + (q : Int))] 5)) := hBs.alloc hBs.size _
                have hks := keyB_size (65 + q)
                generalize keyB (65 + q) = kk at *
                have HCa := Lib.hid (HC6.out.below hBa)
                have hAt := at_at c b now L kk _ HCa.out hks
                cases hf : tfind L kk with
                | none =>
                  rw [hf] at hAt
                  simp only [Option.getD_none, Option.isSome_none] at hAt
                  have HAt := Lib.hid hAt
                  clear hAt hks
                  go_wp2_with fail
                  refine HAt.out.mono ?_; rintro e w7 ⟨rfl, hb7⟩
                  have hB7 := below_then hBa hb7
                  clear hcv hBa hBs hb7
                  go_wp2_with fail
                  go_roundw
                  case rel => exact ⟨q + 1, by omega, by go_num, hB7⟩
                  case measure => simp [intOf]; omega
                | some t =>
                  rw [hf] at hAt
                  simp only [Option.getD_some, Option.isSome_some] at hAt
                  have HAt := Lib.hid hAt
                  have hkin := HTl.out kk t hf
                  have hgd := HGd.out t (tfind_some hf).1
                  have HKs := Lib.hid hks
                  have hle := (float_facts t.at_ now hgd.at_ HTop.out).2.1
                  clear hAt hks hgd
                  by_cases hdue : t.at_ ≤ now
                  · rw [decide_eq_true hdue] at hkin hle
                    go_wp2_with fail
                    refine HAt.out.mono ?_; rintro e w7 ⟨rfl, hb7⟩
                    have hB7 := below_then hBa hb7
                    have hlk := told_look HTo.out (Below.ownsMap HOw.out hB7) kk HKs.out
                    rw [hkin] at hlk
                    clear hcv hBa hBs hb7
                    go_wp2_with fail
                    go_roundw
                    case rel => exact ⟨q + 1, by omega, by go_num, hB7⟩
                    case measure => simp [intOf]; omega
                  · rw [decide_eq_false hdue] at hkin hle
                    go_wp2_with fail
                    refine HAt.out.mono ?_; rintro e w7 ⟨rfl, hb7⟩
                    have hB7 := below_then hBa hb7
                    have hlk := told_look HTo.out (Below.ownsMap HOw.out hB7) kk HKs.out
                    rw [hkin] at hlk
                    have HC7 := Lib.hid (HC6.out.below hB7)
                    clear hcv hBa hBs hb7
                    go_wp2_with fail
                    refine (now_at c b now L _ HC7.out).mono ?_; rintro e w9 ⟨rfl, rfl⟩
                    go_wp2_with fail
                    go_roundw
                    case rel => exact ⟨q + 1, by omega, by go_num, hB7⟩
                    case measure => simp [intOf]; omega
              · obtain rfl : q = k := by omega
                go_wp2_with fail
                refine (len_at c b now L _ (HC6.out.below hBs)).mono ?_; rintro e w9 ⟨rfl, rfl⟩
                go_wp2_with fail
                go_ret
                exact ⟨by first | rfl | exact ret_bool (by simp), below_then HB6.out hBs⟩
end Go.Proofs.YtkidljiffeonjaaDoor
