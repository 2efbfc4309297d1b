/- liaisonlaw13.TimersFull, walked. -/
import Derived.Test.YtkidljiffeonjaaDoorRows
import Derived.WalkKit
import Derived.WalkSpells
import Derived.WalkLawsBesides
import Derived.BigQuiet
import Derived.Deep.QuietTactic
import Derived.StillTailTactics
import Derived.Handy
import Derived.Lib.Hide
import Derived.Test.YtkidljiffeonjaaDoorLawComes
import Derived.Laws.IdiomStrings
set_option linter.unusedSimpArgs false
set_option linter.unusedVariables false
namespace Go.Proofs.YtkidljiffeonjaaDoor
open Go.RowKit Go.Maps
attribute [local go_sem] store_float

/-- the key of one byte -/
def keyB (n : Nat) : ByteArray := ⟨#[UInt8.ofNat n]⟩
theorem keyB_inj {a b : Nat} (ha : a < 256) (hb : b < 256) (h : keyB a = keyB b) : a = b := by
  unfold keyB at h
  simp only [ByteArray.mk.injEq, Array.mk.injEq, List.cons.injEq, and_true] at h
  have := congrArg UInt8.toNat h
  simp [UInt8.toNat_ofNat'] at this
  omega
theorem keyB_size (a : Nat) : (keyB a).size ≤ maxLen := by
  show 1 ≤ maxLen; decide
theorem keyB_conv (W : World) (n : Nat) (h : n < 256) : (convert 73 9 (.slice (some ⟨W.heap.size, 0, none⟩) 1 1)).run Tryd.prog (W.alloc (.cells #[.int .u8 n] 5)) = .ok (.string (keyB n)) (W.alloc (.cells #[.int .u8 n] 5)) := by
  have := run_convert_bytes_back (P := Tryd.prog) (W.alloc (.cells #[.int .u8 n] 5)) 73 9 5 ⟨W.heap.size, 0, none⟩ 1 [UInt8.ofNat n] Tryd.underlying73 Tryd.underlying5 Tryd.underlying9 (fun j hj => by
    have h0 : j = 0 := by simpa using hj
    subst h0
    have e : (UInt8.ofNat n).toNat = n := by simp [UInt8.toNat_ofNat']; omega
    simp [e, Addr.add])
  exact this
theorem ClockAt.apart {c b now : Nat} {L : List MTimer} {w : World} (h : ClockAt c b now L w) : TApart L := by
  obtain ⟨D, h1, _⟩ := h.ex
  exact h1.apart
/-- the row holds keys of one byte alone, from a on, fewer than k -/
structure Keys (a k : Nat) (L : List MTimer) : Prop where
  len : L.length ≤ k
  key : ∀ t ∈ L, ∃ i, i < k ∧ t.key = keyB (a + i)
theorem Keys.none {a k : Nat} {L : List MTimer} (h : Keys a k L) (hk : a + k < 256) : tfind L (keyB (a + k)) = none :=
  tfind_no fun t ht e => by
    obtain ⟨i, hi, e2⟩ := h.key t ht
    have := keyB_inj (by omega) hk (e2.symm.trans e)
    omega
theorem Keys.put {a k : Nat} {L : List MTimer} (h : Keys a k L) (t : MTimer) (ht : t.key = keyB (a + k)) : Keys a (k + 1) (tput L t) := by
  refine ⟨?_, fun u hu => ?_⟩
  · rw [tput_length]; have := h.len; split <;> omega
  · rcases tput_mem hu with rfl | hu
    · exact ⟨k, by omega, ht⟩
    · obtain ⟨i, hi, e⟩ := h.key u hu; exact ⟨i, by omega, e⟩
theorem Keys.keep {a k : Nat} {L : List MTimer} (h : Keys a k L) : Keys a (k + 1) L :=
  ⟨by have := h.len; omega, fun u hu => by obtain ⟨i, hi, e⟩ := h.key u hu; exact ⟨i, by omega, e⟩⟩
abbrev kMore : ByteArray := { data := #[109, 111, 114, 101] }
theorem keyB_more (a : Nat) : keyB a ≠ kMore := fun h => by
  have := congrArg ByteArray.size h
  exact absurd this (by show (1 : Nat) ≠ 4; decide)
theorem Keys.more {a k : Nat} {L : List MTimer} (h : Keys a k L) : tfind L kMore = Option.none :=
  tfind_no fun t ht e => by
    obtain ⟨i, hi, e2⟩ := h.key t ht
    exact keyB_more _ (e2.symm.trans e)
/-- all keys of one byte below k are there -/
structure All (k : Nat) (L : List MTimer) : Prop where
  keys : Keys 0 k L
  len : L.length = k
  there : ∀ i, i < k → (tfind L (keyB i)).isSome = true
theorem All.put {k : Nat} {L : List MTimer} (h : All k L) (hk : k < 256) (t : MTimer) (ht : t.key = keyB k) : All (k + 1) (tput L t) := by
  have hn : tfind L (keyB k) = none := by have := h.keys.none (by omega); rwa [Nat.zero_add] at this
  refine ⟨h.keys.put t (by rw [Nat.zero_add]; exact ht), ?_, fun i hi => ?_⟩
  · rw [tput_length, ht, hn, h.len]; rfl
  · by_cases e : i = k
    · subst e; rw [← ht, tput_same]; rfl
    · rw [tput_other L t _ (fun e2 => e (keyB_inj (by omega) hk (e2.trans ht)))]
      exact h.there i (by omega)
set_option maxRecDepth 100000 in
set_option maxHeartbeats 8000000 in
theorem law_full (x : Int) (ea : Int → Addr) (w : World) (hE : Errs ea w) : Calls Tryd.prog 8 #[.int .i64 x] w (Makes (.bool true) w) := by
  have f1 : F64 4607182418800017408 := by unfold F64; omega
  have f2 : F64 4611686018427387904 := by unfold F64; omega
  have f3 : F64 4613937818241073152 := by unfold F64; omega
  have f4 : F64 4616189618054758400 := by unfold F64; omega
  have d1 : fdelay 4607182418800017408 = true := by decide +kernel
  have d2 : fdelay 4611686018427387904 = true := by decide +kernel
  have d3 : fdelay 4613937818241073152 = true := by decide +kernel
  have d4 : fdelay 4616189618054758400 = true := by decide +kernel
  have HS := Lib.hid (fun c b L k W hW (hk : k.size ≤ maxLen) hf hl => set_room c b 0 L k _ _ W hW hk hf hl f1 f2 d1 d2)
  have HFu := Lib.hid (fun c b L k W hW (hk : k.size ≤ maxLen) hf hl hE => set_full c b 0 L k _ _ (ea 6) W hW hk hf hl f1 f2 d1 d2 hE)
  have HTh := Lib.hid (fun c b L k t W hW (hk : k.size ≤ maxLen) hf hl => set_there c b 0 L k _ _ t W hW hk hf hl f3 f4 d3 d4)
  have HE := Lib.hid hE
  have HCv := Lib.hid keyB_conv
  clear f1 f2 f3 f4 d1 d2 d3 d4 hE
  go_enter Tryd.func8, Tryd.ntmps8
  go_wp2_with fail
  refine (alive_of _).mono ?_; rintro e w1 ⟨rfl, hb1⟩
  go_wp2_with fail
  refine (new_of _).mono ?_; rintro e w2 ⟨c, b, rfl, hc2, hb2, lc, lb⟩
  have HC2 := Lib.hid hc2
  have hB2 : Below w.heap.size w w2 := below_then hb1 hb2
  have lc : w.heap.size ≤ c := Nat.le_trans hb1.size lc
  have lb : w.heap.size ≤ b := Nat.le_trans hb1.size lb
  clear hc2 hb1 hb2
  go_wp2_with fail
  go_loopw [9] (fun i wr => ∃ (k : Nat) (L : List MTimer), k ≤ 64 ∧ i = .int .i64 k ∧ Hid (All k L) ∧ Hid (ClockAt c b 0 L wr) ∧ Below w.heap.size w wr) (fun i _ => 64 - (intOf i).toNat)
  case atStart => exact ⟨0, [], by omega, rfl, Lib.hid ⟨⟨by simp, by simp⟩, rfl, fun i hi => absurd hi (by omega)⟩, HC2, hB2⟩
  case round =>
    obtain ⟨k, L, hk, rfl, HA, HC, hB⟩ := hrel
    by_cases hlt : k < 64
    · have hcv := HCv.out wr k (by omega)
      have hwr : IntKind.u8.wrap (k : Int) = k := by simp [IntKind.wrap, IntKind.bits, IntKind.signed]; omega
      have hset := HS.out c b L (keyB k) (wr.alloc (.cells #[.int .u8 k] 5)) (HC.out.below ((Below.refl _ _).alloc (Nat.le_refl _) _)) (keyB_size k) (by have := HA.out.keys.none (by omega); rwa [Nat.zero_add] at this) (by rw [HA.out.len]; exact hlt)
      have HSt := Lib.hid hset
      have HA2 := Lib.hid (HA.out.put (by omega) (tnew 0 (keyB k) 4607182418800017408 4611686018427387904) rfl)
      clear hset
      go_wp2_with fail
      refine HSt.out.mono ?_; rintro e w3 ⟨rfl, hc3, ht3⟩
      have HC3 := Lib.hid hc3
      have hB3 : Below w.heap.size w w3 := (hB.alloc hB.size _).trans (ht3.below (by have := hB.size; simp; omega) lc lb)
      clear hc3 ht3 hB hcv
      go_wp2_with fail
      go_roundw
      case rel => exact ⟨k + 1, _, by omega, by go_num, HA2, HC3, hB3⟩
      case measure => simp [intOf]; omega
    · obtain rfl : k = 64 := by omega
      obtain ⟨m, hm, em⟩ : ∃ m : Nat, m < 64 ∧ (IntKind.u64.wrap x).tmod 64 = (m : Int) := by
        have h0 : 0 ≤ IntKind.u64.wrap x := by simp [IntKind.wrap, IntKind.bits, IntKind.signed]; omega
        rw [Int.tmod_eq_emod_of_nonneg h0]
        exact ⟨(IntKind.u64.wrap x % 64).toNat, by omega, by omega⟩
      have e256 : (m : Int) % 256 = m := by omega
      have hcv := HCv.out wr m (by omega)
      obtain ⟨L2, hL2⟩ : ∃ L2, L2 = tput L (tnew 0 (keyB m) 4613937818241073152 4616189618054758400) := ⟨_, rfl⟩
      obtain ⟨t, hft⟩ := Option.isSome_iff_exists.1 (HA.out.there m hm)
      have hfm : tfind L kMore = none := HA.out.keys.more
      have l2 : L2.length = 64 := by rw [hL2, tput_length]; show (if (tfind L (keyB m)).isSome = true then _ else _) = _; rw [HA.out.there m hm, if_pos rfl]; exact HA.out.len
      have fm2 : tfind L2 (keyB m) = some (tnew 0 (keyB m) 4613937818241073152 4616189618054758400) := by rw [hL2]; exact tput_same L (tnew 0 (keyB m) 4613937818241073152 4616189618054758400)
      have fr2 : tfind L2 kMore = none := by rw [hL2, tput_other L _ kMore (fun e => keyB_more m e.symm)]; exact hfm
      have HC1 := HC.out.below (((Below.refl _ wr).alloc (Nat.le_refl _) (.cells #[.int .u8 m] 5)))
      have HL2 := Lib.hid hL2; have Hl2 := Lib.hid l2; have Hf2 := Lib.hid fm2; have Hr2 := Lib.hid fr2; have Hft := Lib.hid hft; have Hfm := Lib.hid hfm; have Hlen := Lib.hid HA.out.len
      have HCa := Lib.hid HC1
      clear hL2 l2 fm2 fr2 hft hfm HC1
      have hBa : Below w.heap.size w (wr.alloc (.cells #[.int .u8 m] 5)) := hB.alloc hB.size _
      go_wp2_with fail
      refine (HFu.out c b L kMore _ HCa.out (by decide) Hfm.out (by rw [Hlen.out]; exact Nat.le_refl _) (HE.out.below hBa).e6).mono ?_; rintro e w3 ⟨rfl, hb3⟩
      have HC3 := Lib.hid (HCa.out.below hb3)
      have hB3 := below_then hBa hb3
      clear hb3 hcv hB hBa
      go_wp2_with fail
      refine (num_some 6 (by decide) ea _ (HE.out.below hB3)).mono ?_; rintro e w4 ⟨rfl, hb4⟩
      have HC4 := Lib.hid (HC3.out.below hb4)
      have hB4 := below_then hB3 hb4
      clear hb4 hB3
      go_wp2_with fail
      refine (HTh.out c b L (keyB m) t _ HC4.out (keyB_size m) Hft.out (by rw [Hlen.out]; decide)).mono ?_; rintro e w5 ⟨rfl, hc5, ht5⟩
      rw [← HL2.out] at hc5
      have HC5 := Lib.hid hc5
      have hB5 := hB4.trans (ht5.below hB4.size lc lb)
      clear hc5 ht5 hB4
      go_wp2_with fail
      refine (drop_of c b 0 L2 (keyB m) _ HC5.out (keyB_size m)).mono ?_; rintro e w6 ⟨rfl, hc6, ht6⟩
      rw [Hf2.out]
      have HL3 := Lib.hid (tdel_length HC5.out.apart (keyB m))
      rw [Hf2.out, Hl2.out] at HL3
      have Hr3 : Hid (tfind (tdel L2 (keyB m)) kMore = none) := Lib.hid ((tdel_other L2 (keyB m) kMore (fun e => keyB_more m e.symm)).trans Hr2.out)
      have HC6 := Lib.hid hc6
      have hB6 := hB5.trans (ht6.below hB5.size lc lb)
      clear hc6 ht6 hB5
      have hl3 : (tdel L2 (keyB m)).length = 63 := by have := HL3.out; simp at this; omega
      have Hl3 := Lib.hid hl3
      clear hl3 HL3
      generalize tdel L2 (keyB m) = L3 at *
      go_wp2_with fail
      refine (HS.out c b L3 kMore _ HC6.out (by decide) Hr3.out (by rw [Hl3.out]; decide)).mono ?_; rintro e w7 ⟨rfl, hc7, ht7⟩
      have HC7 := Lib.hid hc7
      have hB7 := hB6.trans (ht7.below hB6.size lc lb)
      have hl4 : (tput L3 (tnew 0 kMore 4607182418800017408 4611686018427387904)).length = 64 := by
        rw [tput_length]
        show (if (tfind L3 kMore).isSome = true then _ else _) = _
        rw [Hr3.out, Hl3.out]; rfl
      have Hl4 := Lib.hid hl4
      clear hc7 ht7 hB6 hl4
      go_wp2_with fail
      refine (len_at c b 0 _ _ HC7.out).mono ?_; rintro e w8 ⟨rfl, rfl⟩
      rw [Hl4.out]
      go_wp2_with fail
      go_ret
      exact ⟨by first | rfl | exact ret_bool (by simp), hB7⟩
end Go.Proofs.YtkidljiffeonjaaDoor
