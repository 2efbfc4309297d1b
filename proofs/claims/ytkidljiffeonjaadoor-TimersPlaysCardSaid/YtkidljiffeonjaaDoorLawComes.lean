/- liaisonlaw13.TimersComes, walked: it answers true at all floats. -/
import Derived.Test.YtkidljiffeonjaaDoorRows
import Derived.WalkKit
import Derived.WalkSpells
import Derived.WalkLawsBesides
import Derived.BigQuiet
import Derived.Deep.QuietTactic
import Derived.StillTailTactics
import Derived.Handy
import Derived.Lib.Hide
import Derived.Test.YtkidljiffeonjaaDoorTimO
import Derived.Test.YtkidljiffeonjaaDoorFlGe
import Derived.Test.YtkidljiffeonjaaDoorNum
set_option linter.unusedSimpArgs false
set_option linter.unusedVariables false
namespace Go.Proofs.YtkidljiffeonjaaDoor
open Go.RowKit Go.Maps
attribute [local go_sem] store_float

/-- the four errors that clocks answer -/
structure Err4 (ea : Int → Addr) (w : World) : Prop where
  e1 : ErrIs w 1 (ea 1)
  e4 : ErrIs w 0 (ea 4)
  e6 : ErrIs w 5 (ea 6)
  e8 : ErrIs w 7 (ea 8)
theorem Err4.below {ea : Int → Addr} {w w' : World} (h : Err4 ea w) (hb : Below w.heap.size w w') : Err4 ea w' := ⟨h.e1.below hb, h.e4.below hb, h.e6.below hb, h.e8.below hb⟩
abbrev kK : ByteArray := { data := #[107] }
theorem float_facts (a now : Nat) (ha : a ≤ 9218868437227405312) (hn : now ≤ 9218868437227405312) :
    (FloatKind.f64.format.order a a == some .eq) = true ∧ (FloatKind.f64.format.order a now == some .lt || FloatKind.f64.format.order a now == some .eq) = decide (a ≤ now) ∧ (FloatKind.f64.format.order a 0 == some .lt) = false := by
  obtain ⟨f1, n1, k1⟩ := le_parts a ha
  obtain ⟨f2, n2, k2⟩ := le_parts now hn
  obtain ⟨f3, n3, k3⟩ := le_parts 0 (by omega)
  rw [run_feq a a f1 f1, run_fle a now f1 f2, run_flt a 0 f1 f3]
  unfold feq fle flt
  rw [n1, n2, n3, k1, k2, k3]
  simp
theorem FloatRow.below {w w' : World} {v : Value} {xs : List Nat} (h : FloatRow w v xs) (hb : Below w.heap.size w w') : FloatRow w' v xs := by
  obtain ⟨a, cap, rfl, hc⟩ := h
  exact ⟨a, cap, rfl, fun j hj => by
    obtain ⟨g, o, e, hcell⟩ := hc j hj
    exact ⟨g, o, e, (hb.cell (World.block_lt_of_cell? w _ hcell)).trans hcell⟩⟩
theorem tdue_one (now : Nat) (t : MTimer) : tdue now [t] = if t.at_ ≤ now then [t] else [] := by
  unfold tdue
  by_cases h : t.at_ ≤ now <;> simp [h, tins]
theorem fminP_one (t : MTimer) (h : t.at_ ≤ 9218868437227405312) : fminP ([t].map (·.at_)) = t.at_ := by
  unfold fminP
  simp only [List.map_cons, List.map_nil, List.foldl_cons, List.foldl_nil]
  split <;> omega
theorem tput_one (t u : MTimer) (h : u.key = t.key) : tput [t] u = [u] := by
  unfold tput trep tfind
  simp [h.symm]
set_option maxRecDepth 100000 in
set_option maxHeartbeats 4000000 in
theorem comes_bad (v : Value) (xs : List Nat) (x y : Nat) (ea : Int → Addr) (w : World) (fx : F64 x) (fy : F64 y) (hd : (fdelay x && fdelay y) = false) (hv : FloatRow w v xs) (hE : Err4 ea w) :
    Calls Tryd.prog 7 #[flV x, flV y, v] w (Makes (.bool true) w) := by
  have HS : Hid (∀ c W, Err4 ea W → Calls Tryd.prog 32 #[.pointer (some ⟨c, 0, none⟩), .string kK, flV x, flV y] W (Makes (errV (ea 4)) W)) := Lib.hid (fun c W hW => by
    cases dx : fdelay x
    · exact set_bad1 c kK x y (ea 4) W fx fy dx hW.e4
    · rw [dx] at hd
      exact set_bad2 c kK x y (ea 4) W fx fy dx (by simpa using hd) hW.e4)
  have HE := Lib.hid hE
  obtain ⟨a, cap, rfl, _⟩ := hv
  obtain ⟨n, hn⟩ : ∃ n, n = xs.length := ⟨_, rfl⟩
  rw [← hn]
  clear hn hE hd fx fy
  by_cases hlong : 60 < n
  · go_enter Tryd.func7, Tryd.ntmps7
    go_wp2_with fail
    refine (alive_of _).mono ?_; rintro e w1 ⟨rfl, hb1⟩
    go_wp2_with fail
    go_ret
    exact ⟨rfl, hb1⟩
  go_enter Tryd.func7, Tryd.ntmps7
  go_wp2_with fail
  refine (alive_of _).mono ?_; rintro e w1 ⟨rfl, hb1⟩
  go_wp2_with fail
  refine (new_of _).mono ?_; rintro e w2 ⟨c, b, rfl, hc2, hb2, lc, lb⟩
  have HC2 := Lib.hid hc2
  have hB2 : Below w.heap.size w w2 := below_then hb1 hb2
  clear hc2
  go_wp2_with fail
  refine (HS.out c _ (HE.out.below hB2)).mono ?_; rintro e w3 ⟨rfl, hb3⟩
  have HC3 := Lib.hid (HC2.out.below hb3)
  have hB3 : Below w.heap.size w w3 := below_then hB2 hb3
  go_wp2_with fail
  refine (len_at c b 0 [] _ HC3.out).mono ?_; rintro e w4 ⟨rfl, rfl⟩
  go_wp2_with fail
  go_ret
  exact ⟨by first | rfl | trivial | exact ret_bool (by simp), hB3⟩
theorem flt_ge (a r : Nat) (ha : a ≤ 9218868437227405312) (hr : r ≤ 9218868437227405312) (h : a ≤ r) : flt r a = false := by
  rw [flt_le r a hr ha]
  exact decide_eq_false (by omega)
theorem ClockAt.top {c b now : Nat} {L : List MTimer} {w : World} (h : ClockAt c b now L w) : now ≤ 9218868437227405312 := by
  obtain ⟨D, _, h2⟩ := h.ex
  exact h2.top
theorem tdel_one (t : MTimer) : tdel [t] t.key = [] := by unfold tdel; simp
set_option maxRecDepth 100000 in
set_option maxHeartbeats 8000000 in
theorem comes_good (v : Value) (xs : List Nat) (x y : Nat) (ea : Int → Addr) (w : World) (fx : F64 x) (fy : F64 y) (dx : fdelay x = true) (dy : fdelay y = true) (hv : FloatRow w v xs) (hxs : ∀ z ∈ xs, F64 z) (hE : Err4 ea w) :
    Calls Tryd.prog 7 #[flV x, flV y, v] w (Makes (.bool true) w) := by
  have hk : kK.size ≤ maxLen := by decide
  have HS := Lib.hid (fun c b W hW => set_room c b 0 [] kK x y W hW hk rfl (by decide) fx fy dx dy)
  have HE := Lib.hid hE
  have HV := Lib.hid hv
  have HX := Lib.hid hxs
  obtain ⟨a, cap, rfl, _⟩ := hv
  obtain ⟨n, hn⟩ : ∃ n, n = xs.length := ⟨_, rfl⟩
  rw [← hn] at HV ⊢
  have HN := Lib.hid hn
  clear hn hE hxs fx fy dx dy
  by_cases hlong : 60 < n
  · go_enter Tryd.func7, Tryd.ntmps7
    go_wp2_with fail
    refine (alive_of _).mono ?_; rintro e w1 ⟨rfl, hb1⟩
    go_wp2_with fail
    go_ret
    exact ⟨rfl, hb1⟩
  go_enter Tryd.func7, Tryd.ntmps7
  go_wp2_with fail
  refine (alive_of _).mono ?_; rintro e w1 ⟨rfl, hb1⟩
  go_wp2_with fail
  refine (new_of _).mono ?_; rintro e w2 ⟨c, b, rfl, hc2, hb2, lc, lb⟩
  have HC2 := Lib.hid hc2
  have hB2 : Below w.heap.size w w2 := below_then hb1 hb2
  have lc : w.heap.size ≤ c := Nat.le_trans hb1.size lc
  have lb : w.heap.size ≤ b := Nat.le_trans hb1.size lb
  clear hc2
  go_wp2_with fail
  refine (HS.out c b _ HC2.out).mono ?_; rintro e w3 ⟨rfl, hc3, ht3⟩
  have HC3 := Lib.hid hc3
  have hB3 : Below w.heap.size w w3 := hB2.trans (ht3.below hB2.size lc lb)
  clear hc3 ht3 HC2 hb1 hb2 hB2 HS
  go_wp2_with fail
  go_loopw [33] (fun i wr => ∃ (k now : Nat) (t : MTimer), k ≤ n ∧ i = .int .i64 k ∧ Hid (t.key = kK) ∧ Hid (ClockAt c b now [t] wr) ∧ Below w.heap.size w wr) (fun i _ => n - (intOf i).toNat)
  case atStart => exact ⟨0, 0, _, by omega, rfl, Lib.hid rfl, HC3, hB3⟩
  case round =>
    obtain ⟨k, now, t, hk, rfl, HT, HC, hB⟩ := hrel
    have hfind : tfind [t] kK = some t := by unfold tfind; simp [HT.out]
    have HF := Lib.hid hfind
    clear hfind
    by_cases hlt : k < n
    · have hlt' : k < xs.length := by rw [← HN.out]; exact hlt
      obtain ⟨a2, cap2, e2, hc2⟩ := HV.out.below hB
      obtain ⟨g, o, ea2, hcell⟩ := hc2 k hlt'
      simp only [Value.slice.injEq] at e2
      obtain ⟨rfl, -, rfl⟩ := e2
      subst ea2
      have hz := HX.out _ (List.getElem_mem hlt')
      generalize xs[k] = z at hcell hz
      clear hc2
      have hat := (HC.out.good t (by simp)).at_
      have htop := HC.out.top
      obtain ⟨f1, f2, f3⟩ := float_facts t.at_ now hat htop
      have f1' : (FloatKind.f64.format.order t.at_ t.at_ != some .eq) = false := by
        rw [bne, f1]; rfl
      have f4 := run_fge z 0 hz f64_zero
      rw [fle_zero z hz] at f4
      have hAt := fun W hW => at_at c b now [t] kK W hW (by decide)
      rw [HF.out] at hAt
      simp only [Option.getD_some, Option.isSome_some] at hAt
      have hNx := fun W hW => next_of c b now [t] W hW (by simp)
      rw [fminP_one t hat] at hNx
      simp only [List.cons_ne_nil, if_false, decide_false, Bool.not_false] at hNx
      have HAt := Lib.hid hAt; have HNx := Lib.hid hNx
      clear hAt hNx f1
      by_cases hdue : t.at_ ≤ now
      · have hDu := fun W hW => due_at c b now [t] W hW (by simp)
        rw [tdue_one, if_pos hdue] at hDu
        simp only [List.map_cons, List.map_nil] at hDu
        have hAg := fun W hW => again_yes c b now [t] kK t W hW (by show 1 < maxLen; decide) (by decide) HF.out
        rw [tput_one t (tagain now t) rfl] at hAg
        have HDu := Lib.hid hDu; have HAg := Lib.hid hAg
        rw [decide_eq_true hdue] at f2
        clear hDu hAg
        cases hdl : fdelay z
        · rw [hdl] at f4
          go_wp2_with fail
          refine (HAt.out _ HC.out).mono ?_; rintro e w4 ⟨rfl, hb4⟩
          have HC4 := Lib.hid (HC.out.below hb4)
          have hB4 := below_then hB hb4
          clear hB hcell
          go_wp2_with fail
          refine (HNx.out _ HC4.out).mono ?_; rintro e w5 ⟨rfl, hb5⟩
          have HC5 := Lib.hid (HC4.out.below hb5)
          have hB5 := below_then hB4 hb5
          clear hB4
          go_wp2_with fail
          refine (HDu.out _ HC5.out).mono ?_; rintro e w6 ⟨vd, rfl, hd, hb6⟩
          obtain ⟨a6, cap6, rfl⟩ := own_slice hd
          have HC6 := Lib.hid (HC5.out.below hb6)
          have hB6 := below_then hB5 hb6
          clear hB5 hd
          go_wp2_with fail
          refine (now_at c b now [t] _ HC6.out).mono ?_; rintro e w7 ⟨rfl, rfl⟩
          go_wp2_with fail
          refine (HDu.out _ HC6.out).mono ?_; rintro e w8 ⟨vd, rfl, hd, hb8⟩
          obtain ⟨a8, cap8, rfl⟩ := own_slice hd
          have HC8 := Lib.hid (HC6.out.below hb8)
          have hB8 := below_then hB6 hb8
          clear hB6 hd
          go_wp2_with fail
          refine (HAg.out _ HC8.out).mono ?_; rintro e w9 ⟨rfl, hc9, ht9⟩
          have HC9 := Lib.hid hc9
          have hB9 := hB8.trans (ht9.below hB8.size lc lb)
          clear hc9 ht9 hB8
          go_wp2_with fail
          refine (now_at c b now [tagain now t] _ HC9.out).mono ?_; rintro e w10 ⟨rfl, rfl⟩
          go_wp2_with fail
          refine (tick_bad c b now z [tagain now t] (ea 4) _ HC9.out hz hdl (HE.out.below hB9).e4).mono ?_; rintro e w11 ⟨rfl, hb11⟩
          have HC11 := Lib.hid (HC9.out.below hb11)
          have hB11 := below_then hB9 hb11
          clear hb11 hB9
          have f5 := (run_flt now now (le_parts _ htop).1 (le_parts _ htop).1).trans (flt_ge now _ htop htop (Nat.le_refl _))
          go_wp2_with fail
          refine (now_at c b now [tagain now t] _ HC11.out).mono ?_; rintro e w12 ⟨rfl, rfl⟩
          go_wp2_with fail
          go_roundw
          case rel => exact ⟨k + 1, now, tagain now t, by omega, by go_num, Lib.hid (by first | exact HT.out | (show (tagain now t).key = kK; exact HT.out)), HC11, hB11⟩
          case measure => simp [intOf]; omega
        · rw [hdl] at f4
          have hC2 := (fsum_some now (fplain z) htop (plain_le z hdl)).2
          have hge := fsum_ge now (fplain z) htop (plain_le z hdl)
          go_wp2_with fail
          refine (HAt.out _ HC.out).mono ?_; rintro e w4 ⟨rfl, hb4⟩
          have HC4 := Lib.hid (HC.out.below hb4)
          have hB4 := below_then hB hb4
          clear hB hcell
          go_wp2_with fail
          refine (HNx.out _ HC4.out).mono ?_; rintro e w5 ⟨rfl, hb5⟩
          have HC5 := Lib.hid (HC4.out.below hb5)
          have hB5 := below_then hB4 hb5
          clear hB4
          go_wp2_with fail
          refine (HDu.out _ HC5.out).mono ?_; rintro e w6 ⟨vd, rfl, hd, hb6⟩
          obtain ⟨a6, cap6, rfl⟩ := own_slice hd
          have HC6 := Lib.hid (HC5.out.below hb6)
          have hB6 := below_then hB5 hb6
          clear hB5 hd
          go_wp2_with fail
          refine (now_at c b now [t] _ HC6.out).mono ?_; rintro e w7 ⟨rfl, rfl⟩
          go_wp2_with fail
          refine (HDu.out _ HC6.out).mono ?_; rintro e w8 ⟨vd, rfl, hd, hb8⟩
          obtain ⟨a8, cap8, rfl⟩ := own_slice hd
          have HC8 := Lib.hid (HC6.out.below hb8)
          have hB8 := below_then hB6 hb8
          clear hB6 hd
          go_wp2_with fail
          refine (HAg.out _ HC8.out).mono ?_; rintro e w9 ⟨rfl, hc9, ht9⟩
          have HC9 := Lib.hid hc9
          have hB9 := hB8.trans (ht9.below hB8.size lc lb)
          clear hc9 ht9 hB8
          go_wp2_with fail
          refine (now_at c b now [tagain now t] _ HC9.out).mono ?_; rintro e w10 ⟨rfl, rfl⟩
          go_wp2_with fail
          refine (tick_at c b now z [tagain now t] _ HC9.out hz hdl).mono ?_; rintro e w11 ⟨rfl, hc11, ht11⟩
          have HC11 := Lib.hid hc11
          have hB11 := hB9.trans (ht11.below hB9.size lc lb)
          clear hc11 ht11 hB9
          have f5 := (run_flt (fsum now (fplain z)) now (le_parts _ hC2).1 (le_parts _ htop).1).trans (flt_ge now _ htop hC2 hge)
          generalize fsum now (fplain z) = now2 at *
          go_wp2_with fail
          refine (now_at c b now2 [tagain now t] _ HC11.out).mono ?_; rintro e w12 ⟨rfl, rfl⟩
          go_wp2_with fail
          go_roundw
          case rel => exact ⟨k + 1, now2, tagain now t, by omega, by go_num, Lib.hid (by first | exact HT.out | (show (tagain now t).key = kK; exact HT.out)), HC11, hB11⟩
          case measure => simp [intOf]; omega
      · have hDu := fun W hW => due_at c b now [t] W hW (by simp)
        rw [tdue_one, if_neg hdue] at hDu
        simp only [List.map_nil] at hDu
        have HDu := Lib.hid hDu
        rw [decide_eq_false hdue] at f2
        clear hDu
        cases hdl : fdelay z
        · rw [hdl] at f4
          go_wp2_with fail
          refine (HAt.out _ HC.out).mono ?_; rintro e w4 ⟨rfl, hb4⟩
          have HC4 := Lib.hid (HC.out.below hb4)
          have hB4 := below_then hB hb4
          clear hB hcell
          go_wp2_with fail
          refine (HNx.out _ HC4.out).mono ?_; rintro e w5 ⟨rfl, hb5⟩
          have HC5 := Lib.hid (HC4.out.below hb5)
          have hB5 := below_then hB4 hb5
          clear hB4
          go_wp2_with fail
          refine (HDu.out _ HC5.out).mono ?_; rintro e w6 ⟨vd, rfl, hd, hb6⟩
          obtain ⟨a6, cap6, rfl⟩ := own_slice hd
          have HC6 := Lib.hid (HC5.out.below hb6)
          have hB6 := below_then hB5 hb6
          clear hB5 hd
          go_wp2_with fail
          refine (now_at c b now [t] _ HC6.out).mono ?_; rintro e w7 ⟨rfl, rfl⟩
          go_wp2_with fail
          refine (HDu.out _ HC6.out).mono ?_; rintro e w8 ⟨vd, rfl, hd, hb8⟩
          obtain ⟨a8, cap8, rfl⟩ := own_slice hd
          have HC8 := Lib.hid (HC6.out.below hb8)
          have hB8 := below_then hB6 hb8
          clear hB6 hd
          go_wp2_with fail
          refine (now_at c b now [t] _ HC8.out).mono ?_; rintro e w10 ⟨rfl, rfl⟩
          go_wp2_with fail
          refine (tick_bad c b now z [t] (ea 4) _ HC8.out hz hdl (HE.out.below hB8).e4).mono ?_; rintro e w11 ⟨rfl, hb11⟩
          have HC11 := Lib.hid (HC8.out.below hb11)
          have hB11 := below_then hB8 hb11
          clear hb11 hB8
          have f5 := (run_flt now now (le_parts _ htop).1 (le_parts _ htop).1).trans (flt_ge now _ htop htop (Nat.le_refl _))
          go_wp2_with fail
          refine (now_at c b now [t] _ HC11.out).mono ?_; rintro e w12 ⟨rfl, rfl⟩
          go_wp2_with fail
          go_roundw
          case rel => exact ⟨k + 1, now, t, by omega, by go_num, Lib.hid (by first | exact HT.out | (show (tagain now t).key = kK; exact HT.out)), HC11, hB11⟩
          case measure => simp [intOf]; omega
        · rw [hdl] at f4
          have hC2 := (fsum_some now (fplain z) htop (plain_le z hdl)).2
          have hge := fsum_ge now (fplain z) htop (plain_le z hdl)
          go_wp2_with fail
          refine (HAt.out _ HC.out).mono ?_; rintro e w4 ⟨rfl, hb4⟩
          have HC4 := Lib.hid (HC.out.below hb4)
          have hB4 := below_then hB hb4
          clear hB hcell
          go_wp2_with fail
          refine (HNx.out _ HC4.out).mono ?_; rintro e w5 ⟨rfl, hb5⟩
          have HC5 := Lib.hid (HC4.out.below hb5)
          have hB5 := below_then hB4 hb5
          clear hB4
          go_wp2_with fail
          refine (HDu.out _ HC5.out).mono ?_; rintro e w6 ⟨vd, rfl, hd, hb6⟩
          obtain ⟨a6, cap6, rfl⟩ := own_slice hd
          have HC6 := Lib.hid (HC5.out.below hb6)
          have hB6 := below_then hB5 hb6
          clear hB5 hd
          go_wp2_with fail
          refine (now_at c b now [t] _ HC6.out).mono ?_; rintro e w7 ⟨rfl, rfl⟩
          go_wp2_with fail
          refine (HDu.out _ HC6.out).mono ?_; rintro e w8 ⟨vd, rfl, hd, hb8⟩
          obtain ⟨a8, cap8, rfl⟩ := own_slice hd
          have HC8 := Lib.hid (HC6.out.below hb8)
          have hB8 := below_then hB6 hb8
          clear hB6 hd
          go_wp2_with fail
          refine (now_at c b now [t] _ HC8.out).mono ?_; rintro e w10 ⟨rfl, rfl⟩
          go_wp2_with fail
          refine (tick_at c b now z [t] _ HC8.out hz hdl).mono ?_; rintro e w11 ⟨rfl, hc11, ht11⟩
          have HC11 := Lib.hid hc11
          have hB11 := hB8.trans (ht11.below hB8.size lc lb)
          clear hc11 ht11 hB8
          have f5 := (run_flt (fsum now (fplain z)) now (le_parts _ hC2).1 (le_parts _ htop).1).trans (flt_ge now _ htop hC2 hge)
          generalize fsum now (fplain z) = now2 at *
          go_wp2_with fail
          refine (now_at c b now2 [t] _ HC11.out).mono ?_; rintro e w12 ⟨rfl, rfl⟩
          go_wp2_with fail
          go_roundw
          case rel => exact ⟨k + 1, now2, t, by omega, by go_num, Lib.hid (by first | exact HT.out | (show (tagain now t).key = kK; exact HT.out)), HC11, hB11⟩
          case measure => simp [intOf]; omega
    · obtain rfl : k = n := by omega
      have hDr := fun W hW => drop_of c b now [t] kK W hW (by decide)
      have edel : tdel [t] kK = [] := by rw [← HT.out]; exact tdel_one t
      rw [HF.out, edel] at hDr
      simp only [Option.isSome_some] at hDr
      have HDr := Lib.hid hDr
      have HT2 := Lib.hid HT.out.symm
      clear hDr
      go_wp2_with fail

      refine (HDr.out _ HC.out).mono ?_; rintro e w4 ⟨rfl, hc4, ht4⟩
      have HC4 := Lib.hid hc4
      have hB4 := hB.trans (ht4.below hB.size lc lb)
      clear hc4 ht4 hB
      go_wp2_with fail
      refine (due_at c b now [] _ HC4.out (by decide)).mono ?_; rintro e w6 ⟨vd, rfl, hd, hb6⟩
      obtain ⟨a6, cap6, rfl⟩ := own_slice hd
      have HC6 := Lib.hid (HC4.out.below hb6)
      have hB6 := below_then hB4 hb6
      have e0 : ((tdue now []).map (·.key)).length = 0 := rfl
      rw [e0]
      clear hB4 hd
      go_wp2_with fail
      refine (len_at c b now [] _ HC6.out).mono ?_; rintro e w7 ⟨rfl, rfl⟩
      go_wp2_with fail
      go_ret
      exact ⟨by first | rfl | exact ret_bool (by simp), hB6⟩
end Go.Proofs.YtkidljiffeonjaaDoor
