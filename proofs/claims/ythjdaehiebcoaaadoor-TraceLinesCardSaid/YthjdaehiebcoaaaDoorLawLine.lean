/- The law on lines, walked: TraceLines; an event by value, opened. -/
import Derived.Test.YthjdaehiebcoaaaDoorRows
import Derived.WalkKit
import Derived.WalkSpells
import Derived.WalkLawsBesides
import Derived.BigQuiet
import Derived.Deep.QuietTactic
import Derived.StillTailTactics
import Derived.Handy
import Derived.Lib.Hide
import Derived.Test.YthjdaehiebcoaaaDoorLineA
import Derived.Lib.SmallJoins
set_option linter.unusedSimpArgs false
set_option linter.unusedVariables false
namespace Go.Proofs.YthjdaehiebcoaaaDoor
open Go.Joins Go.ChangeShapes Go.WideShapes Go.RowKit Go.Deep

section
variable {H : Type} {enc : TypeId × Value → H} {P : Program} {w : World} {base : Nat} {spare : Nat → Bool} {held : Bool}
theorem open_agg5 {r : Reach} {b0 : Nat} {t : TypeId} {f0 f1 f2 f3 f4 : Field} {v : Value} {d : DataW H} {p : List MemPlace} (hs : P.underlying t = some (.struct #[f0, f1, f2, f3, f4])) (hone : oneCellFields P #[f0, f1, f2, f3, f4] = true) (hC : P.cellsOf t = 5)
    (hv : Value.okWide P w r b0 t v) (h : DataW.Trod enc P w base spare held t v d p) :
    ∃ (v0 v1 v2 v3 v4 : Value) (y0 y1 y2 y3 y4 : DataW H × List MemPlace) (n : Nat), v = .agg #[v0, v1, v2, v3, v4] ∧ d = .agg [y0.1, y1.1, y2.1, y3.1, y4.1] ∧ p = y0.2 ++ (y1.2 ++ (y2.2 ++ (y3.2 ++ y4.2))) ∧
      DataW.trod enc P w base spare held n f0.type [v0] = some y0 ∧ DataW.trod enc P w base spare held n f1.type [v1] = some y1 ∧ DataW.trod enc P w base spare held n f2.type [v2] = some y2 ∧ DataW.trod enc P w base spare held n f3.type [v3] = some y3 ∧ DataW.trod enc P w base spare held n f4.type [v4] = some y4 := by
  obtain ⟨cs, rfl, hsz⟩ := okWide_struct hs hv
  obtain ⟨l⟩ := cs
  match l, hsz.trans hC with
  | [c0, c1, c2, c3, c4], _ =>
    obtain ⟨fuel, hf⟩ := h
    obtain ⟨xs, n, _, hx, _, hlen, hg⟩ := DataW.trod_struct hs hf
    obtain ⟨o0, k0⟩ := hone_of hone 0 f0 rfl
    obtain ⟨o1, k1⟩ := hone_of hone 1 f1 rfl
    obtain ⟨o2, k2⟩ := hone_of hone 2 f2 rfl
    obtain ⟨o3, k3⟩ := hone_of hone 3 f3 rfl
    obtain ⟨o4, k4⟩ := hone_of hone 4 f4 rfl
    match xs, hlen with
    | [y0, y1, y2, y3, y4], _ =>
      simp only [Prod.mk.injEq] at hx
      exact ⟨c0, c1, c2, c3, c4, y0, y1, y2, y3, y4, n, rfl, by simpa using hx.1, by simpa using hx.2, by simpa [Value.cells, o0, k0] using hg 0 f0 rfl, by simpa [Value.cells, o1, k1] using hg 1 f1 rfl, by simpa [Value.cells, o2, k2] using hg 2 f2 rfl, by simpa [Value.cells, o3, k3] using hg 3 f3 rfl, by simpa [Value.cells, o4, k4] using hg 4 f4 rfl⟩
end
set_option maxHeartbeats 1000000 in
theorem law_lines (step node : Int) (what first second : Str) (ea : Int → Addr) (w : World) (h : Env ea w) :
    Calls Tryd.prog 3 #[evV ⟨step, what, node, first, second⟩] w (Makes (.bool true) w) := by
  have HA := Lib.hid (fun W hW => alive27 ea W hW)
  have HE := Lib.hid h
  obtain ⟨n1, hn1⟩ : ∃ n : Nat, (bs what).size = n := ⟨_, rfl⟩
  obtain ⟨n2, hn2⟩ : ∃ n : Nat, (bs first).size = n := ⟨_, rfl⟩
  obtain ⟨n3, hn3⟩ : ∃ n : Nat, (bs second).size = n := ⟨_, rfl⟩
  have hl1 : n1 = what.length := by rw [← hn1, bs_size]
  have hl2 : n2 = first.length := by rw [← hn2, bs_size]
  have hl3 : n3 = second.length := by rw [← hn3, bs_size]
  dsimp only [evV, evC]
  have HK0 := Lib.hid (Blk.fresh w (evC ⟨step, what, node, first, second⟩) 23 _ rfl)
  have HB0 := Lib.hid ((Below.refl w.heap.size w).alloc (Nat.le_refl _) (.cells (evC ⟨step, what, node, first, second⟩) 23))
  have HE0 := Lib.hid (HE.out.below HB0.out)
  dsimp only [evC] at HK0 HB0 HE0
  clear h
  by_cases hs : n1 ≤ 100 ∧ n2 ≤ 400 ∧ n3 ≤ 400
  · obtain ⟨s1, s2, s3⟩ := hs
    have hsz : evSizes ⟨step, what, node, first, second⟩ := ⟨by dsimp only; omega, by dsimp only; omega, by dsimp only; omega⟩
    have HL := Lib.hid (fun W hW => line_of ⟨step, what, node, first, second⟩ hsz ea W hW)
    have HR := Lib.hid (fun W => rline_of ⟨step, what, node, first, second⟩ hsz W)
    have hn := line_num ⟨step, what, node, first, second⟩
    have hline := fun h0 => parse_line ⟨step, what, node, first, second⟩ h0
    have hlen : tLineN ⟨step, what, node, first, second⟩ = 0 → (tLineOf ⟨step, what, node, first, second⟩).length ≤ 100000 := by
      intro h0
      have hr : 0 ≤ step ∧ step ≤ 999999 ∧ -1 ≤ node ∧ node ≤ 3 := by
        unfold tLineN at h0
        split at h0
        · split at h0
          · assumption
          · cases h0
        · cases h0
      have q1 := dec_len 5 step.toNat (by omega)
      have q2 : (tPlace node).length ≤ 7 := by
        unfold tPlace
        split
        · simp
        · have := dec_len 5 node.toNat (by omega)
          simp only [List.length_cons]; omega
      have q3 : ∀ x : Str, (tShown x).length ≤ x.length + 1 := fun x => by unfold tShown; split <;> simp_all
      have q4 := q3 first; have q5 := q3 second
      unfold tLineOf
      simp only [List.length_append, List.length_cons]
      omega
    have hN := fun W (hW : Errs ea W) => num27 (tLineN ⟨step, what, node, first, second⟩) (by omega) ea W hW
    dsimp only [evV, evC] at HL HR
    unfold tLine at HL HR
    obtain ⟨n, hnn⟩ : ∃ n, n = tLineN ⟨step, what, node, first, second⟩ := ⟨_, rfl⟩
    obtain ⟨L, hL⟩ : ∃ L, L = tLineOf ⟨step, what, node, first, second⟩ := ⟨_, rfl⟩
    rw [← hnn, ← hL] at HL HR
    rw [← hnn] at hN hline hlen
    rw [← hL] at hlen hline
    clear hn hL hnn hsz hl1 hl2 hl3
    by_cases h0 : n = 0
    · subst h0
      have hP := fun W hW => parse_of L (hlen rfl) ea W hW
      rw [hline rfl] at hP
      have HP := Lib.hid hP
      have HN := Lib.hid hN
      have heq := fun W => evEq _ rfl step node step node what first second what first second W
      rw [decide_eq_true rfl] at heq
      rw [if_pos rfl, show errOf ea 0 = .nilIface from rfl] at HL
      rw [if_pos rfl] at HR
      rw [show errOf ea 0 = .nilIface from rfl] at HN
      dsimp only [Said.get, Said.num, evV, evC] at HP
      rw [show errOf ea 0 = .nilIface from rfl] at HP
      clear hP hN hline hlen
      go_enter Tryd.func3, Tryd.ntmps3
      go_wp2_with fail
      refine (HA.out _ HE0.out).mono ?_
      rintro e w1 ⟨rfl, hb1⟩
      have HK1 := Lib.hid (HK0.out.below hb1); have HB1 := Lib.hid (below_then HB0.out hb1); have HE1 := Lib.hid (HE.out.below HB1.out)
      obtain ⟨q, f⟩ := HK1.out.out
      go_wp2_with fail
      refine (HL.out _ HE1.out).mono ?_
      rintro e w2 ⟨rfl, hb2⟩
      have HK2 := Lib.hid (HK1.out.below hb2); have HB2 := Lib.hid (below_then HB1.out hb2); have HE2 := Lib.hid (HE.out.below HB2.out)
      clear q f
      obtain ⟨q, f⟩ := HK2.out.out
      go_wp2_with fail
      refine (HR.out _).mono ?_
      rintro e w3 ⟨rfl, hb3⟩
      have HK3 := Lib.hid (HK2.out.below hb3); have HB3 := Lib.hid (below_then HB2.out hb3); have HE3 := Lib.hid (HE.out.below HB3.out)
      clear q f
      obtain ⟨q, f⟩ := HK3.out.out
      go_wp2_with fail
      refine (HN.out _ HE3.out.e).mono ?_
      rintro e w4 ⟨rfl, hb4⟩
      have HK4 := Lib.hid (HK3.out.below hb4); have HB4 := Lib.hid (below_then HB3.out hb4); have HE4 := Lib.hid (HE.out.below HB4.out)
      clear q f
      obtain ⟨q, f⟩ := HK4.out.out
      go_wp2_with fail
      refine (HP.out _ HE4.out).mono ?_
      rintro e w5 ⟨rfl, hb5⟩
      have HK5 := Lib.hid (HK4.out.below hb5); have HB5 := Lib.hid (below_then HB4.out hb5)
      clear q f
      obtain ⟨q, f⟩ := (HK5.out.alloc (.cells #[.int .i64 step, .string (bs what), .int .i64 node, .string (bs first), .string (bs second)] 23)).out
      go_wp2_with fail
      go_ret
      exact ⟨rfl, HB5.out.alloc HB5.out.size _⟩
    · rw [if_neg h0] at HL HR
      have HN := Lib.hid hN
      have hne : (n == 0) = false := by simpa using h0
      have hne2 : (n != 0) = true := by simpa using h0
      clear hN hline hlen
      clear h0
      go_enter Tryd.func3, Tryd.ntmps3
      go_wp2_with fail
      refine (HA.out _ HE0.out).mono ?_
      rintro e w1 ⟨rfl, hb1⟩
      have HK1 := Lib.hid (HK0.out.below hb1); have HB1 := Lib.hid (below_then HB0.out hb1); have HE1 := Lib.hid (HE.out.below HB1.out)
      obtain ⟨q, f⟩ := HK1.out.out
      go_wp2_with fail
      refine (HL.out _ HE1.out).mono ?_
      rintro e w2 ⟨rfl, hb2⟩
      have HK2 := Lib.hid (HK1.out.below hb2); have HB2 := Lib.hid (below_then HB1.out hb2); have HE2 := Lib.hid (HE.out.below HB2.out)
      clear q f
      obtain ⟨q, f⟩ := HK2.out.out
      go_wp2_with fail
      refine (HR.out _).mono ?_
      rintro e w3 ⟨rfl, hb3⟩
      have HK3 := Lib.hid (HK2.out.below hb3); have HB3 := Lib.hid (below_then HB2.out hb3); have HE3 := Lib.hid (HE.out.below HB3.out)
      clear q f
      obtain ⟨q, f⟩ := HK3.out.out
      go_wp2_with fail
      refine (HN.out _ HE3.out.e).mono ?_
      rintro e w4 ⟨rfl, hb4⟩
      have HB4 := Lib.hid (below_then HB3.out hb4)
      clear q f
      go_wp2_with fail
      go_ret
      exact ⟨rfl, HB4.out⟩
  · have hc : 100 < n1 ∨ (n1 ≤ 100 ∧ 400 < n2) ∨ (n1 ≤ 100 ∧ n2 ≤ 400 ∧ 400 < n3) := by omega
    clear hs hl1 hl2 hl3
    go_enter Tryd.func3, Tryd.ntmps3
    go_wp2_with fail
    refine (HA.out _ HE0.out).mono ?_
    rintro e w1 ⟨rfl, hb1⟩
    have HK1 := Lib.hid (HK0.out.below hb1); have HB1 := Lib.hid (below_then HB0.out hb1)
    obtain ⟨q, f⟩ := HK1.out.out
    rcases hc with c1 | ⟨c1, c2⟩ | ⟨c1, c2, c3⟩
    all_goals
      go_wp2_with fail
      go_ret
      exact ⟨rfl, HB1.out⟩
end Go.Proofs.YthjdaehiebcoaaaDoor
