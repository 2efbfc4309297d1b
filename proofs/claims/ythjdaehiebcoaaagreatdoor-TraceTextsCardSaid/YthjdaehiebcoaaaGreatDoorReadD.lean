/- The walk of liaisonref27.Read. -/
import Derived.Test.YthjdaehiebcoaaaGreatDoorRows
import Derived.WalkKit
import Derived.WalkSpells
import Derived.WalkLawsBesides
import Derived.BigQuiet
import Derived.Deep.QuietTactic
import Derived.StillTailTactics
import Derived.Handy
import Derived.Lib.Hide
import Derived.Test.YthjdaehiebcoaaaGreatDoorRefU
import Derived.Test.YthjdaehiebcoaaaGreatDoorLinP
import Derived.Test.YthjdaehiebcoaaaGreatDoorReadA
import Derived.Test.YthjdaehiebcoaaaGreatDoorLines
set_option linter.unusedSimpArgs false
set_option linter.unusedVariables false
namespace Go.Proofs.YthjdaehiebcoaaaGreatDoor
open Go.RowKit

theorem infoEr : (Tryz.prog.info? 29).map (fun i => (i.zero, i.size, i.bytes)) = some (some (.agg #[.int .i64 0, .string ⟨#[]⟩, .int .i64 0, .string ⟨#[]⟩, .string ⟨#[]⟩]), 5, 64) := by kernel_rfl
/-- the document's events in a slice of the call's own -/
def OwnU (B : Nat) (v : Value) (es : List Ev) (w : World) : Prop := w.ownsRow B 29 5 v es.length (evRow es)
theorem OwnU.heap {B : Nat} {v : Value} {es : List Ev} {w w' : World} (h : OwnU B v es w) (he : ∀ k, v.ownBlock = some k → w'.heap[k]? = w.heap[k]?) : OwnU B v es w' := by
  refine ⟨h.1, ?_⟩
  rcases h.2 with hn | ⟨g, cap, cur, rfl, hb, hc, r⟩
  · exact .inl hn
  · exact .inr ⟨g, cap, cur, rfl, hb, (he g rfl).trans hc, r⟩
theorem OwnU.lt {B : Nat} {v : Value} {es : List Ev} {w : World} (h : OwnU B v es w) : ∀ k, v.ownBlock = some k → B ≤ k ∧ k < w.heap.size := World.ownsRow.lt h
theorem OwnU.below {B : Nat} {v : Value} {es : List Ev} {w w' : World} (h : OwnU B v es w) (hb : Below w.heap.size w w') : OwnU B v es w' := h.heap fun k hk => hb.block k (h.lt k hk).2
theorem OwnU.slice {B : Nat} {v : Value} {es : List Ev} {w : World} (h : OwnU B v es w) : ∃ a cap, v = .slice a es.length cap := row_slice h
def ReadU (r : Saids) (w : World) (e : Ending) (w' : World) : Prop := match r with
  | .evs es => ∃ v, e = .returned (.tuple #[v, .int .i64 0]) ∧ OwnU w.heap.size v es w' ∧ Below w.heap.size w w'
  | .no n => Makes (.tuple #[.slice none 0 0, .int .i64 n]) w e w'
/-- what stands ahead of a place, in lines -/
def CutL (s : Str) (es : List Ev) (f j : Nat) : Prop := ∃ xs : List Str, tLines s = xs ++ tLines (s.drop f) ∧ xs.map tParse = es.map Said.ev ∧ (∀ x ∈ (s.drop f).take (j - f), x ≠ 10) ∧ es.length ≤ f
theorem cutl_on {s : Str} {es : List Ev} {f j : Nat} (h : CutL s es f j) (hf : f ≤ j) (hj : j < s.length) (hx : s[j] ≠ 10) : CutL s es f (j + 1) := by
  obtain ⟨xs, h1, h2, h3, h4⟩ := h
  refine ⟨xs, h1, h2, fun x hm => ?_, h4⟩
  rw [show j + 1 - f = (j - f) + 1 by omega, List.take_succ_eq_append_getElem (by simp; omega)] at hm
  rcases List.mem_append.1 hm with hm | hm
  · exact h3 x hm
  · simp only [List.mem_singleton, List.getElem_drop] at hm
    rw [hm]
    simpa [show f + (j - f) = j by omega] using hx
theorem cutl_line {s : Str} {es : List Ev} {f j : Nat} (h : CutL s es f j) (hf : f ≤ j) (hj : j < s.length) (hx : s[j] = 10) : ∃ xs : List Str, tLines s = xs ++ (s.drop f).take (j - f) :: tLines (s.drop (j + 1)) ∧ xs.map tParse = es.map Said.ev ∧ es.length ≤ f := by
  obtain ⟨xs, h1, h2, h3, h4⟩ := h
  refine ⟨xs, ?_, h2, h4⟩
  have e : s.drop f = (s.drop f).take (j - f) ++ 10 :: s.drop (j + 1) := by
    conv => lhs; rw [← List.take_append_drop (j - f) (s.drop f)]
    rw [List.drop_drop, show f + (j - f) = j by omega, List.drop_eq_getElem_cons hj, hx]
  rw [h1]
  congr 1
  conv => lhs; rw [e]
  rw [lines_cut _ _ h3]
theorem cutl_at {s : Str} {es : List Ev} {e : Ev} {f j : Nat} (h : CutL s es f j) (hf : f ≤ j) (hj : j < s.length) (hx : s[j] = 10) (he : tParse ((s.drop f).take (j - f)) = .ev e) : CutL s (es ++ [e]) (j + 1) (j + 1) := by
  obtain ⟨xs, h1, h2, h4⟩ := cutl_line h hf hj hx
  refine ⟨xs ++ [(s.drop f).take (j - f)], by rw [h1]; simp, by rw [List.map_append, h2, List.map_append, List.map_singleton, he, List.map_singleton], fun x hm => by simp at hm, ?_⟩
  rw [List.length_append, List.length_singleton]
  omega
theorem cutl_no {s : Str} {es : List Ev} {n : Int} {f j : Nat} (h : CutL s es f j) (hf : f ≤ j) (hj : j < s.length) (hx : s[j] = 10) (he : tParse ((s.drop f).take (j - f)) = .no n) : tReads (tLines s) = .no n := by
  obtain ⟨xs, h1, h2, _⟩ := cutl_line h hf hj hx
  rw [h1]
  exact reads_no xs es _ _ n h2 he
theorem cutl_end {s : Str} {es : List Ev} {f : Nat} (h : CutL s es f s.length) (hf : f ≤ s.length) (hs : s = [] ∨ s.getLast? = some 10) : tReads (tLines s) = .evs es := by
  obtain ⟨xs, h1, h2, h3, _⟩ := h
  have hd : s.drop f = [] := by
    rcases hs with hs | hs
    · subst hs; simp
    · rcases Nat.lt_or_ge f s.length with hlt | hge
      · exfalso
        have hm : (10 : UInt8) ∈ (s.drop f).take (s.length - f) := by
          rw [List.take_of_length_le (by simp)]
          have hl : (s.drop f).getLast? = some 10 := by rw [List.getLast?_drop, if_neg (by omega)]; exact hs
          exact List.mem_of_getLast? hl
        exact h3 10 hm rfl
      · exact List.drop_eq_nil_of_le hge
  rw [h1, hd]
  exact reads_all _ es (by simpa [tLines] using h2)
theorem cells_at {w : World} {E : Nat} {C : Array Value} {l : List Value} {T : TypeId} (hE : E = w.heap.size) (hl : l = C.toList) : ∀ (j : Nat) (u : Value), l[j]? = some u → (w.alloc (.cells C T)).cell? ((⟨E, 0, none⟩ : Addr).add j) = some u := by
  subst hE
  intro j u hj
  simp only [Addr.add_lit, Nat.zero_add]
  rw [World.cell?_alloc_new, ← hj, hl, Array.getElem?_toList]
set_option maxRecDepth 100000 in
set_option maxHeartbeats 4000000 in
theorem rread27_go (s : Str) (hs : s.length ≤ 100000) (hl : s = [] ∨ s ≠ [] ∧ s.getLast? = some 10) (w : World) : Calls Tryz.prog 10 #[.string (bs s)] w (ReadU (tReads (tLines s)) w) := by
  obtain ⟨n, hn⟩ : ∃ n : Nat, n = s.length := ⟨_, rfl⟩
  have hsz : (bs s).size = n := by rw [bs_size, hn]
  have hn1 : n ≤ 100000 := by omega
  have HN := Lib.hid hn
  have HLS : Hid (s = [] ∨ s.getLast? = some 10) := Lib.hid (hl.imp id (·.2))
  obtain ⟨i0, ei, ez, es0, eb⟩ := info_parts infoEr
  have hfirst : ((bs s).toList = [] ∧ n = 0) ∨ (((bs s).toList == []) = false ∧ 0 < n ∧ ∃ h : n - 1 < (bs s).size, ((((bs s)[n - 1]'h).toNat : Int) != 10) = false) := by
    rcases hl with h0 | ⟨h0, hl⟩
    · left; rw [bs_toList, h0]; exact ⟨rfl, by rw [hn, h0]; rfl⟩
    · right
      have hpos : 0 < n := by
        rcases Nat.eq_zero_or_pos n with h | h
        · exact absurd (List.eq_nil_of_length_eq_zero (by omega)) h0
        · exact h
      refine ⟨by rw [bs_toList]; simpa using h0, hpos, by omega, ?_⟩
      rw [bs_get]
      rw [List.getLast?_eq_getElem?] at hl
      rw [List.getD, hn, hl]; rfl
  clear hn hs hl
  go_enter Tryz.func10, Tryz.ntmps10
  rcases hfirst with ⟨e0, n0⟩ | ⟨e0, n0, hx, e1⟩
  · have HN0 := Lib.hid n0
    clear n0
    go_wp2_with fail
    clear e0
    go_loopw [4, 5, 6] (fun v a i wr => ∃ f j : Nat, ∃ es : List Ev, f ≤ j ∧ j ≤ n ∧ a = .int .i64 f ∧ i = .int .i64 j ∧ OwnU w.heap.size v es wr ∧ Below w.heap.size w wr ∧ Hid (CutL s es f j)) (fun _ _ i _ => n - (intOf i).toNat)
    case atStart =>
      refine ⟨0, 0, [], Nat.le_refl _, Nat.zero_le _, rfl, rfl, ?_, by go_grown, Lib.hid ⟨[], rfl, rfl, fun x hx => by simp at hx, Nat.zero_le _⟩⟩
      exact World.ownsRow_lit w #[] 0 (Nat.le_refl _) (by decide) rfl
    case round =>
      obtain ⟨f, j, es, hf, hj, rfl, rfl, hown, hB, HC⟩ := hrel
      obtain ⟨av, cv, rfl⟩ := hown.slice
      have HU := Lib.hid hown; have HB := Lib.hid hB
      have hel : es.length ≤ f := by obtain ⟨_, _, _, _, h⟩ := HC.out; exact h
      clear hown hB
      by_cases hjn : j < n
      · have hjs : j < (bs s).size := by omega
        have hjl : j < s.length := by rw [← HN.out]; exact hjn
        have hj0 : (0 : Int) ≤ (j : Int) := by omega
        have hj1 : (j : Int) < (n : Int) := by omega
        by_cases hb : s[j] = 10
        · have hx : ((((bs s)[j]'hjs).toNat : Int) == 10) = true := by
            rw [show (bs s)[j]'hjs = s[j] from rfl, hb]; rfl
          have hext := ext_bs s f j
          have hfi : (f : Int) ≤ (j : Int) := by omega
          have hf0 : (0 : Int) ≤ (f : Int) := by omega
          obtain ⟨y, hy⟩ : ∃ y, y = (s.drop f).take (j - f) := ⟨_, rfl⟩
          have hyl : y.length ≤ 100000 := by
            rw [hy, List.length_take, List.length_drop]; omega
          have HPR := Lib.hid (fun W => rparse_of y hyl W)
          rw [← hy] at hext
          cases hpar : tParse y with
          | no k =>
            rw [hpar] at HPR
            have hk := no_num hpar
            have hk0 : (k == 0) = false := by simpa using hk
            have hk1 : (k != 0) = true := by simpa using hk
            have HR := Lib.hid (cutl_no HC.out hf hjl hb (by rw [← hy]; exact hpar))
            dsimp only [Said.get, Said.num, evV, evC, ev0] at HPR
            clear hb hy hpar hk
            go_wp2_with fail
            refine (HPR.out _).mono ?_
            rintro e w1 ⟨rfl, hb1⟩
            have HB := Lib.hid (below_then HB.out hb1)
            go_wp2_with fail
            go_ret2
            rw [HR.out]
            exact ⟨rfl, HB.out.alloc HB.out.size _⟩
          | ev e =>
            rw [hpar] at HPR
            have HC2 := Lib.hid (cutl_at HC.out hf hjl hb (by rw [← hy]; exact hpar))
            obtain ⟨step, what, node, first, second⟩ := e
            dsimp only [Said.get, Said.num, evV, evC] at HPR
            clear hb hy hpar
            go_wp2_with fail
            refine (HPR.out _).mono ?_
            rintro e w1 ⟨rfl, hb1⟩
            have HB := Lib.hid (below_then HB.out hb1); have HU := Lib.hid (HU.out.below hb1)
            have hbw : w.heap.size ≤ w1.heap.size := HB.out.size
            go_wp2_with (at_builtin; go_loud (refine wpList_append_own _ rfl _ _ 36 rfl w.heap.size 29 i0 (.agg #[.int .i64 0, .string ⟨#[]⟩, .int .i64 0, .string ⟨#[]⟩, .string ⟨#[]⟩]) 5 64 Tryz.underlying36 ei ez es0 eb rfl (by decide) _ _ _ rfl (HU.out.below (((Below.refl _ _).alloc (Nat.le_refl _) (.cells #[.int .i64 step, .string (bs what), .int .i64 node, .string (bs first), .string (bs second)] 29)).alloc (by simp) (.cells #[.int .i64 step, .string (bs what), .int .i64 node, .string (bs first), .string (bs second)] 29))) ⟨w1.heap.size + 1, 0, none⟩ 1 1 (evCells ⟨step, what, node, first, second⟩) rfl rfl (cells_at (by simp) rfl) (by simp [evCells, Value.oneCell']) (by unfold maxLen; omega) (by omega) (by simp; omega) ?_))
            intro v' w2 hown' hgrow _
            have hlt' := HU.out.lt
            have hB' : Below w.heap.size w w2 := (((HB.out.alloc HB.out.size (.cells #[.int .i64 step, .string (bs what), .int .i64 node, .string (bs first), .string (bs second)] 29)).alloc (by simp; omega) (.cells #[.int .i64 step, .string (bs what), .int .i64 node, .string (bs first), .string (bs second)] 29))).grown hgrow (by simp; omega) (fun k hk => by have := (hlt' k hk).1; omega)
            have hown2 : OwnU w.heap.size v' (es ++ [⟨step, what, node, first, second⟩]) w2 := by
              unfold OwnU
              rw [evRow_snoc, List.length_append]
              exact hown'
            clear hown' hgrow hlt'
            go_wp2_with fail
            go_roundw
            case rel => exact ⟨j + 1, j + 1, _, Nat.le_refl _, by omega, by go_num, by go_num, hown2, hB', HC2⟩
            case measure => (simp [intOf] <;> omega)
        · have hx : ((((bs s)[j]'hjs).toNat : Int) == 10) = false := by
            rw [show (bs s)[j]'hjs = s[j] from rfl, beq_eq_false_iff_ne]
            intro e
            apply hb
            exact u8_eq.2 e
          have HC2 := Lib.hid (cutl_on HC.out hf hjl hb)
          clear hb
          go_wp2_with fail
          go_roundw
          case rel => exact ⟨f, j + 1, es, by omega, by omega, rfl, by go_num, HU.out, HB.out, HC2⟩
          case measure => (simp [intOf] <;> omega)
      · obtain rfl : j = n := by omega
        have hend : tReads (tLines s) = .evs es := by
          have := HC.out
          rw [HN.out] at this
          exact cutl_end this (by rw [← HN.out]; exact hf) HLS.out
        have HR := Lib.hid hend
        clear hend
        go_wp2_with fail
        go_ret2
        rw [HR.out]
        exact ⟨_, rfl, HU.out, HB.out⟩
  · have hn11 : ((n : Int) - 1).toNat = n - 1 := by omega
    have hn0 : (0 : Int) ≤ (n : Int) - 1 := by omega
    have hnn : (n : Int) - 1 < (n : Int) := by omega
    go_wp2_with fail
    clear e0
    go_loopw [4, 5, 6] (fun v a i wr => ∃ f j : Nat, ∃ es : List Ev, f ≤ j ∧ j ≤ n ∧ a = .int .i64 f ∧ i = .int .i64 j ∧ OwnU w.heap.size v es wr ∧ Below w.heap.size w wr ∧ Hid (CutL s es f j)) (fun _ _ i _ => n - (intOf i).toNat)
    case atStart =>
      refine ⟨0, 0, [], Nat.le_refl _, Nat.zero_le _, rfl, rfl, ?_, by go_grown, Lib.hid ⟨[], rfl, rfl, fun x hx => by simp at hx, Nat.zero_le _⟩⟩
      exact World.ownsRow_lit w #[] 0 (Nat.le_refl _) (by decide) rfl
    case round =>
      obtain ⟨f, j, es, hf, hj, rfl, rfl, hown, hB, HC⟩ := hrel
      obtain ⟨av, cv, rfl⟩ := hown.slice
      have HU := Lib.hid hown; have HB := Lib.hid hB
      have hel : es.length ≤ f := by obtain ⟨_, _, _, _, h⟩ := HC.out; exact h
      clear hown hB
      by_cases hjn : j < n
      · have hjs : j < (bs s).size := by omega
        have hjl : j < s.length := by rw [← HN.out]; exact hjn
        have hj0 : (0 : Int) ≤ (j : Int) := by omega
        have hj1 : (j : Int) < (n : Int) := by omega
        by_cases hb : s[j] = 10
        · have hx : ((((bs s)[j]'hjs).toNat : Int) == 10) = true := by
            rw [show (bs s)[j]'hjs = s[j] from rfl, hb]; rfl
          have hext := ext_bs s f j
          have hfi : (f : Int) ≤ (j : Int) := by omega
          have hf0 : (0 : Int) ≤ (f : Int) := by omega
          obtain ⟨y, hy⟩ : ∃ y, y = (s.drop f).take (j - f) := ⟨_, rfl⟩
          have hyl : y.length ≤ 100000 := by
            rw [hy, List.length_take, List.length_drop]; omega
          have HPR := Lib.hid (fun W => rparse_of y hyl W)
          rw [← hy] at hext
          cases hpar : tParse y with
          | no k =>
            rw [hpar] at HPR
            have hk := no_num hpar
            have hk0 : (k == 0) = false := by simpa using hk
            have hk1 : (k != 0) = true := by simpa using hk
            have HR := Lib.hid (cutl_no HC.out hf hjl hb (by rw [← hy]; exact hpar))
            dsimp only [Said.get, Said.num, evV, evC, ev0] at HPR
            clear hb hy hpar hk
            go_wp2_with fail
            refine (HPR.out _).mono ?_
            rintro e w1 ⟨rfl, hb1⟩
            have HB := Lib.hid (below_then HB.out hb1)
            go_wp2_with fail
            go_ret2
            rw [HR.out]
            exact ⟨rfl, HB.out.alloc HB.out.size _⟩
          | ev e =>
            rw [hpar] at HPR
            have HC2 := Lib.hid (cutl_at HC.out hf hjl hb (by rw [← hy]; exact hpar))
            obtain ⟨step, what, node, first, second⟩ := e
            dsimp only [Said.get, Said.num, evV, evC] at HPR
            clear hb hy hpar
            go_wp2_with fail
            refine (HPR.out _).mono ?_
            rintro e w1 ⟨rfl, hb1⟩
            have HB := Lib.hid (below_then HB.out hb1); have HU := Lib.hid (HU.out.below hb1)
            have hbw : w.heap.size ≤ w1.heap.size := HB.out.size
            go_wp2_with (at_builtin; go_loud (refine wpList_append_own _ rfl _ _ 36 rfl w.heap.size 29 i0 (.agg #[.int .i64 0, .string ⟨#[]⟩, .int .i64 0, .string ⟨#[]⟩, .string ⟨#[]⟩]) 5 64 Tryz.underlying36 ei ez es0 eb rfl (by decide) _ _ _ rfl (HU.out.below (((Below.refl _ _).alloc (Nat.le_refl _) (.cells #[.int .i64 step, .string (bs what), .int .i64 node, .string (bs first), .string (bs second)] 29)).alloc (by simp) (.cells #[.int .i64 step, .string (bs what), .int .i64 node, .string (bs first), .string (bs second)] 29))) ⟨w1.heap.size + 1, 0, none⟩ 1 1 (evCells ⟨step, what, node, first, second⟩) rfl rfl (cells_at (by simp) rfl) (by simp [evCells, Value.oneCell']) (by unfold maxLen; omega) (by omega) (by simp; omega) ?_))
            intro v' w2 hown' hgrow _
            have hlt' := HU.out.lt
            have hB' : Below w.heap.size w w2 := (((HB.out.alloc HB.out.size (.cells #[.int .i64 step, .string (bs what), .int .i64 node, .string (bs first), .string (bs second)] 29)).alloc (by simp; omega) (.cells #[.int .i64 step, .string (bs what), .int .i64 node, .string (bs first), .string (bs second)] 29))).grown hgrow (by simp; omega) (fun k hk => by have := (hlt' k hk).1; omega)
            have hown2 : OwnU w.heap.size v' (es ++ [⟨step, what, node, first, second⟩]) w2 := by
              unfold OwnU
              rw [evRow_snoc, List.length_append]
              exact hown'
            clear hown' hgrow hlt'
            go_wp2_with fail
            go_roundw
            case rel => exact ⟨j + 1, j + 1, _, Nat.le_refl _, by omega, by go_num, by go_num, hown2, hB', HC2⟩
            case measure => (simp [intOf] <;> omega)
        · have hx : ((((bs s)[j]'hjs).toNat : Int) == 10) = false := by
            rw [show (bs s)[j]'hjs = s[j] from rfl, beq_eq_false_iff_ne]
            intro e
            apply hb
            exact u8_eq.2 e
          have HC2 := Lib.hid (cutl_on HC.out hf hjl hb)
          clear hb
          go_wp2_with fail
          go_roundw
          case rel => exact ⟨f, j + 1, es, by omega, by omega, rfl, by go_num, HU.out, HB.out, HC2⟩
          case measure => (simp [intOf] <;> omega)
      · obtain rfl : j = n := by omega
        have hend : tReads (tLines s) = .evs es := by
          have := HC.out
          rw [HN.out] at this
          exact cutl_end this (by rw [← HN.out]; exact hf) HLS.out
        have HR := Lib.hid hend
        clear hend
        go_wp2_with fail
        go_ret2
        rw [HR.out]
        exact ⟨_, rfl, HU.out, HB.out⟩
end Go.Proofs.YthjdaehiebcoaaaGreatDoor
