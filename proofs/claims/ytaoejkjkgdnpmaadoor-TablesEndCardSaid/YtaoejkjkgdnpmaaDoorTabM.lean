/- The walks of package tables: the lists of kinds. -/
import Derived.Test.YtaoejkjkgdnpmaaDoorRows
import Derived.WalkKit
import Derived.WalkSpells
import Derived.WalkLawsBesides
import Derived.BigQuiet
import Derived.Deep.QuietTactic
import Derived.StillTailTactics
import Derived.Handy
import Derived.Lib.Hide
import Derived.Test.YtaoejkjkgdnpmaaDoorTabL
import Derived.Test.YtaoejkjkgdnpmaaDoorSort
set_option linter.unusedSimpArgs false
set_option linter.unusedVariables false
namespace Go.Proofs.YtaoejkjkgdnpmaaDoor
open Go.RowKit

theorem OwnI.drewN {B : Nat} {v : Value} {xs : List Int} {w : World} (h : OwnI B v xs w) (n : Nat) : OwnI B v xs (w.drewN n) := h
theorem Below.drewN {B : Nat} {a w : World} (h : Below B a w) (n : Nat) : Below B a (w.drewN n) := ⟨h.os, h.tape, h.output, h.size, h.block⟩
theorem RowsAt.alloc {w : World} {b : Nat} {rs : List Row} (h : RowsAt w b rs) (o : Obj) : RowsAt (w.alloc o) b rs := h.below ((Below.refl _ _).alloc (Nat.le_refl _) o)
theorem ActsAt.alloc {w : World} {b : Nat} {rs : List Act'} (h : ActsAt w b rs) (o : Obj) : ActsAt (w.alloc o) b rs := h.below ((Below.refl _ _).alloc (Nat.le_refl _) o)
def sortedB (xs : List Int) : Bool := (List.range (xs.length - 1)).all fun i => decide (xs.getD i 0 ≤ xs.getD (i + 1) 0)
theorem sorted_of {xs : List Int} (h : sortedB xs = true) : ∀ i (h : i + 1 < xs.length), xs[i] ≤ xs[i + 1] := by
  intro i hi
  have := List.all_eq_true.1 h i (List.mem_range.2 (by omega))
  simpa [List.getD_eq_getElem?_getD, List.getElem?_eq_getElem hi, List.getElem?_eq_getElem (by omega : i < xs.length)] using this
theorem keys_sorted {p d : Int} {t : Tab} (ht : tabOf p d = some t) : (∀ i (h : i + 1 < (t.rows.map (·.1)).length), (t.rows.map (·.1))[i] ≤ (t.rows.map (·.1))[i + 1]) ∧ (∀ i (h : i + 1 < (t.acts.map (·.1)).length), (t.acts.map (·.1))[i] ≤ (t.acts.map (·.1))[i + 1]) := by
  rcases tabOf_cases ht with ⟨rfl, rfl, rfl⟩ | ⟨rfl, rfl, rfl⟩ | ⟨rfl, rfl, rfl⟩ | ⟨rfl, rfl, rfl⟩ <;> exact ⟨sorted_of (by decide), sorted_of (by decide)⟩
theorem keys_len {p d : Int} {t : Tab} (ht : tabOf p d = some t) : (t.rows.length = 6 ∨ t.rows.length = 7) ∧ (t.acts.length = 6 ∨ t.acts.length = 7) := by
  rcases tabOf_cases ht with ⟨rfl, rfl, rfl⟩ | ⟨rfl, rfl, rfl⟩ | ⟨rfl, rfl, rfl⟩ | ⟨rfl, rfl, rfl⟩ <;> decide

set_option maxRecDepth 100000 in
set_option maxHeartbeats 2000000 in
theorem takes_tab (p d : Int) (t : Tab) (w : World) (ht : tabOf p d = some t) :
    Calls Tryd.prog 21 #[.int .i64 p, .int .i64 d] w (MakesI (t.rows.map (·.1)) w) := by
  have hwf := wf_tab ht
  have hks := keys_sorted ht
  have hkl := keys_len ht
  have HT := Lib.hid ht; clear ht
  have hl : t.rows.length = 6 ∨ t.rows.length = 7 := hkl.1
  have HKS := Lib.hid hks.1; clear hks hkl hwf
  obtain ⟨i0, ei, ez, es, eb⟩ := info_parts infoInt
  go_enter Tryd.func21, Tryd.ntmps21
  go_wp2_with (first
    | (go_at_call 28; refine (of_yes p d _ _ HT.out).mono ?_; rintro e w1 ⟨v, rfl, hT, hb1⟩; obtain ⟨br, ba, b1, b2, rfl, hr, ha⟩ := hT; have HR := Lib.hid (hr.alloc (.cells #[.slice (some ⟨br, 0, none⟩) t.rows.length t.rows.length, .slice (some ⟨ba, 0, none⟩) t.acts.length t.acts.length, .string t.waits] 55)); have hz1 := hb1.size; have hbr := hr.1))
  have hW2 : Below w.heap.size w (w1.alloc (.cells #[.slice (some ⟨br, 0, none⟩) t.rows.length t.rows.length, .slice (some ⟨ba, 0, none⟩) t.acts.length t.acts.length, .string t.waits] 55)) := hb1.alloc hb1.size _
  have hsz2 : (w1.alloc (.cells #[.slice (some ⟨br, 0, none⟩) t.rows.length t.rows.length, .slice (some ⟨ba, 0, none⟩) t.acts.length t.acts.length, .string t.waits] 55)).heap.size = w1.heap.size + 1 := by simp
  clear hr ha
  generalize hW : w1.alloc (.cells #[.slice (some ⟨br, 0, none⟩) t.rows.length t.rows.length, .slice (some ⟨ba, 0, none⟩) t.acts.length t.acts.length, .string t.waits] 55) = W at *
  clear hW
  have HSZ := Lib.hid hsz2; clear hsz2
  go_loopw [8, 23] (fun v i wr => ∃ j : Nat, j ≤ t.rows.length ∧ i = .int .i64 j ∧ OwnI W.heap.size v ((t.rows.map (·.1)).take j) wr ∧ Below W.heap.size W wr) (fun _ i _ => t.rows.length - (intOf i).toNat)
  case atStart => exact ⟨0, Nat.zero_le _, rfl, World.ownsRow_nil _ _ _ _, Below.refl _ _⟩
  case round =>
    obtain ⟨j, hj, rfl, hown, hB⟩ := hrel
    have hrow : wr.ownsRow W.heap.size 3 1 _ ((t.rows.map (·.1)).take j).length (((t.rows.map (·.1)).take j).map (Value.int .i64)) := hown
    have hlen : ((t.rows.map (·.1)).take j).length = j := by simp; omega
    by_cases hjn : j < t.rows.length
    · obtain ⟨h1, h2, h3⟩ := (HR.out.below hB).2 j hjn
      have htk : (t.rows.map (·.1)).take (j + 1) = (t.rows.map (·.1)).take j ++ [t.rows[j].1] := by
        rw [List.take_succ_eq_append_getElem (by simpa using hjn)]; simp
      obtain ⟨r, hrj⟩ : ∃ r, r = t.rows[j] := ⟨_, rfl⟩
      rw [← hrj] at h1 h2 h3 htk
      have HTK := Lib.hid htk; clear htk
      clear hrj
      obtain ⟨a, s, c⟩ := r
      rw [hlen] at hrow
      clear hlen
      have hbs := hB.size
      go_wp2_with (at_builtin; refine wpList_append_own _ rfl _ _ 44 rfl W.heap.size 3 i0 (.int .i64 0) 1 8 Tryd.underlying44 ei ez es eb rfl (by decide) _ _ _ rfl ((hrow.alloc _).alloc _) ⟨wr.heap.size + 1, 0, none⟩ 1 1 [.int .i64 a] rfl rfl ?c1 ?c2 ?c3 ?c4 ?c5 ?_)
      case c2 => rfl
      case c3 => unfold maxLen; omega
      case c4 => omega
      case c5 => omega
      · intro v' w2 hown' hgrow _
        have hlt' := hrow.lt
        have hB' : Below W.heap.size W w2 := ((hB.alloc hbs _).alloc (by simp; omega) _).grown hgrow (by simp; omega) (fun k hk => (hlt' k hk).1)
        have hown2 : OwnI W.heap.size v' ((t.rows.map (·.1)).take (j + 1)) w2 := by
          rw [HTK.out]
          unfold OwnI
          rw [List.length_append, List.map_append]
          have : ((t.rows.map (·.1)).take j).length = j := by simp; omega
          rw [this]
          simpa [List.map_take, List.map_map] using hown'
        clear hown' hgrow hlt' hown hrow
        go_wp2
        go_roundw
        case rel => exact ⟨j + 1, by omega, by go_num, hown2, hB'⟩
        case measure => simp [intOf]; omega
    · obtain rfl : j = t.rows.length := by omega
      rw [List.take_of_length_le (by simp)] at hown hrow hlen
      rw [hlen] at hrow
      rcases hrow.2 with ⟨_, hnil⟩ | ⟨g, cap, cur, rfl, hbase, hb, g1, g2, g3, g4⟩
      · omega
      have hI : IntsAt wr g (t.rows.map (·.1)) := fun i hi => by
        rw [hrow.cellAt i (by simpa using hi)]
        simp [List.getElem?_map, List.getElem?_eq_getElem (by simpa using hi : i < t.rows.length)]
      have hsort := sort_any (t.rows.map (·.1)) g cap wr hI HKS.out (by simpa using hl)
      rw [List.length_map] at hsort
      have HSORT := Lib.hid hsort; clear hsort hI
      have HRW := Lib.hid hown; clear hown hrow hb g4
      go_wp2_with (go_at_call 42; refine (HSORT.out).mono ?_; rintro e w3 ⟨rfl, hw3⟩)
      go_ret2
      obtain ⟨n, rfl⟩ := hw3
      refine ⟨_, rfl, (HRW.out.drewN n).mono (by have := HSZ.out; omega), ?_⟩
      exact Below.drewN (hW2.trans (hB.mono hW2.size)) n

set_option maxRecDepth 100000 in
set_option maxHeartbeats 2000000 in
theorem sends_tab (p d : Int) (t : Tab) (w : World) (ht : tabOf p d = some t) :
    Calls Tryd.prog 20 #[.int .i64 p, .int .i64 d] w (MakesI (t.acts.map (·.1)) w) := by
  have hwf := wf_tab ht
  have hks := keys_sorted ht
  have hkl := keys_len ht
  have HT := Lib.hid ht; clear ht
  have hl : t.acts.length = 6 ∨ t.acts.length = 7 := hkl.2
  have HKS := Lib.hid hks.2; clear hks hkl hwf
  obtain ⟨i0, ei, ez, es, eb⟩ := info_parts infoInt
  go_enter Tryd.func20, Tryd.ntmps20
  go_wp2_with (first
    | (go_at_call 28; refine (of_yes p d _ _ HT.out).mono ?_; rintro e w1 ⟨v, rfl, hT, hb1⟩; obtain ⟨br, ba, b1, b2, rfl, hr, ha⟩ := hT; have HR := Lib.hid (ha.alloc (.cells #[.slice (some ⟨br, 0, none⟩) t.rows.length t.rows.length, .slice (some ⟨ba, 0, none⟩) t.acts.length t.acts.length, .string t.waits] 55)); have hz1 := hb1.size; have hbr := ha.1))
  have hW2 : Below w.heap.size w (w1.alloc (.cells #[.slice (some ⟨br, 0, none⟩) t.rows.length t.rows.length, .slice (some ⟨ba, 0, none⟩) t.acts.length t.acts.length, .string t.waits] 55)) := hb1.alloc hb1.size _
  have hsz2 : (w1.alloc (.cells #[.slice (some ⟨br, 0, none⟩) t.rows.length t.rows.length, .slice (some ⟨ba, 0, none⟩) t.acts.length t.acts.length, .string t.waits] 55)).heap.size = w1.heap.size + 1 := by simp
  clear hr ha
  generalize hW : w1.alloc (.cells #[.slice (some ⟨br, 0, none⟩) t.rows.length t.rows.length, .slice (some ⟨ba, 0, none⟩) t.acts.length t.acts.length, .string t.waits] 55) = W at *
  clear hW
  have HSZ := Lib.hid hsz2; clear hsz2
  go_loopw [8, 23] (fun v i wr => ∃ j : Nat, j ≤ t.acts.length ∧ i = .int .i64 j ∧ OwnI W.heap.size v ((t.acts.map (·.1)).take j) wr ∧ Below W.heap.size W wr) (fun _ i _ => t.acts.length - (intOf i).toNat)
  case atStart => exact ⟨0, Nat.zero_le _, rfl, World.ownsRow_nil _ _ _ _, Below.refl _ _⟩
  case round =>
    obtain ⟨j, hj, rfl, hown, hB⟩ := hrel
    have hrow : wr.ownsRow W.heap.size 3 1 _ ((t.acts.map (·.1)).take j).length (((t.acts.map (·.1)).take j).map (Value.int .i64)) := hown
    have hlen : ((t.acts.map (·.1)).take j).length = j := by simp; omega
    by_cases hjn : j < t.acts.length
    · obtain ⟨h1, h2⟩ := (HR.out.below hB).2 j hjn
      have htk : (t.acts.map (·.1)).take (j + 1) = (t.acts.map (·.1)).take j ++ [t.acts[j].1] := by
        rw [List.take_succ_eq_append_getElem (by simpa using hjn)]; simp
      obtain ⟨r, hrj⟩ : ∃ r, r = t.acts[j] := ⟨_, rfl⟩
      rw [← hrj] at h1 h2 htk
      have HTK := Lib.hid htk; clear htk
      clear hrj
      obtain ⟨a, s⟩ := r
      rw [hlen] at hrow
      clear hlen
      have hbs := hB.size
      go_wp2_with (at_builtin; refine wpList_append_own _ rfl _ _ 44 rfl W.heap.size 3 i0 (.int .i64 0) 1 8 Tryd.underlying44 ei ez es eb rfl (by decide) _ _ _ rfl ((hrow.alloc _).alloc _) ⟨wr.heap.size + 1, 0, none⟩ 1 1 [.int .i64 a] rfl rfl ?c1 ?c2 ?c3 ?c4 ?c5 ?_)
      case c2 => rfl
      case c3 => unfold maxLen; omega
      case c4 => omega
      case c5 => omega
      · intro v' w2 hown' hgrow _
        have hlt' := hrow.lt
        have hB' : Below W.heap.size W w2 := ((hB.alloc hbs _).alloc (by simp; omega) _).grown hgrow (by simp; omega) (fun k hk => (hlt' k hk).1)
        have hown2 : OwnI W.heap.size v' ((t.acts.map (·.1)).take (j + 1)) w2 := by
          rw [HTK.out]
          unfold OwnI
          rw [List.length_append, List.map_append]
          have : ((t.acts.map (·.1)).take j).length = j := by simp; omega
          rw [this]
          simpa [List.map_take, List.map_map] using hown'
        clear hown' hgrow hlt' hown hrow
        go_wp2
        go_roundw
        case rel => exact ⟨j + 1, by omega, by go_num, hown2, hB'⟩
        case measure => simp [intOf]; omega
    · obtain rfl : j = t.acts.length := by omega
      rw [List.take_of_length_le (by simp)] at hown hrow hlen
      rw [hlen] at hrow
      rcases hrow.2 with ⟨_, hnil⟩ | ⟨g, cap, cur, rfl, hbase, hb, g1, g2, g3, g4⟩
      · omega
      have hI : IntsAt wr g (t.acts.map (·.1)) := fun i hi => by
        rw [hrow.cellAt i (by simpa using hi)]
        simp [List.getElem?_map, List.getElem?_eq_getElem (by simpa using hi : i < t.acts.length)]
      have hsort := sort_any (t.acts.map (·.1)) g cap wr hI HKS.out (by simpa using hl)
      rw [List.length_map] at hsort
      have HSORT := Lib.hid hsort; clear hsort hI
      have HRW := Lib.hid hown; clear hown hrow hb g4
      go_wp2_with (go_at_call 42; refine (HSORT.out).mono ?_; rintro e w3 ⟨rfl, hw3⟩)
      go_ret2
      obtain ⟨n, rfl⟩ := hw3
      refine ⟨_, rfl, (HRW.out.drewN n).mono (by have := HSZ.out; omega), ?_⟩
      exact Below.drewN (hW2.trans (hB.mono hW2.size)) n
end Go.Proofs.YtaoejkjkgdnpmaaDoor
