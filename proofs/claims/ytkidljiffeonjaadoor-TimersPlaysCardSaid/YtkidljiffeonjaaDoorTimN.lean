/- The clock's Due, walked. -/
import Derived.Test.YtkidljiffeonjaaDoorRows
import Derived.WalkKit
import Derived.WalkSpells
import Derived.WalkLawsBesides
import Derived.BigQuiet
import Derived.Deep.QuietTactic
import Derived.StillTailTactics
import Derived.Handy
import Derived.Lib.Hide
import Derived.Test.YtkidljiffeonjaaDoorTimM
import Derived.BigQuiet
import Derived.Deep.Onto
import Derived.Deep.CutRange
set_option linter.unusedSimpArgs false
set_option linter.unusedVariables false
namespace Go.Proofs.YtkidljiffeonjaaDoor
open Go.RowKit Go.Maps
attribute [local go_sem] store_float

abbrev dueF (now : Nat) (acc : List MTimer) : List MTimer := acc.filter fun t => decide (t.at_ ≤ now)
theorem dueF_le (now : Nat) (acc : List MTimer) : (dueF now acc).length ≤ acc.length := List.length_filter_le _ _
theorem dueF_yes (now : Nat) (acc : List MTimer) (t : MTimer) (h : t.at_ ≤ now) : dueF now (acc ++ [t]) = dueF now acc ++ [t] := by simp [dueF, h]
theorem dueF_no (now : Nat) (acc : List MTimer) (t : MTimer) (h : ¬ t.at_ ≤ now) : dueF now (acc ++ [t]) = dueF now acc := by simp [dueF]; omega
set_option maxRecDepth 100000 in
set_option maxHeartbeats 4000000 in
theorem due_at (c b now : Nat) (L : List MTimer) (w : World) (h : ClockAt c b now L w) (hl : L.length ≤ 64) :
    Calls Tryd.prog 35 #[.pointer (some ⟨c, 0, none⟩)] w (MakesKeys ((tdue now L).map (·.key)) w) := by
  obtain ⟨D, hD, hC⟩ := h.ex
  have h0 : w.cell? ⟨c, 0, none⟩ = some (.float .f64 now) := hC.blk.cell 0
  have h1 : w.cell? ⟨c, 1, none⟩ = some (.map (some b)) := hC.blk.cell 1
  have hcl := hC.blk.lt
  have hbl := hC.own.lt
  have hown := hC.own
  have HG := Lib.hid h.good
  have HD := Lib.hid hD
  have HN := Lib.hid hC.top
  have HKe := Lib.hid (fun wr (hB : Below w.heap.size w wr) => (hB.cell hcl).trans h0)
  clear h hC hD
  obtain ⟨ks, hks⟩ : ∃ ks, ks = (tdue now L).map (·.key) := ⟨_, rfl⟩
  rw [← hks]
  have HK := Lib.hid hks
  clear hks
  obtain ⟨i0, ei, ez, es, eb⟩ := info_parts infoTm
  obtain ⟨j0, di, dz, ds, db⟩ := info_parts infoStr
  go_enter Tryd.func35, Tryd.ntmps35
  go_wp2_with (at_range; refine wpList_range_own _ rfl _ 131 rfl 9 135 (string_keyed Tryd.underlying9) Tryd.underlying131 _ b L.length D rfl hown ?_; intro w0 hrg0 hg0 hs0)
  have HB0 : Below w.heap.size w w0 := ⟨hg0.os, hg0.tape, hg0.output, hg0.size, fun k hk => hg0.block k hk (by simp)⟩
  clear h0 h1 hown
  go_frame
  go_loopw [3] (fun v wr => ∃ (left : Lit → Bool) (ct : Nat) (acc : List MTimer), wr.ranges Tryd.prog 9 timR b w.heap.size L.length D left ct ∧ Hid (Seen L acc left) ∧ wr.ownsRow (w.heap.size + 1) 135 5 v (dueF now acc).length (rowC (dueF now acc)) ∧ Below w.heap.size w wr ∧ w.heap.size + 1 ≤ wr.heap.size) (fun _ wr => wr.rangeLeft b w.heap.size)
  case atStart => exact ⟨_, _, [], hrg0, Lib.hid (Seen.start HD.out), World.ownsRow_nil _ _ _ _, HB0, by omega⟩
  case round =>
    obtain ⟨left, ct, acc, hrg, HS, hrow, hB, hz⟩ := hrel
    have hle := HS.out.le
    have hfl := dueF_le now acc
    have HRg := Lib.hid hrg
    go_wp2_with (at_next; go_loud (refine wpList_next_timers rfl _ rfl b w.heap.size L.length D L acc left ct rfl HD.out HS.out hrg ?_ ?_))
    · intro hperm
      have HP := Lib.hid hperm
      clear hperm
      have HSr := Lib.hid (fun W hW => sort_any (w.heap.size + 1) u3 (dueF now acc) W hW (fun t ht => (HG.out t (HS.out.sub t (List.mem_filter.1 ht).1)).at_) (by omega))
      have HRow := Lib.hid hrow
      clear hrow hrg
      go_wp2_with fail
      refine (HSr.out _ HRow.out hz).mono ?_; rintro e w2 ⟨rfl, ts, hp, hs, hlist, hb2⟩
      have hts := due_sorted now HD.out.apart HP.out hp hs
      have hB2 : Below w.heap.size w w2 := hB.trans (hb2.mono (by omega))
      have hlen : ts.length ≤ 64 := by have := hp.length_eq; omega
      have hks : ks = ts.map (·.key) := by rw [HK.out, hts]
      have HKs := Lib.hid hks
      clear hp hs hb2 hB hts HSr HRow HP HRg HS hfl hks HK HKe hcl hbl hle hz
      obtain ⟨a, cap, rfl, hcs⟩ := hlist
      have HCs := Lib.hid hcs
      obtain ⟨n, hn⟩ : ∃ n, n = ts.length := ⟨_, rfl⟩
      rw [← hn] at hlen ⊢
      have HNn := Lib.hid hn
      clear hcs hn
      go_wp2_with fail
      go_loopw [6, 33] (fun v i wr => ∃ k : Nat, k ≤ n ∧ i = .int .i64 k ∧ wr.ownsRow w2.heap.size 9 1 v k ((ts.map fun t => Value.string t.key).take k) ∧ Below w2.heap.size w2 wr) (fun _ i _ => n - (intOf i).toNat)
      case atStart => exact ⟨0, by omega, rfl, by simpa using World.ownsRow_nil _ _ _ _, Below.refl _ _⟩
      case round =>
        obtain ⟨k, hk, rfl, hrow, hB⟩ := hrel
        by_cases hlt : k < n
        · have hlt' : k < ts.length := by rw [← HNn.out]; exact hlt
          obtain ⟨g, rfl, hg, hr⟩ := HCs.out (by intro e; rw [e] at hlt'; simp at hlt')
          have hc : ∀ i, i < 5 → wr.cell? ⟨g, k * 5 + i, none⟩ = (cells5 ts[k])[i]? := fun i hi => (by
            have := hr k hlt' i hi
            have e := hB.block g hg
            exact (World.cell?_of_block (a := ⟨g, k * 5 + i, none⟩) e).trans this)
          have c0 := hc 0 (by decide)
          have c1 := hc 1 (by decide)
          have c2 := hc 2 (by decide)
          have c3 := hc 3 (by decide)
          have c4 := hc 4 (by decide)
          simp only [List.getElem?_cons_zero, List.getElem?_cons_succ, Nat.add_zero] at c0 c1 c2 c3 c4
          have htake : (ts.map fun t => Value.string t.key).take (k + 1) = (ts.map fun t => Value.string t.key).take k ++ [.string ts[k].key] := by
            rw [List.take_succ_eq_append_getElem (by simpa using hlt'), List.getElem_map]
          have HTk := Lib.hid htake
          clear htake hc hr
          generalize ts[k] = t at *
          have hzB := hB.size
          go_wp2_with (at_builtin; go_loud (refine wpList_append_own _ rfl _ _ 76 rfl w2.heap.size 9 j0 (.string ByteArray.empty) 1 16 Tryd.underlying76 di dz ds db rfl (by decide) _ _ _ rfl ((hrow.alloc _).alloc _) ⟨wr.heap.size + 1, 0, none⟩ 1 1 [.string t.key] rfl rfl ?c1 ?c2 ?c3 ?c4 ?c5 ?_))
          case c1 =>
            intro j u hj
            match j, hj with
            | 0, hj => simp at hj; subst hj; simp [Addr.add]
          case c2 => intro u hu; simp at hu; subst hu; rfl
          case c3 => unfold maxLen; omega
          case c4 => omega
          case c5 => simp; omega
          · intro v' w3 hown' hgrow _
            have hB' : Below w2.heap.size w2 w3 := ((hB.alloc hzB _).alloc (by simp; omega) _).grown hgrow (by simp; omega) (fun k hk => (hrow.lt k hk).1)
            have hown2 : w3.ownsRow w2.heap.size 9 1 v' (k + 1) ((ts.map fun t => Value.string t.key).take (k + 1)) := by
              rw [HTk.out]
              exact hown'
            clear hown' hgrow hrow c0 c1 c2 c3 c4
            go_wp2_with fail
            go_roundw
            case rel => exact ⟨k + 1, by omega, by go_num, hown2, hB'⟩
            case measure => simp [intOf]; omega
        · obtain rfl : k = n := by omega
          have e1 : (ts.map fun t => Value.string t.key).take k = ts.map fun t => Value.string t.key := List.take_of_length_le (by rw [List.length_map, ← HNn.out]; exact Nat.le_refl _)
          rw [e1] at hrow
          go_wp2_with fail
          go_ret
          refine ⟨_, rfl, ?_, below_then hB2 hB⟩
          rw [HKs.out, List.length_map, List.map_map, ← HNn.out]
          exact World.ownsRow.mono hrow hB2.size
    · intro t w1 left1 ct1 hmem hnew hS1 hrg1 hlt1 hg1 hen
      have HTl := Lib.hid (HG.out t hmem).at_
      have HRx := Lib.hid hrg1; have HLx := Lib.hid hlt1; have HS1 := Lib.hid hS1; have HGx := Lib.hid hg1
      have hne : u3.ownBlock ≠ some w.heap.size := fun e => by have := (hrow.lt _ e).1; omega
      have hrow1 := hrow.kept hg1 (.inr hne)
      have hsz := hg1.size
      have hB1 : Below w.heap.size w w1 := hB.grown hg1 hB.size (fun k hk => by cases hk; omega)
      have hDu := (fun W => due_le now t.at_ HN.out (HG.out t hmem).at_ W)
      have q0 := HKe.out _ (hB1.alloc hB1.size (.cells #[.string t.key, .float .f64 t.at_, .int .i64 t.times, .float .f64 t.base, .float .f64 t.most] 135))
      clear hmem hnew hS1 hrg1 hlt1 hg1
      by_cases hd : t.at_ ≤ now
      · rw [decide_eq_true hd] at hDu
        have HDu := Lib.hid hDu
        have HDd := Lib.hid hd
        clear hDu hd
        go_upto_region 5 with fail
        go_quiet ((go_at_call 74; exact Calls.quiet_of_same ((HDu.out _).mono fun e w' h => ⟨h.1, h.2.symm⟩)))
        obtain ⟨W4, hW4⟩ : ∃ W4, W4 = (w1.alloc (.cells #[.string t.key, .float .f64 t.at_, .int .i64 t.times, .float .f64 t.base, .float .f64 t.most] 135)).drewN nq := ⟨_, rfl⟩
        rw [← hW4]
        have hgA : w1.grownBy W4 none := by
          have h := World.grownBy_alloc w1 (.cells #[.string t.key, .float .f64 t.at_, .int .i64 t.times, .float .f64 t.base, .float .f64 t.most] 135) none
          subst hW4
          exact ⟨h.os, h.tape, h.output, h.size, h.block⟩
        have hz4 : w1.heap.size + 1 ≤ W4.heap.size := by subst hW4; simp [World.drewN]
        have q5 : ∀ i, W4.cell? ⟨w1.heap.size, i, none⟩ = #[.string t.key, .float .f64 t.at_, .int .i64 t.times, .float .f64 t.base, .float .f64 t.most][i]? := by
          subst hW4
          exact (Blk.fresh w1 _ _ _ rfl).cell
        have hrow4 := hrow1.kept hgA (by cases u3.ownBlock <;> simp)
        have HR4 := Lib.hid (HRx.out.kept hgA (by simp) (by simp))
        have HB4 := Lib.hid (hB1.grown hgA hB1.size (fun k hk => by cases hk))
        clear hW4 hgA hrow hrow1 hrg q0 hB1
        go_wp2_with (at_builtin; go_loud (refine wpList_append_own_at _ rfl _ _ 139 rfl (w.heap.size + 1) 135 i0 (timerV timer0) 5 48 Tryd.underlying139 ei ez es eb rfl (by decide) _ _ _ rfl (hrow4.alloc _) ⟨W4.heap.size, 0, none⟩ 1 1 (cells5 t) rfl rfl (five_new _ _ _) (five_cells _) ?c3 ?c4 ?c5 ?_))
        case c3 => unfold maxLen; omega
        case c4 => omega
        case c5 => simp; omega
        · intro v' w2 hown' hgrow _ _
          have hlt' := hrow4.lt
          have hB' : Below w.heap.size w w2 := (HB4.out.alloc (by omega) _).grown hgrow (by simp; omega) (fun k hk => by have := (hlt' k hk).1; omega)
          have hrg' := (HR4.out.alloc (.cells #[.string t.key, .float .f64 t.at_, .int .i64 t.times, .float .f64 t.base, .float .f64 t.most] 135)).kept hgrow (fun e => by have := (hlt' _ e.symm).1; omega) (fun e => by have := (hlt' _ e.symm).1; omega)
          have hz2 : w.heap.size + 1 ≤ w2.heap.size := by have := hgrow.size; simp at this; omega
          have hown2 : w2.ownsRow (w.heap.size + 1) 135 5 v' (dueF now (acc ++ [t])).length (rowC (dueF now (acc ++ [t]))) := by
            rw [dueF_yes now acc t HDd.out, List.length_append, rowC_append]
            exact hown'
          have HR2 := Lib.hid hrg'
          clear hown' hgrow hlt' hrow4 hrg' q5
          go_wp2_with fail
          go_roundw
          case rel => exact ⟨_, _, _, HR2.out, HS1, hown2, hB', hz2⟩
          case measure => rw [HR2.out.left_eq, HRg.out.left_eq]; exact HLx.out
      · rw [decide_eq_false hd] at hDu
        have HDu := Lib.hid hDu
        have HDd := Lib.hid hd
        clear hDu hd
        go_upto_region 5 with fail
        go_quiet ((go_at_call 74; exact Calls.quiet_of_same ((HDu.out _).mono fun e w' h => ⟨h.1, h.2.symm⟩)))
        obtain ⟨W4, hW4⟩ : ∃ W4, W4 = (w1.alloc (.cells #[.string t.key, .float .f64 t.at_, .int .i64 t.times, .float .f64 t.base, .float .f64 t.most] 135)).drewN nq := ⟨_, rfl⟩
        rw [← hW4]
        have hgA : w1.grownBy W4 none := by
          have h := World.grownBy_alloc w1 (.cells #[.string t.key, .float .f64 t.at_, .int .i64 t.times, .float .f64 t.base, .float .f64 t.most] 135) none
          subst hW4
          exact ⟨h.os, h.tape, h.output, h.size, h.block⟩
        have hz4 : w1.heap.size + 1 ≤ W4.heap.size := by subst hW4; simp [World.drewN]
        have q5 : ∀ i, W4.cell? ⟨w1.heap.size, i, none⟩ = #[.string t.key, .float .f64 t.at_, .int .i64 t.times, .float .f64 t.base, .float .f64 t.most][i]? := by
          subst hW4
          exact (Blk.fresh w1 _ _ _ rfl).cell
        have hrow4 := hrow1.kept hgA (by cases u3.ownBlock <;> simp)
        have HR4 := Lib.hid (HRx.out.kept hgA (by simp) (by simp))
        have HB4 := Lib.hid (hB1.grown hgA hB1.size (fun k hk => by cases hk))
        clear hW4 hgA hrow hrow1 hrg q0 hB1
        have hown2 : W4.ownsRow (w.heap.size + 1) 135 5 u3 (dueF now (acc ++ [t])).length (rowC (dueF now (acc ++ [t]))) := by
          rw [dueF_no now acc t HDd.out]; exact hrow4
        clear hrow4
        go_wp2_with fail
        go_roundw
        case rel => exact ⟨_, _, _, HR4.out, HS1, hown2, HB4.out, by omega⟩
        case measure => rw [HR4.out.left_eq, HRg.out.left_eq]; exact HLx.out
end Go.Proofs.YtkidljiffeonjaaDoor
