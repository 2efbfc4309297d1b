/- The clock's Next. -/
import Derived.Test.YtkidljiffeonjaaDoorRows
import Derived.WalkKit
import Derived.WalkSpells
import Derived.WalkLawsBesides
import Derived.BigQuiet
import Derived.Deep.QuietTactic
import Derived.StillTailTactics
import Derived.Handy
import Derived.Lib.Hide
import Derived.Test.YtkidljiffeonjaaDoorTimH
import Derived.Deep.AppendLies
set_option linter.unusedSimpArgs false
set_option linter.unusedVariables false
namespace Go.Proofs.YtkidljiffeonjaaDoor
open Go.RowKit Go.Maps
attribute [local go_sem] store_float

theorem infoF64 : (Tryd.prog.info? 22).map (fun i => (i.zero, i.size, i.bytes)) = some (some (.float .f64 0), 1, 8) := by kernel_rfl
abbrev fls (l : List MTimer) : List Value := l.map fun t => .float .f64 t.at_
theorem grownBy_to {c b now : Nat} {L : List MTimer} {w w' : World} {row : Option Nat} (h : ClockAt c b now L w) (hg : w.grownBy w' row) (hb : row ≠ some b) (hc : row ≠ some c) : ClockAt c b now L w' := by
  obtain ⟨D, h1, h2⟩ := h.ex
  have hc2 := hg.block c h2.blk.lt (fun e => hc e.symm)
  exact ⟨⟨D, h1, ⟨Nat.lt_of_lt_of_le h2.blk.lt hg.size, fun i => (World.cell?_of_block (a := ⟨c, i, none⟩) hc2).trans (h2.blk.cell i), fun i => (World.frozen?_of_block (a := ⟨c, i, none⟩) hc2).trans (h2.blk.free i)⟩, h2.own.kept hg (fun e => hb e.symm), h2.top, h2.ne⟩, h.good⟩
theorem own_slice {w : World} {B : Nat} {e : TypeId} {size : Nat} {v : Value} {n : Nat} {xs : List Value} (h : w.ownsRow B e size v n xs) : ∃ a cap, v = .slice a n cap := by
  rcases h.2 with ⟨rfl, rfl⟩ | ⟨g, cap, cur, rfl, _⟩
  · exact ⟨_, _, rfl⟩
  · exact ⟨_, _, rfl⟩
theorem fl_own {w : World} {B : Nat} {v : Value} {acc : List MTimer} (h : w.ownsRow B 22 1 v acc.length (fls acc)) : FloatRow w v (acc.map (·.at_)) := by
  rcases h.2 with ⟨rfl, hn⟩ | ⟨g, cap, cur, rfl, _⟩
  · have := List.length_eq_zero_iff.1 hn
    subst this
    exact ⟨none, 0, rfl, fun j hj => by simp at hj⟩
  · refine ⟨_, cap, by simp, fun j hj => ⟨g, 0, rfl, ?_⟩⟩
    rw [Nat.zero_add, h.cellAt j (by simpa using hj)]
    have hj' : j < acc.length := by simpa using hj
    simp [hj']
set_option maxRecDepth 100000 in
set_option maxHeartbeats 4000000 in
theorem next_of (c b now : Nat) (L : List MTimer) (w : World) (h : ClockAt c b now L w) (hl : L.length ≤ 64) :
    Calls Tryd.prog 38 #[.pointer (some ⟨c, 0, none⟩)] w (Makes (.tuple #[.float .f64 (if L = [] then 0 else fminP (L.map (·.at_))), .bool (!decide (L = []))]) w) := by
  obtain ⟨D, hD, hC⟩ := h.ex
  have h1 : w.cell? ⟨c, 1, none⟩ = some (.map (some b)) := hC.blk.cell 1
  have hown := hC.own
  have HG := Lib.hid h.good
  have HD := Lib.hid hD
  have hbl := hC.own.lt
  clear h hC hD
  obtain ⟨z, hz⟩ : ∃ z, z = (if L = [] then 0 else fminP (L.map (·.at_))) := ⟨_, rfl⟩
  obtain ⟨bb, hbb⟩ : ∃ bb, bb = (!decide (L = [])) := ⟨_, rfl⟩
  rw [← hz, ← hbb]
  have HZ := Lib.hid hz; have HBb := Lib.hid hbb
  clear hz hbb
  obtain ⟨i0, ei, ez, es, eb⟩ := info_parts infoF64
  go_enter Tryd.func38, Tryd.ntmps38
  go_wp2_with (at_range; refine wpList_range_own _ rfl _ 131 rfl 9 135 (string_keyed Tryd.underlying9) Tryd.underlying131 _ b L.length D rfl hown ?_; intro w0 hrg0 hg0 hs0)
  have HB0 : Below w.heap.size w w0 := ⟨hg0.os, hg0.tape, hg0.output, hg0.size, fun k hk => hg0.block k hk (by simp)⟩
  go_frame
  go_loopw [4] (fun v wr => ∃ (left : Lit → Bool) (ct : Nat) (acc : List MTimer), wr.ranges Tryd.prog 9 timR b w.heap.size L.length D left ct ∧ Hid (Seen L acc left) ∧ wr.ownsRow (w.heap.size + 1) 22 1 v acc.length (fls acc) ∧ Below w.heap.size w wr ∧ w.heap.size + 1 ≤ wr.heap.size) (fun _ wr => wr.rangeLeft b w.heap.size)
  case atStart => exact ⟨_, _, [], hrg0, Lib.hid (Seen.start HD.out), World.ownsRow_nil _ _ _ _, HB0, by omega⟩
  case round =>
    obtain ⟨left, ct, acc, hrg, HS, hrow, hB, hz⟩ := hrel
    have hle := HS.out.le
    have HRg := Lib.hid hrg
    go_wp2_with (at_next; go_loud (refine wpList_next_timers rfl _ rfl b w.heap.size L.length D L acc left ct rfl HD.out HS.out hrg ?_ ?_))
    · intro hperm
      have HP := Lib.hid hperm
      clear hperm
      by_cases hL : L = []
      · have h0 : acc.length = 0 := by have := HP.out.length_eq; rw [hL] at this; simpa using this
        obtain rfl : z = 0 := by rw [HZ.out, if_pos hL]
        obtain rfl : bb = false := by rw [HBb.out]; simp [hL]
        rw [h0] at hrow
        obtain ⟨a, cap, rfl⟩ := own_slice hrow
        go_wp2_with fail
        go_ret2
        exact ⟨by first | rfl | trivial, hB⟩
      · have h0 : 0 < acc.length := by
          have := HP.out.length_eq
          have h2 : 0 < L.length := List.length_pos_iff.2 hL
          omega
        have hz : z = fminP (L.map (·.at_)) := by rw [HZ.out, if_neg hL]
        obtain rfl : bb = true := by rw [HBb.out]; simp [hL]
        have HLst := Lib.hid (fun W (hW : FloatRow W u4 (acc.map (·.at_))) => least_of u4 (acc.map (·.at_)) W hW (fun x hx => by
          obtain ⟨t, ht, rfl⟩ := List.mem_map.1 hx
          exact (HG.out t (HS.out.sub t ht)).at_) (by simp; omega))
        rw [fminP_perm (HP.out.map (·.at_)), ← hz] at HLst
        have HFR := Lib.hid (fl_own hrow)
        have HRow := Lib.hid hrow
        obtain ⟨a, cap, rfl⟩ := own_slice hrow
        have h0' : (acc.length : Int) ≠ 0 := by omega
        clear hrow hrg
        generalize acc.length = m at *
        go_wp2_with fail
        refine (HLst.out _ HFR.out).mono ?_; rintro e w2 ⟨rfl, rfl⟩
        go_wp2_with fail
        go_ret2
        exact ⟨by first | (rw [hz]; rfl) | rfl, hB⟩
    · intro t w1 left1 ct1 hmem hnew hS1 hrg1 hlt1 hg1 hen
      have HRx := Lib.hid hrg1; have HLx := Lib.hid hlt1; have HS1 := Lib.hid hS1; have HGx := Lib.hid hg1
      have hne : u4.ownBlock ≠ some w.heap.size := fun e => by have := (hrow.lt _ e).1; omega
      have hrow1 := hrow.kept hg1 (.inr hne)
      have hsz := hg1.size
      clear hmem hnew hS1 hrg1 hlt1 hg1
      go_wp2_with (at_builtin; go_loud (refine wpList_append_own _ rfl _ _ 69 rfl (w.heap.size + 1) 22 i0 (.float .f64 0) 1 8 Tryd.underlying69 ei ez es eb rfl (by decide) _ _ _ rfl ((hrow1.alloc _).alloc _) ⟨w1.heap.size + 1, 0, none⟩ 1 1 [.float .f64 t.at_] rfl rfl ?c1 ?c2 ?c3 ?c4 ?c5 ?_))
      case c1 =>
        intro j u hj
        match j, hj with
        | 0, hj => simp at hj; subst hj; simp [Addr.add]
      case c2 => intro u hu; simp at hu; subst hu; rfl
      case c3 => unfold maxLen; omega
      case c4 => omega
      case c5 => simp; omega
      · intro v' w2 hown' hgrow _
        have hlt' := hrow1.lt
        have hB' : Below w.heap.size w w2 := (((hB.grown HGx.out hB.size (fun k hk => by cases hk; omega)).alloc (by omega) _).alloc (by simp; omega) _).grown hgrow (by simp; omega) (fun k hk => by have := (hlt' k hk).1; omega)
        have hrg' := ((HRx.out.alloc (.cells #[.string t.key, .float .f64 t.at_, .int .i64 t.times, .float .f64 t.base, .float .f64 t.most] 135)).alloc (.cells #[.float .f64 t.at_] 22)).kept hgrow (fun e => by have := (hlt' _ e.symm).1; omega) (fun e => by have := (hlt' _ e.symm).1; omega)
        have hz2 : w.heap.size + 1 ≤ w2.heap.size := by have := hgrow.size; simp at this; omega
        have hown2 : w2.ownsRow (w.heap.size + 1) 22 1 v' (acc ++ [t]).length (fls (acc ++ [t])) := by
          rw [List.length_append, fls, List.map_append]
          exact hown'
        have HR2 := Lib.hid hrg'
        clear hown' hgrow hlt' hrow hrow1 hrg' hrg
        go_wp2_with fail
        go_roundw
        case rel => exact ⟨_, _, _, HR2.out, HS1, hown2, hB', hz2⟩
        case measure => rw [HR2.out.left_eq, HRg.out.left_eq]; exact HLx.out
end Go.Proofs.YtkidljiffeonjaaDoor
