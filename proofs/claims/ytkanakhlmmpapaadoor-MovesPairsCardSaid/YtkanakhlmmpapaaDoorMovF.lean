/- A pair in memory: putting a kind behind the others, taking one out, the copy. -/
import Derived.Test.YtkanakhlmmpapaaDoorRows
import Derived.WalkKit
import Derived.WalkSpells
import Derived.WalkLawsBesides
import Derived.BigQuiet
import Derived.Deep.QuietTactic
import Derived.StillTailTactics
import Derived.Handy
import Derived.Lib.Hide
import Derived.Test.YtkanakhlmmpapaaDoorMovE
import Derived.Lib.SlicesDelete
import Derived.Deep.RegionLaw
import Derived.Deep.AppendLies
set_option linter.unusedSimpArgs false
set_option linter.unusedVariables false
namespace Go.Proofs.YtkanakhlmmpapaaDoor
open Go.RowKit

theorem infoFly : (Tryd.prog.info? 68).map (fun i => (i.zero, i.size, i.bytes)) = some (some (.agg #[.int .i64 0, .int .i64 0]), 2, 16) := by kernel_rfl
theorem two_new (w : World) (x y : Value) (t : TypeId) : ∀ j u, [x, y][j]? = some u → (w.alloc (.cells #[x, y] t)).cell? ((⟨w.heap.size, 0, none⟩ : Addr).add j) = some u := by
  intro j u hj
  match j, hj with
  | 0, hj => simp at hj; subst hj; simp [Addr.add]
  | 1, hj => simp at hj; subst hj; simp [Addr.add]
theorem two_cells (x y : Int) : ∀ u ∈ [Value.int .i64 x, Value.int .i64 y], u.oneCell' = true := by
  intro u hu
  simp at hu
  rcases hu with rfl | rfl <;> rfl
theorem own_slice {w : World} {B : Nat} {e : TypeId} {size : Nat} {v : Value} {n : Nat} {xs : List Value} (h : w.ownsRow B e size v n xs) : ∃ a cap, v = .slice a n cap := by
  rcases h.2 with ⟨rfl, rfl⟩ | ⟨g, cap, cur, rfl, _⟩
  · exact ⟨_, _, rfl⟩
  · exact ⟨_, _, rfl⟩
/-- the block's own slice is another one -/
theorem PairIn.swap {B g : Nat} {v v' : Value} {P : MPair} {w w' : World} (h : PairIn B g v P w) (fl : List (Int × Int)) (hg : w.grownBy w' v.ownBlock) (ho : w'.ownsRow B 68 2 v' fl.length (flV fl)) (hne : v'.ownBlock ≠ some g) :
    PairIn B g v' ⟨P.c, P.x, fl⟩ (w'.setCell ⟨g, 8, none⟩ v') := by
  have hb : Blk w' g (pairCells P.c P.x v) := h.blk.heap hg.size (hg.block g h.blk.lt (fun e => h.apart e.symm))
  exact ⟨h.base, hb.set 8 (by simp) v', own_setCell ho hne _ _, hne⟩

set_option maxRecDepth 100000 in
set_option maxHeartbeats 2000000 in
theorem put_of (B g : Nat) (v : Value) (P : MPair) (d k : Int) (w : World) (h : PairIn B g v P w) (hl : P.fl.length ≤ 1000) (hd : d = 1 ∨ d = 2) (hB : B ≤ w.heap.size) :
    Calls Tryd.prog 37 #[.pointer (some ⟨g, 0, none⟩), .int .i64 d, .int .i64 k] w fun e w' => e = .returned (.tuple #[]) ∧ PairGoes B g v (P.put d k) w w' := by
  by_cases hk : k = 0
  · subst hk
    have hp : P.put d 0 = P := by unfold MPair.put; rw [if_pos rfl]
    rw [hp]
    have H := Lib.hid h; clear h hp
    go_enter Tryd.func37, Tryd.ntmps37
    go_wp2
    exact bodyPost_end (results_none rfl _ _ _) rfl ⟨rfl, v, H.out, Beside.of_below (Below.refl _ _) g v, .inl rfl⟩
  · have hp : P.put d k = ⟨P.c, P.x, P.fl ++ [(3 - d, k)]⟩ := by unfold MPair.put; rw [if_neg hk]
    rw [hp]
    have hk' : (k != 0) = true := by simpa using hk
    have a8 : w.cell? ⟨g, 8, none⟩ = some v := h.blk.cell 8
    have hlt := h.blk.lt
    have H := Lib.hid h
    have hown := h.own
    have hap := h.apart
    obtain ⟨i0, ei, ez, es, eb⟩ := info_parts infoFly
    clear h hp hk
    go_enter Tryd.func37, Tryd.ntmps37
    rcases hd with rfl | rfl
    · go_wp2_with (at_builtin; go_loud (refine wpList_append_own_at _ rfl _ _ 40 rfl B 68 i0 (.agg #[.int .i64 0, .int .i64 0]) 2 16 Tryd.underlying40 ei ez es eb rfl (by decide) _ _ _ rfl (hown.alloc _) ⟨w.heap.size, 0, none⟩ 1 1 [.int .i64 2, .int .i64 k] rfl rfl (two_new _ _ _ _) (two_cells _ _) ?c3 ?c4 ?c5 ?_))
      case c3 => unfold maxLen; omega
      case c4 => omega
      case c5 => simp; omega
      · intro v' w1 hown1 hgrow _ hat
        have hz := hgrow.size
        simp only [World.size_alloc] at hz
        have b8 : w1.cell? ⟨g, 8, none⟩ = some v := (hgrow.cell_far ⟨g, 8, none⟩ (by simp; omega) (fun e => hap e.symm)).trans (((H.out.blk.alloc _).cell 8))
        have bf : w1.frozen? ⟨g, 8, none⟩ = false := (hgrow.frozen_far ⟨g, 8, none⟩ (by simp; omega) (fun e => hap e.symm)).trans ((H.out.blk.alloc _).free 8)
        have hne : v'.ownBlock ≠ some g := by
          rcases hat with e | e
          · rw [e]; exact hap
          · rw [e]; intro e'; injection e' with e'; omega
        have hfr : FreshOr w v v' := by
          rcases hat with e | e
          · exact .inl e
          · exact .inr ⟨w.heap.size + 1, by omega, e⟩
        have HP := Lib.hid ((H.out.rel ((Below.refl _ _).alloc (Nat.le_refl _) _)).swap (P.fl ++ [(2, k)]) hgrow (by rw [flV_append, List.length_append]; exact hown1) hne)
        have HB := Lib.hid ((Beside.of_below ((Below.refl w.heap.size w).alloc (Nat.le_refl _) (.cells #[.int .i64 2, .int .i64 k] 68)) g v).trans ⟨hgrow.os, hgrow.tape, hgrow.output, hgrow.size, fun k hk _ hr => hgrow.block k hk (fun e => hr e.symm)⟩ (.inl rfl))
        have HF := Lib.hid hfr
        obtain ⟨a', cap', rfl⟩ := own_slice hown1
        clear hown1 hgrow hat hown hfr
        go_wp2
        exact bodyPost_end (results_none rfl _ _ _) rfl ⟨rfl, _, HP.out, HB.out.setCell 8 _, HF.out⟩
    · go_wp2_with (at_builtin; go_loud (refine wpList_append_own_at _ rfl _ _ 40 rfl B 68 i0 (.agg #[.int .i64 0, .int .i64 0]) 2 16 Tryd.underlying40 ei ez es eb rfl (by decide) _ _ _ rfl (hown.alloc _) ⟨w.heap.size, 0, none⟩ 1 1 [.int .i64 1, .int .i64 k] rfl rfl (two_new _ _ _ _) (two_cells _ _) ?c3 ?c4 ?c5 ?_))
      case c3 => unfold maxLen; omega
      case c4 => omega
      case c5 => simp; omega
      · intro v' w1 hown1 hgrow _ hat
        have hz := hgrow.size
        simp only [World.size_alloc] at hz
        have b8 : w1.cell? ⟨g, 8, none⟩ = some v := (hgrow.cell_far ⟨g, 8, none⟩ (by simp; omega) (fun e => hap e.symm)).trans (((H.out.blk.alloc _).cell 8))
        have bf : w1.frozen? ⟨g, 8, none⟩ = false := (hgrow.frozen_far ⟨g, 8, none⟩ (by simp; omega) (fun e => hap e.symm)).trans ((H.out.blk.alloc _).free 8)
        have hne : v'.ownBlock ≠ some g := by
          rcases hat with e | e
          · rw [e]; exact hap
          · rw [e]; intro e'; injection e' with e'; omega
        have hfr : FreshOr w v v' := by
          rcases hat with e | e
          · exact .inl e
          · exact .inr ⟨w.heap.size + 1, by omega, e⟩
        have HP := Lib.hid ((H.out.rel ((Below.refl _ _).alloc (Nat.le_refl _) _)).swap (P.fl ++ [(1, k)]) hgrow (by rw [flV_append, List.length_append]; exact hown1) hne)
        have HB := Lib.hid ((Beside.of_below ((Below.refl w.heap.size w).alloc (Nat.le_refl _) (.cells #[.int .i64 1, .int .i64 k] 68)) g v).trans ⟨hgrow.os, hgrow.tape, hgrow.output, hgrow.size, fun k hk _ hr => hgrow.block k hk (fun e => hr e.symm)⟩ (.inl rfl))
        have HF := Lib.hid hfr
        obtain ⟨a', cap', rfl⟩ := own_slice hown1
        clear hown1 hgrow hat hown hfr
        go_wp2
        exact bodyPost_end (results_none rfl _ _ _) rfl ⟨rfl, _, HP.out, HB.out.setCell 8 _, HF.out⟩
end Go.Proofs.YtkanakhlmmpapaaDoor
