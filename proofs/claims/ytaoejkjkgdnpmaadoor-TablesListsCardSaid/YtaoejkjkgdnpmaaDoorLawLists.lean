/- TablesLists, walked. -/
import Derived.Test.YtaoejkjkgdnpmaaDoorRows
import Derived.WalkKit
import Derived.WalkSpells
import Derived.WalkLawsBesides
import Derived.BigQuiet
import Derived.Deep.QuietTactic
import Derived.StillTailTactics
import Derived.Handy
import Derived.Lib.Hide
import Derived.Test.YtaoejkjkgdnpmaaDoorTabN
import Derived.Test.YtaoejkjkgdnpmaaDoorLawTab
import Derived.Test.YtaoejkjkgdnpmaaDoorLawMeet
import Derived.Maps.AppendAt
set_option linter.unusedSimpArgs false
set_option linter.unusedVariables false
namespace Go.Proofs.YtaoejkjkgdnpmaaDoor
open Go.RowKit

/-- three lists of the call's own, each in a row of its own -/
def Own3 (B : Nat) (v1 : Value) (xs1 : List Int) (v2 : Value) (xs2 : List Int) (v3 : Value) (xs3 : List Int) (w : World) : Prop :=
  OwnI B v1 xs1 w ∧ OwnI B v2 xs2 w ∧ OwnI B v3 xs3 w ∧ v1.ownBlock ≠ v2.ownBlock ∧ v1.ownBlock ≠ v3.ownBlock ∧ v2.ownBlock ≠ v3.ownBlock
theorem Own3.rot {B : Nat} {v1 v2 v3 : Value} {xs1 xs2 xs3 : List Int} {w : World} (h : Own3 B v1 xs1 v2 xs2 v3 xs3 w) : Own3 B v2 xs2 v3 xs3 v1 xs1 w :=
  ⟨h.2.1, h.2.2.1, h.1, h.2.2.2.2.2, Ne.symm h.2.2.2.1, Ne.symm h.2.2.2.2.1⟩
theorem OwnI.row {B : Nat} {v : Value} {xs : List Int} {w : World} (h : OwnI B v xs w) : w.ownsRow B 3 1 v xs.length (xs.map (Value.int .i64)) := h
theorem Own3.app {B : Nat} {v1 v2 v3 v' : Value} {xs1 xs2 xs3 : List Int} {n : Int} {w w' : World} {o : Obj} (h : Own3 B v1 xs1 v2 xs2 v3 xs3 w)
    (hown : w'.ownsRow B 3 1 v' (xs1.length + 1) (xs1.map (Value.int .i64) ++ [.int .i64 n])) (hg : (w.alloc o).grownBy w' v1.ownBlock)
    (hb : v'.ownBlock = v1.ownBlock ∨ v'.ownBlock = some (w.alloc o).heap.size) : Own3 B v' (xs1 ++ [n]) v2 xs2 v3 xs3 w' := by
  rw [World.size_alloc] at hb
  have n2 : v'.ownBlock ≠ v2.ownBlock := by
    rcases hb with hb | hb
    · rw [hb]; exact h.2.2.2.1
    · rw [hb]; intro e
      have := (h.2.1.row.lt _ e.symm).2
      omega
  have n3 : v'.ownBlock ≠ v3.ownBlock := by
    rcases hb with hb | hb
    · rw [hb]; exact h.2.2.2.2.1
    · rw [hb]; intro e
      have := (h.2.2.1.row.lt _ e.symm).2
      omega
  refine ⟨?_, ?_, ?_, n2, n3, h.2.2.2.2.2⟩
  · unfold OwnI; rw [List.length_append, List.map_append]; exact hown
  · exact (h.2.1.row.alloc o).kept hg (.inr (Ne.symm h.2.2.2.1))
  · exact (h.2.2.1.row.alloc o).kept hg (.inr (Ne.symm h.2.2.2.2.1))
theorem Own3.below {B : Nat} {v1 v2 v3 : Value} {xs1 xs2 xs3 : List Int} {w0 w w' : World} {o : Obj} (h : Own3 B v1 xs1 v2 xs2 v3 xs3 w) (hb : Below B w0 w) (hB : B ≤ w.heap.size) (hg : (w.alloc o).grownBy w' v1.ownBlock) : Below B w0 w' :=
  (hb.alloc hB o).grown hg (by simp; omega) (fun k hk => (h.1.row.lt k hk).1)
/-- the numbers below k that are so -/
def upk (f : Int → Bool) (k : Nat) : List Int := ((List.range (k - 1)).map fun i : Nat => (i : Int) + 1).filter f
theorem upk_succ (f : Int → Bool) (k : Nat) (hk : 1 ≤ k) : upk f (k + 1) = upk f k ++ (if f k then [(k : Int)] else []) := by
  obtain ⟨j, rfl⟩ : ∃ j, k = j + 1 := ⟨k - 1, by omega⟩
  unfold upk
  simp only [Nat.add_sub_cancel, List.range_succ, List.map_append, List.filter_append, List.map_cons, List.map_nil]
  congr 1
  by_cases h : f ((j : Int) + 1) = true
  · simp [h]
  · simp [h]
theorem upk_yes {f : Int → Bool} {k : Nat} (hk : 1 ≤ k) (h : f k = true) : upk f (k + 1) = upk f k ++ [(k : Int)] := by rw [upk_succ f k hk, if_pos h]
theorem upk_no {f : Int → Bool} {k : Nat} (hk : 1 ≤ k) (h : f k = false) : upk f (k + 1) = upk f k := by rw [upk_succ f k hk, if_neg (by simp [h]), List.append_nil]
theorem upk_le (f : Int → Bool) (k : Nat) (hk : k ≤ 20) : (upk f k).length ≤ 20 := by
  unfold upk
  have := List.length_filter_le f ((List.range (k - 1)).map fun i : Nat => (i : Int) + 1)
  simp at this; omega

theorem one_new (w : World) (x : Value) (T : TypeId) : ∀ j u, [x][j]? = some u → (w.alloc (.cells #[x] T)).cell? ((⟨w.heap.size, 0, none⟩ : Addr).add j) = some u := by
  intro j u hj
  match j, hj with
  | 0, hj => simp at hj; subst hj; simp [Addr.add]
theorem one_cell (n : Int) : ∀ u ∈ [Value.int .i64 n], u.oneCell' = true := by
  intro u hu; simp only [List.mem_singleton] at hu; subst hu; rfl
theorem size_le {B : Nat} {w : World} {o : Obj} (h : B ≤ w.heap.size) : B ≤ (w.alloc o).heap.size := by simp; omega
theorem room {n : Nat} (h : n ≤ 20) : n + 1 ≤ maxLen ∧ (n + 1) * 8 ≤ 140737488355328 := by unfold maxLen; omega
theorem size_grown {B : Nat} {w w' : World} {o : Obj} {row : Option Nat} (h : B ≤ w.heap.size) (hg : (w.alloc o).grownBy w' row) : B ≤ w'.heap.size := by
  have := hg.size; simp only [World.size_alloc] at this; omega
theorem row_ne {B sb : Nat} {v : Value} {xs : List Int} {w : World} (h : sb < B) (ho : OwnI B v xs w) : some sb ≠ v.ownBlock := by
  intro e
  have := (ho.row.lt _ e.symm).1
  omega
theorem own3_rows {B : Nat} {v1 v2 v3 : Value} {xs1 xs2 xs3 : List Int} {w : World} (h : Own3 B v1 xs1 v2 xs2 v3 xs3 w) :
    w.ownsRow B 3 1 v1 xs1.length (xs1.map (Value.int .i64)) ∧ w.ownsRow B 3 1 v2 xs2.length (xs2.map (Value.int .i64)) ∧ w.ownsRow B 3 1 v3 xs3.length (xs3.map (Value.int .i64)) := ⟨h.1, h.2.1, h.2.2.1⟩
theorem blk_grown {w w' : World} {b : Nat} {C : Array Value} {o : Obj} {row : Option Nat} (h : Blk w b C) (hg : (w.alloc o).grownBy w' row) (hne : some b ≠ row) : Blk w' b C := by
  have h' := h.alloc o
  have e := hg.block b h'.lt hne
  exact ⟨Nat.lt_of_lt_of_le h'.lt hg.size, fun i => (World.cell?_of_block (w := w.alloc o) (a := ⟨b, i, none⟩) e).trans (h'.cell i), fun i => (World.frozen?_of_block (w := w.alloc o) (a := ⟨b, i, none⟩) e).trans (h'.free i)⟩
/-- what a round of the law's loop keeps -/
def Round (B : Nat) (W : World) (sb : Nat) (p d : Int) (k : Nat) (x y z : Value) (w : World) : Prop :=
  Own3 B x (upk (rHas p d) k) y (upk (rTakes p d) k) z (upk (rSends p d) k) w ∧ Below B W w ∧ B ≤ w.heap.size ∧ Blk w sb #[.int .i64 p, .int .i64 d]

set_option maxRecDepth 100000 in
set_option maxHeartbeats 8000000 in
theorem law_lists_yes (p d : Int) (ea : Int → Addr) (w : World) (h : Errs ea w) (hsd : rSide p d = true) : Calls Tryd.prog 9 #[.agg #[.int .i64 p, .int .i64 d]] w (Makes (.bool true) w) := by
  have H := Lib.hid h; clear h
  have HS := Lib.hid hsd; clear hsd
  obtain ⟨i0, ei, ez, es, eb⟩ := info_parts infoInt
  go_enter Tryd.func9, Tryd.ntmps9
  go_wp2_with (first
    | (go_at_call 10; refine (alive10 ea _ (H.out.three.below (by go_grown))).mono ?_; rintro e w1 ⟨rfl, hb1⟩; have HK1 := Lib.hid ((Blk.fresh w _ _ _ rfl).below hb1); obtain ⟨q1, f1⟩ := HK1.out.out; have hz1 := hb1.size; simp only [World.size_alloc] at hz1; have B1 : Below w.heap.size w w1 := below_then (by go_grown) hb1)
    | (go_at_call 24; refine (states_yes p d _ HS.out).mono ?_; rintro e w2 ⟨v2, rfl, o2, hb2⟩; have R2 := Lib.hid o2.read; clear o2 q1 f1; have HK2 := Lib.hid (HK1.out.below hb2); obtain ⟨q1, f1⟩ := HK2.out.out; have B2 : Below w.heap.size w w2 := below_then B1 hb2)
    | (go_at_call 21; refine (takes_yes p d _ HS.out).mono ?_; rintro e w3 ⟨v3, rfl, o3, hb3⟩; have R3 := Lib.hid o3.read; clear o3 q1 f1; have HK3 := Lib.hid (HK2.out.below hb3); obtain ⟨q1, f1⟩ := HK3.out.out; have B3 : Below w.heap.size w w3 := below_then B2 hb3)
    | (go_at_call 20; refine (sends_yes p d _ HS.out).mono ?_; rintro e w4 ⟨v4, rfl, o4, hb4⟩; have R4 := Lib.hid o4.read; clear o4 q1 f1; have HK4 := Lib.hid (HK3.out.below hb4); obtain ⟨q1, f1⟩ := HK4.out.out; have B4 : Below w.heap.size w w4 := below_then B3 hb4)
    | (go_at_call 15; refine (right_any _ _ _).mono ?_; rw [HS.out]; rintro e w5 ⟨rfl, hb5⟩; clear q1 f1; have HK5 := Lib.hid (HK4.out.below hb5); have B5 : Below w.heap.size w w5 := below_then B4 hb5))
  have RA := Lib.hid (((R2.out.below hb3).below hb4).below hb5)
  have RB := Lib.hid ((R3.out.below hb4).below hb5)
  have RC := Lib.hid (R4.out.below hb5)
  clear R2 R3 R4 HK1 HK2 HK3 HK4 hb1 hb2 hb3 hb4 hb5 B1 B2 B3 B4 hz1
  have hz5 := B5.size
  have hsb5 := HK5.out.lt
  generalize hsb : w.heap.size = sb at *
  go_loopw [10, 11, 12, 13] (fun x y z i wr => ∃ k : Nat, 1 ≤ k ∧ k ≤ 20 ∧ i = .int .i64 k ∧ Round w5.heap.size w5 sb p d k x y z wr) (fun _ _ _ i _ => 20 - (intOf i).toNat)
  case atStart =>
    refine ⟨1, by omega, by omega, by go_num, ⟨?_, ?_, ?_, by simp only [Value.ownBlock]; intro e; have := Option.some.inj e; omega, by simp only [Value.ownBlock]; intro e; have := Option.some.inj e; omega, by simp only [Value.ownBlock]; intro e; have := Option.some.inj e; omega⟩, ?_, by simp; omega, ((HK5.out.alloc _).alloc _).alloc _⟩
    · have := World.ownsRow_lit (e := 3) (size := 1) (base := w5.heap.size) w5 #[] 0 (Nat.le_refl _) (by decide) rfl
      exact (this.alloc _).alloc _
    · have := World.ownsRow_lit (e := 3) (size := 1) (base := w5.heap.size) (w5.alloc (.cells #[] 3)) #[] 0 (by simp) (by decide) rfl
      simp only [World.size_alloc] at this
      exact this.alloc _
    · have := World.ownsRow_lit (e := 3) (size := 1) (base := w5.heap.size) ((w5.alloc (.cells #[] 3)).alloc (.cells #[] 3)) #[] 0 (by simp; omega) (by decide) rfl
      simp only [World.size_alloc] at this
      exact this
    · exact (((Below.refl _ _).alloc (Nat.le_refl _) _).alloc (by simp) _).alloc (by simp; omega) _
  case round =>
    obtain ⟨k, hk1, hk20, rfl, h3, hB, hwz, hK⟩ := hrel
    by_cases hlt : k ≤ 19
    · have l1 := upk_le (rHas p d) k hk20
      have l2 := upk_le (rTakes p d) k hk20
      have l3 := upk_le (rSends p d) k hk20
      have M1 := Lib.hid (room l1); have M2 := Lib.hid (room l2); have M3 := Lib.hid (room l3)
      clear l1 l2 l3
      obtain ⟨q0, f0⟩ := hK.out
      have HR := Lib.hid h3
      have HB := Lib.hid hB
      have HK := Lib.hid hK
      obtain ⟨hr1, hr2, hr3⟩ := own3_rows h3
      clear h3 hB hK
      obtain ⟨c1, hc1⟩ : ∃ c, rHas p d k = c := ⟨_, rfl⟩
      obtain ⟨c2, hc2⟩ : ∃ c, rTakes p d k = c := ⟨_, rfl⟩
      obtain ⟨c3, hc3⟩ : ∃ c, rSends p d k = c := ⟨_, rfl⟩
      have HC1 := Lib.hid hc1; have HC2 := Lib.hid hc2; have HC3 := Lib.hid hc3
      clear hc1 hc2 hc3
      cases c1 <;> cases c2 <;> cases c3
      · go_wp2_with (first
          | (go_at_call 16; refine (rhas_any _ _ _ _).mono ?_; rw [HC1.out]; rintro e w' ⟨rfl, rfl⟩)
          | (go_at_call 26; refine (rtakes_any _ _ _ _).mono ?_; rw [HC2.out]; rintro e w' ⟨rfl, rfl⟩)
          | (go_at_call 27; refine (rsends_any _ _ _ _).mono ?_; rw [HC3.out]; rintro e w' ⟨rfl, rfl⟩))
        go_roundw
        case rel => exact ⟨k + 1, by omega, by omega, by go_num, by rw [upk_no hk1 HC1.out, upk_no hk1 HC2.out, upk_no hk1 HC3.out]; exact HR.out, HB.out, hwz, HK.out⟩
        case measure => simp [intOf]; omega
      · go_wp2_with (first
          | (go_at_call 16; refine (rhas_any _ _ _ _).mono ?_; rw [HC1.out]; rintro e w' ⟨rfl, rfl⟩)
          | (go_at_call 26; refine (rtakes_any _ _ _ _).mono ?_; rw [HC2.out]; rintro e w' ⟨rfl, rfl⟩)
          | (go_at_call 27; refine (rsends_any _ _ _ _).mono ?_; rw [HC3.out]; rintro e w' ⟨rfl, rfl⟩)
          | (at_builtin; refine wpList_append_own_at _ rfl (.tmp 103) (.tmp 105) 44 rfl w5.heap.size 3 i0 (.int .i64 0) 1 8 Tryd.underlying44 ei ez es eb rfl (by decide) _ _ _ rfl (hr3.alloc _) ⟨wr.heap.size, 0, none⟩ 1 1 [.int .i64 (k : Int)] rfl rfl (one_new _ _ _) (one_cell _) (M3.out.1) (M3.out.2) (size_le hwz) ?_; intro x3 w13 ho3 hg3 _ hb3; have HR3 := Lib.hid (((HR.out.rot.rot).app ho3 hg3 hb3).rot); have HB3 := Lib.hid ((HR.out.rot.rot).below HB.out hwz hg3); have hwz3 := size_grown hwz hg3; have HK3 := Lib.hid (blk_grown HK.out hg3 (row_ne hsb5 (HR.out.rot.rot).1)); clear ho3 hg3 hb3 q0 f0 hr1 hr2 hr3; obtain ⟨q3, f3⟩ := HK3.out.out; obtain ⟨hr13, hr23, hr33⟩ := own3_rows HR3.out))
        go_roundw
        case rel => exact ⟨k + 1, by omega, by omega, by go_num, by rw [upk_no hk1 HC1.out, upk_no hk1 HC2.out, upk_yes hk1 HC3.out]; exact HR3.out, HB3.out, hwz3, HK3.out⟩
        case measure => simp [intOf]; omega
      · go_wp2_with (first
          | (go_at_call 16; refine (rhas_any _ _ _ _).mono ?_; rw [HC1.out]; rintro e w' ⟨rfl, rfl⟩)
          | (go_at_call 26; refine (rtakes_any _ _ _ _).mono ?_; rw [HC2.out]; rintro e w' ⟨rfl, rfl⟩)
          | (at_builtin; refine wpList_append_own_at _ rfl (.tmp 93) (.tmp 95) 44 rfl w5.heap.size 3 i0 (.int .i64 0) 1 8 Tryd.underlying44 ei ez es eb rfl (by decide) _ _ _ rfl (hr2.alloc _) ⟨wr.heap.size, 0, none⟩ 1 1 [.int .i64 (k : Int)] rfl rfl (one_new _ _ _) (one_cell _) (M2.out.1) (M2.out.2) (size_le hwz) ?_; intro x2 w12 ho2 hg2 _ hb2; have HR2 := Lib.hid (((HR.out.rot).app ho2 hg2 hb2).rot.rot); have HB2 := Lib.hid ((HR.out.rot).below HB.out hwz hg2); have hwz2 := size_grown hwz hg2; have HK2 := Lib.hid (blk_grown HK.out hg2 (row_ne hsb5 (HR.out.rot).1)); clear ho2 hg2 hb2 q0 f0 hr1 hr2 hr3; obtain ⟨q2, f2⟩ := HK2.out.out; obtain ⟨hr12, hr22, hr32⟩ := own3_rows HR2.out)
          | (go_at_call 27; refine (rsends_any _ _ _ _).mono ?_; rw [HC3.out]; rintro e w' ⟨rfl, rfl⟩))
        go_roundw
        case rel => exact ⟨k + 1, by omega, by omega, by go_num, by rw [upk_no hk1 HC1.out, upk_yes hk1 HC2.out, upk_no hk1 HC3.out]; exact HR2.out, HB2.out, hwz2, HK2.out⟩
        case measure => simp [intOf]; omega
      · go_wp2_with (first
          | (go_at_call 16; refine (rhas_any _ _ _ _).mono ?_; rw [HC1.out]; rintro e w' ⟨rfl, rfl⟩)
          | (go_at_call 26; refine (rtakes_any _ _ _ _).mono ?_; rw [HC2.out]; rintro e w' ⟨rfl, rfl⟩)
          | (at_builtin; refine wpList_append_own_at _ rfl (.tmp 93) (.tmp 95) 44 rfl w5.heap.size 3 i0 (.int .i64 0) 1 8 Tryd.underlying44 ei ez es eb rfl (by decide) _ _ _ rfl (hr2.alloc _) ⟨wr.heap.size, 0, none⟩ 1 1 [.int .i64 (k : Int)] rfl rfl (one_new _ _ _) (one_cell _) (M2.out.1) (M2.out.2) (size_le hwz) ?_; intro x2 w12 ho2 hg2 _ hb2; have HR2 := Lib.hid (((HR.out.rot).app ho2 hg2 hb2).rot.rot); have HB2 := Lib.hid ((HR.out.rot).below HB.out hwz hg2); have hwz2 := size_grown hwz hg2; have HK2 := Lib.hid (blk_grown HK.out hg2 (row_ne hsb5 (HR.out.rot).1)); clear ho2 hg2 hb2 q0 f0 hr1 hr2 hr3; obtain ⟨q2, f2⟩ := HK2.out.out; obtain ⟨hr12, hr22, hr32⟩ := own3_rows HR2.out)
          | (go_at_call 27; refine (rsends_any _ _ _ _).mono ?_; rw [HC3.out]; rintro e w' ⟨rfl, rfl⟩)
          | (at_builtin; refine wpList_append_own_at _ rfl (.tmp 103) (.tmp 105) 44 rfl w5.heap.size 3 i0 (.int .i64 0) 1 8 Tryd.underlying44 ei ez es eb rfl (by decide) _ _ _ rfl (hr32.alloc _) ⟨w12.heap.size, 0, none⟩ 1 1 [.int .i64 (k : Int)] rfl rfl (one_new _ _ _) (one_cell _) (M3.out.1) (M3.out.2) (size_le hwz2) ?_; intro x3 w13 ho3 hg3 _ hb3; have HR23 := Lib.hid (((HR2.out.rot.rot).app ho3 hg3 hb3).rot); have HB23 := Lib.hid ((HR2.out.rot.rot).below HB2.out hwz2 hg3); have hwz23 := size_grown hwz2 hg3; have HK23 := Lib.hid (blk_grown HK2.out hg3 (row_ne hsb5 (HR2.out.rot.rot).1)); clear ho3 hg3 hb3 q2 f2 hr12 hr22 hr32; obtain ⟨q23, f23⟩ := HK23.out.out; obtain ⟨hr123, hr223, hr323⟩ := own3_rows HR23.out))
        go_roundw
        case rel => exact ⟨k + 1, by omega, by omega, by go_num, by rw [upk_no hk1 HC1.out, upk_yes hk1 HC2.out, upk_yes hk1 HC3.out]; exact HR23.out, HB23.out, hwz23, HK23.out⟩
        case measure => simp [intOf]; omega
      · go_wp2_with (first
          | (go_at_call 16; refine (rhas_any _ _ _ _).mono ?_; rw [HC1.out]; rintro e w' ⟨rfl, rfl⟩)
          | (at_builtin; refine wpList_append_own_at _ rfl (.tmp 83) (.tmp 85) 44 rfl w5.heap.size 3 i0 (.int .i64 0) 1 8 Tryd.underlying44 ei ez es eb rfl (by decide) _ _ _ rfl (hr1.alloc _) ⟨wr.heap.size, 0, none⟩ 1 1 [.int .i64 (k : Int)] rfl rfl (one_new _ _ _) (one_cell _) (M1.out.1) (M1.out.2) (size_le hwz) ?_; intro x1 w11 ho1 hg1 _ hb1; have HR1 := Lib.hid (((HR.out).app ho1 hg1 hb1)); have HB1 := Lib.hid ((HR.out).below HB.out hwz hg1); have hwz1 := size_grown hwz hg1; have HK1 := Lib.hid (blk_grown HK.out hg1 (row_ne hsb5 (HR.out).1)); clear ho1 hg1 hb1 q0 f0 hr1 hr2 hr3; obtain ⟨q1, f1⟩ := HK1.out.out; obtain ⟨hr11, hr21, hr31⟩ := own3_rows HR1.out)
          | (go_at_call 26; refine (rtakes_any _ _ _ _).mono ?_; rw [HC2.out]; rintro e w' ⟨rfl, rfl⟩)
          | (go_at_call 27; refine (rsends_any _ _ _ _).mono ?_; rw [HC3.out]; rintro e w' ⟨rfl, rfl⟩))
        go_roundw
        case rel => exact ⟨k + 1, by omega, by omega, by go_num, by rw [upk_yes hk1 HC1.out, upk_no hk1 HC2.out, upk_no hk1 HC3.out]; exact HR1.out, HB1.out, hwz1, HK1.out⟩
        case measure => simp [intOf]; omega
      · go_wp2_with (first
          | (go_at_call 16; refine (rhas_any _ _ _ _).mono ?_; rw [HC1.out]; rintro e w' ⟨rfl, rfl⟩)
          | (at_builtin; refine wpList_append_own_at _ rfl (.tmp 83) (.tmp 85) 44 rfl w5.heap.size 3 i0 (.int .i64 0) 1 8 Tryd.underlying44 ei ez es eb rfl (by decide) _ _ _ rfl (hr1.alloc _) ⟨wr.heap.size, 0, none⟩ 1 1 [.int .i64 (k : Int)] rfl rfl (one_new _ _ _) (one_cell _) (M1.out.1) (M1.out.2) (size_le hwz) ?_; intro x1 w11 ho1 hg1 _ hb1; have HR1 := Lib.hid (((HR.out).app ho1 hg1 hb1)); have HB1 := Lib.hid ((HR.out).below HB.out hwz hg1); have hwz1 := size_grown hwz hg1; have HK1 := Lib.hid (blk_grown HK.out hg1 (row_ne hsb5 (HR.out).1)); clear ho1 hg1 hb1 q0 f0 hr1 hr2 hr3; obtain ⟨q1, f1⟩ := HK1.out.out; obtain ⟨hr11, hr21, hr31⟩ := own3_rows HR1.out)
          | (go_at_call 26; refine (rtakes_any _ _ _ _).mono ?_; rw [HC2.out]; rintro e w' ⟨rfl, rfl⟩)
          | (go_at_call 27; refine (rsends_any _ _ _ _).mono ?_; rw [HC3.out]; rintro e w' ⟨rfl, rfl⟩)
          | (at_builtin; refine wpList_append_own_at _ rfl (.tmp 103) (.tmp 105) 44 rfl w5.heap.size 3 i0 (.int .i64 0) 1 8 Tryd.underlying44 ei ez es eb rfl (by decide) _ _ _ rfl (hr31.alloc _) ⟨w11.heap.size, 0, none⟩ 1 1 [.int .i64 (k : Int)] rfl rfl (one_new _ _ _) (one_cell _) (M3.out.1) (M3.out.2) (size_le hwz1) ?_; intro x3 w13 ho3 hg3 _ hb3; have HR13 := Lib.hid (((HR1.out.rot.rot).app ho3 hg3 hb3).rot); have HB13 := Lib.hid ((HR1.out.rot.rot).below HB1.out hwz1 hg3); have hwz13 := size_grown hwz1 hg3; have HK13 := Lib.hid (blk_grown HK1.out hg3 (row_ne hsb5 (HR1.out.rot.rot).1)); clear ho3 hg3 hb3 q1 f1 hr11 hr21 hr31; obtain ⟨q13, f13⟩ := HK13.out.out; obtain ⟨hr113, hr213, hr313⟩ := own3_rows HR13.out))
        go_roundw
        case rel => exact ⟨k + 1, by omega, by omega, by go_num, by rw [upk_yes hk1 HC1.out, upk_no hk1 HC2.out, upk_yes hk1 HC3.out]; exact HR13.out, HB13.out, hwz13, HK13.out⟩
        case measure => simp [intOf]; omega
      · go_wp2_with (first
          | (go_at_call 16; refine (rhas_any _ _ _ _).mono ?_; rw [HC1.out]; rintro e w' ⟨rfl, rfl⟩)
          | (at_builtin; refine wpList_append_own_at _ rfl (.tmp 83) (.tmp 85) 44 rfl w5.heap.size 3 i0 (.int .i64 0) 1 8 Tryd.underlying44 ei ez es eb rfl (by decide) _ _ _ rfl (hr1.alloc _) ⟨wr.heap.size, 0, none⟩ 1 1 [.int .i64 (k : Int)] rfl rfl (one_new _ _ _) (one_cell _) (M1.out.1) (M1.out.2) (size_le hwz) ?_; intro x1 w11 ho1 hg1 _ hb1; have HR1 := Lib.hid (((HR.out).app ho1 hg1 hb1)); have HB1 := Lib.hid ((HR.out).below HB.out hwz hg1); have hwz1 := size_grown hwz hg1; have HK1 := Lib.hid (blk_grown HK.out hg1 (row_ne hsb5 (HR.out).1)); clear ho1 hg1 hb1 q0 f0 hr1 hr2 hr3; obtain ⟨q1, f1⟩ := HK1.out.out; obtain ⟨hr11, hr21, hr31⟩ := own3_rows HR1.out)
          | (go_at_call 26; refine (rtakes_any _ _ _ _).mono ?_; rw [HC2.out]; rintro e w' ⟨rfl, rfl⟩)
          | (at_builtin; refine wpList_append_own_at _ rfl (.tmp 93) (.tmp 95) 44 rfl w5.heap.size 3 i0 (.int .i64 0) 1 8 Tryd.underlying44 ei ez es eb rfl (by decide) _ _ _ rfl (hr21.alloc _) ⟨w11.heap.size, 0, none⟩ 1 1 [.int .i64 (k : Int)] rfl rfl (one_new _ _ _) (one_cell _) (M2.out.1) (M2.out.2) (size_le hwz1) ?_; intro x2 w12 ho2 hg2 _ hb2; have HR12 := Lib.hid (((HR1.out.rot).app ho2 hg2 hb2).rot.rot); have HB12 := Lib.hid ((HR1.out.rot).below HB1.out hwz1 hg2); have hwz12 := size_grown hwz1 hg2; have HK12 := Lib.hid (blk_grown HK1.out hg2 (row_ne hsb5 (HR1.out.rot).1)); clear ho2 hg2 hb2 q1 f1 hr11 hr21 hr31; obtain ⟨q12, f12⟩ := HK12.out.out; obtain ⟨hr112, hr212, hr312⟩ := own3_rows HR12.out)
          | (go_at_call 27; refine (rsends_any _ _ _ _).mono ?_; rw [HC3.out]; rintro e w' ⟨rfl, rfl⟩))
        go_roundw
        case rel => exact ⟨k + 1, by omega, by omega, by go_num, by rw [upk_yes hk1 HC1.out, upk_yes hk1 HC2.out, upk_no hk1 HC3.out]; exact HR12.out, HB12.out, hwz12, HK12.out⟩
        case measure => simp [intOf]; omega
      · go_wp2_with (first
          | (go_at_call 16; refine (rhas_any _ _ _ _).mono ?_; rw [HC1.out]; rintro e w' ⟨rfl, rfl⟩)
          | (at_builtin; refine wpList_append_own_at _ rfl (.tmp 83) (.tmp 85) 44 rfl w5.heap.size 3 i0 (.int .i64 0) 1 8 Tryd.underlying44 ei ez es eb rfl (by decide) _ _ _ rfl (hr1.alloc _) ⟨wr.heap.size, 0, none⟩ 1 1 [.int .i64 (k : Int)] rfl rfl (one_new _ _ _) (one_cell _) (M1.out.1) (M1.out.2) (size_le hwz) ?_; intro x1 w11 ho1 hg1 _ hb1; have HR1 := Lib.hid (((HR.out).app ho1 hg1 hb1)); have HB1 := Lib.hid ((HR.out).below HB.out hwz hg1); have hwz1 := size_grown hwz hg1; have HK1 := Lib.hid (blk_grown HK.out hg1 (row_ne hsb5 (HR.out).1)); clear ho1 hg1 hb1 q0 f0 hr1 hr2 hr3; obtain ⟨q1, f1⟩ := HK1.out.out; obtain ⟨hr11, hr21, hr31⟩ := own3_rows HR1.out)
          | (go_at_call 26; refine (rtakes_any _ _ _ _).mono ?_; rw [HC2.out]; rintro e w' ⟨rfl, rfl⟩)
          | (at_builtin; refine wpList_append_own_at _ rfl (.tmp 93) (.tmp 95) 44 rfl w5.heap.size 3 i0 (.int .i64 0) 1 8 Tryd.underlying44 ei ez es eb rfl (by decide) _ _ _ rfl (hr21.alloc _) ⟨w11.heap.size, 0, none⟩ 1 1 [.int .i64 (k : Int)] rfl rfl (one_new _ _ _) (one_cell _) (M2.out.1) (M2.out.2) (size_le hwz1) ?_; intro x2 w12 ho2 hg2 _ hb2; have HR12 := Lib.hid (((HR1.out.rot).app ho2 hg2 hb2).rot.rot); have HB12 := Lib.hid ((HR1.out.rot).below HB1.out hwz1 hg2); have hwz12 := size_grown hwz1 hg2; have HK12 := Lib.hid (blk_grown HK1.out hg2 (row_ne hsb5 (HR1.out.rot).1)); clear ho2 hg2 hb2 q1 f1 hr11 hr21 hr31; obtain ⟨q12, f12⟩ := HK12.out.out; obtain ⟨hr112, hr212, hr312⟩ := own3_rows HR12.out)
          | (go_at_call 27; refine (rsends_any _ _ _ _).mono ?_; rw [HC3.out]; rintro e w' ⟨rfl, rfl⟩)
          | (at_builtin; refine wpList_append_own_at _ rfl (.tmp 103) (.tmp 105) 44 rfl w5.heap.size 3 i0 (.int .i64 0) 1 8 Tryd.underlying44 ei ez es eb rfl (by decide) _ _ _ rfl (hr312.alloc _) ⟨w12.heap.size, 0, none⟩ 1 1 [.int .i64 (k : Int)] rfl rfl (one_new _ _ _) (one_cell _) (M3.out.1) (M3.out.2) (size_le hwz12) ?_; intro x3 w13 ho3 hg3 _ hb3; have HR123 := Lib.hid (((HR12.out.rot.rot).app ho3 hg3 hb3).rot); have HB123 := Lib.hid ((HR12.out.rot.rot).below HB12.out hwz12 hg3); have hwz123 := size_grown hwz12 hg3; have HK123 := Lib.hid (blk_grown HK12.out hg3 (row_ne hsb5 (HR12.out.rot.rot).1)); clear ho3 hg3 hb3 q12 f12 hr112 hr212 hr312; obtain ⟨q123, f123⟩ := HK123.out.out; obtain ⟨hr1123, hr2123, hr3123⟩ := own3_rows HR123.out))
        go_roundw
        case rel => exact ⟨k + 1, by omega, by omega, by go_num, by rw [upk_yes hk1 HC1.out, upk_yes hk1 HC2.out, upk_yes hk1 HC3.out]; exact HR123.out, HB123.out, hwz123, HK123.out⟩
        case measure => simp [intOf]; omega
    · obtain rfl : k = 20 := by omega
      have o1 := Lib.hid h3.1.read; have o2 := Lib.hid h3.2.1.read; have o3 := Lib.hid h3.2.2.1.read
      have RA' := Lib.hid (RA.out.below hB); have RB' := Lib.hid (RB.out.below hB); have RC' := Lib.hid (RC.out.below hB)
      have hB5 := B5.trans (hB.mono hz5)
      have HB := Lib.hid hB; clear hB h3 hK
      go_wp2_with fail
      refine (same_yes (upto (rHas p d)) v2 _ _ RA'.out o1.out (upto_len _)).mono ?_
      rintro e w6 ⟨rfl, hd6⟩
      have b6 : Below wr.heap.size wr w6 := by obtain ⟨n, rfl⟩ := hd6; exact Below.drewN (Below.refl _ _) n
      clear hd6
      go_wp2_with fail
      refine (same_yes (upto (rTakes p d)) v3 _ _ (RB'.out.below b6) (o2.out.below b6) (upto_len _)).mono ?_
      rintro e w7 ⟨rfl, hd7⟩
      have b7 : Below w6.heap.size w6 w7 := by obtain ⟨n, rfl⟩ := hd7; exact Below.drewN (Below.refl _ _) n
      clear hd7
      go_wp2_with fail
      refine (same_yes (upto (rSends p d)) v4 _ _ ((RC'.out.below b6).below b7) ((o3.out.below b6).below b7) (upto_len _)).mono ?_
      rintro e w8 ⟨rfl, hd8⟩
      have b8 : Below w7.heap.size w7 w8 := by obtain ⟨n, rfl⟩ := hd8; exact Below.drewN (Below.refl _ _) n
      clear hd8
      go_wp2_with fail
      go_ret
      refine ⟨rfl, ?_⟩
      have hz9 : sb ≤ wr.heap.size := by have := hB5.size; omega
      rw [hsb]
      exact ((hB5.trans (b6.mono hz9)).trans (b7.mono (Nat.le_trans hz9 b6.size))).trans (b8.mono (Nat.le_trans (Nat.le_trans hz9 b6.size) b7.size))

set_option maxRecDepth 100000 in
set_option maxHeartbeats 2000000 in
theorem law_lists_no (p d : Int) (ea : Int → Addr) (w : World) (h : Errs ea w) (hsd : rSide p d = false) : Calls Tryd.prog 9 #[.agg #[.int .i64 p, .int .i64 d]] w (Makes (.bool true) w) := by
  have H := Lib.hid h; clear h
  have HS := Lib.hid hsd; clear hsd
  go_enter Tryd.func9, Tryd.ntmps9
  go_wp2_with (first
    | (go_at_call 10; refine (alive10 ea _ (H.out.three.below (by go_grown))).mono ?_; rintro e w1 ⟨rfl, hb1⟩; have HK1 := Lib.hid ((Blk.fresh w _ _ _ rfl).below hb1); obtain ⟨q1, f1⟩ := HK1.out.out; have hz1 := hb1.size; simp only [World.size_alloc] at hz1; have B1 : Below w.heap.size w w1 := below_then (by go_grown) hb1)
    | (go_at_call 24; refine (states_no p d (ea 14) _ (H.out.below B1).e14 HS.out).mono ?_; rintro e w2 ⟨rfl, hb2⟩; clear q1 f1; have HK2 := Lib.hid (HK1.out.below hb2); obtain ⟨q1, f1⟩ := HK2.out.out; have B2 : Below w.heap.size w w2 := below_then B1 hb2)
    | (go_at_call 21; refine (takes_no p d (ea 14) _ (H.out.below B2).e14 HS.out).mono ?_; rintro e w3 ⟨rfl, hb3⟩; clear q1 f1; have HK3 := Lib.hid (HK2.out.below hb3); obtain ⟨q1, f1⟩ := HK3.out.out; have B3 : Below w.heap.size w w3 := below_then B2 hb3)
    | (go_at_call 20; refine (sends_no p d (ea 14) _ (H.out.below B3).e14 HS.out).mono ?_; rintro e w4 ⟨rfl, hb4⟩; clear q1 f1; have HK4 := Lib.hid (HK3.out.below hb4); obtain ⟨q1, f1⟩ := HK4.out.out; have B4 : Below w.heap.size w w4 := below_then B3 hb4)
    | (go_at_call 15; refine (right_any _ _ _).mono ?_; rw [HS.out]; rintro e w5 ⟨rfl, hb5⟩; clear q1 f1; have B5 : Below w.heap.size w w5 := below_then B4 hb5))
  refine (num_some 14 (by omega) ea _ (H.out.below B5)).mono ?_
  rintro e w6 ⟨rfl, hb6⟩
  have B6 : Below w.heap.size w w6 := below_then B5 hb6
  go_wp2_with fail
  refine (num_some 14 (by omega) ea _ (H.out.below B6)).mono ?_
  rintro e w7 ⟨rfl, hb7⟩
  have B7 : Below w.heap.size w w7 := below_then B6 hb7
  go_wp2_with fail
  refine (num_some 14 (by omega) ea _ (H.out.below B7)).mono ?_
  rintro e w8 ⟨rfl, hb8⟩
  have B8 : Below w.heap.size w w8 := below_then B7 hb8
  go_wp2_with fail
  go_ret
  exact ⟨rfl, B8⟩
theorem law_lists (p d : Int) (ea : Int → Addr) (w : World) (h : Errs ea w) : Calls Tryd.prog 9 #[.agg #[.int .i64 p, .int .i64 d]] w (Makes (.bool true) w) := by
  cases hs : rSide p d with
  | true => exact law_lists_yes p d ea w h hs
  | false => exact law_lists_no p d ea w h hs
end Go.Proofs.YtaoejkjkgdnpmaaDoor
