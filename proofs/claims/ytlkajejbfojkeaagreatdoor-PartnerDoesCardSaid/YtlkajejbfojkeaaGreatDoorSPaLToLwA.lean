/- PaL, MovS, DoP, DoA, DoB, To16, SaA, LwA -/
import Derived.Test.YtlkajejbfojkeaaGreatDoorRows
import Derived.WalkKit
import Derived.WalkSpells
import Derived.WalkLawsBesides
import Derived.BigQuiet
import Derived.Deep.QuietTactic
import Derived.StillTailTactics
import Derived.Handy
import Derived.Lib.Hide
import Derived.Test.YtlkajejbfojkeaaGreatDoorSStoUToPaB
import Derived.Test.YtlkajejbfojkeaaGreatDoorSRstEToPaN
import Derived.Test.YtlkajejbfojkeaaGreatDoorSToldBToStoN
import Derived.Test.YtlkajejbfojkeaaGreatDoorSStoSToRfcA
import Derived.Laws.Tables
import Derived.Test.YtlkajejbfojkeaaGreatDoorSMovCToTold
import Derived.Test.YtlkajejbfojkeaaGreatDoorSPaCToFacI
import Derived.Test.YtlkajejbfojkeaaGreatDoorSTabPlainToMovB
import Derived.Deep.RegionHeld3
import Derived.Deep.AppendLies
import Derived.Test.YtlkajejbfojkeaaGreatDoorSRfcD
set_option linter.unusedSimpArgs false
set_option linter.unusedVariables false
namespace Go.Proofs.YtlkajejbfojkeaaGreatDoor
open Go.RowKit Go.Shelf
attribute [local go_sem] store_float

set_option maxRecDepth 100000 in
set_option maxHeartbeats 4000000 in
theorem again_none (sb : Value) (p : SPart) (nd pt : Int) (w : World) (hFd : ∀ W, Below w.heap.size w W → Calls Tryz.prog 121 #[sb, .int .i64 pt] W (Makes (.tuple #[oneV p nd pt, .bool false]) W)) :
   Calls Tryz.prog 45 #[sb, .int .i64 pt] w (Makes (.tuple #[msgV msg0, .bool false]) w) := by
 have HFd := Lib.hid hFd
 obtain ⟨an, aq, rg, ⟨sp, sd, ss, sh⟩⟩ := p
 dsimp only [oneV, msgV, msgA, msg0, seatV] at *
 clear hFd
 go_enter Tryz.func45, Tryz.ntmps45
 go_wp2_with fail
 refine (HFd.out _ (by go_grown)).mono ?_
 rintro e w1 ⟨rfl, hb1⟩
 have B1 : Below w.heap.size w w1 := below_then (by go_grown) hb1
 have hlt : w.heap.size < w1.heap.size := by have := hb1.size; simp only [World.size_alloc] at this; omega
 have HT1 : Hid (w1.heap[w.heap.size]? = some (.cells #[.int .i64 0, .int .i64 0, .int .i64 0, .int .i64 0, .int .i64 0, .int .i64 0, .int .i64 0, .int .i64 0, .int .i64 0] 81 (0, 0))) := Lib.hid ((hb1.block _ (by simp)).trans (heap_alloc_new _ _))
 clear hb1
 have HB0 := Lib.hid (B1.alloc B1.size (.cells #[.int .i64 an, .int .i64 aq, .int .i64 rg, .int .i64 sp, .int .i64 sd, .int .i64 ss, .int .i64 sh, .int .i64 nd, .int .i64 pt] 205))
 have HT0 : Hid ((w1.alloc (.cells #[.int .i64 an, .int .i64 aq, .int .i64 rg, .int .i64 sp, .int .i64 sd, .int .i64 ss, .int .i64 sh, .int .i64 nd, .int .i64 pt] 205)).heap[w.heap.size]? = some (.cells #[.int .i64 0, .int .i64 0, .int .i64 0, .int .i64 0, .int .i64 0, .int .i64 0, .int .i64 0, .int .i64 0, .int .i64 0] 81 (0, 0))) := Lib.hid ((((Below.refl w1.heap.size w1).alloc (Nat.le_refl _) (.cells #[.int .i64 an, .int .i64 aq, .int .i64 rg, .int .i64 sp, .int .i64 sd, .int .i64 ss, .int .i64 sh, .int .i64 nd, .int .i64 pt] 205)).block _ hlt).trans HT1.out)
 have HPB := Lib.hid (Blk.fresh w1 #[.int .i64 an, .int .i64 aq, .int .i64 rg, .int .i64 sp, .int .i64 sd, .int .i64 ss, .int .i64 sh, .int .i64 nd, .int .i64 pt] 205 _ rfl)
 obtain ⟨HFr, hgr⟩ := row_end (cells := #[.int .i64 0, .int .i64 0, .int .i64 0, .int .i64 0, .int .i64 0, .int .i64 0, .int .i64 0, .int .i64 0, .int .i64 0]) HT0.out
 have HBf := Lib.hid (HB0.out.grown hgr HB0.out.size (fun k hk => by injection hk with hk; omega))
 obtain ⟨q1, f1⟩ := HFr.out
 have HQ1 := Lib.hid q1; have HF1 := Lib.hid f1
 clear hgr HFr q1 f1
 go_wp2_with (refine wpList_store_row rfl 81 (.tmp 4) (.tmp 49) rfl w.heap.size #[.int .i64 0, .int .i64 0, .int .i64 0, .int .i64 0, .int .i64 0, .int .i64 0, .int .i64 0, .int .i64 0, .int .i64 0] rfl rfl 81 #[.int .i64 0, .int .i64 0, .int .i64 0, .int .i64 0, .int .i64 0, .int .i64 0, .int .i64 0, .int .i64 0, .int .i64 0] HT0.out (by kernel_rfl) rfl (by simp [Value.oneCell']) ?_)
 exact bodyPost_ret (v := .tuple #[.agg #[.int .i64 0, .int .i64 0, .int .i64 0, .int .i64 0, .int .i64 0, .int .i64 0, .int .i64 0, .int .i64 0, .int .i64 0], .bool false]) (by simp [results, Tryz.results45, go_sem, HQ1.out, HF1.out]) rfl ⟨rfl, HBf.out⟩
set_option maxRecDepth 100000 in
set_option maxHeartbeats 4000000 in
theorem again_reg (sb : Value) (p : SPart) (nd pt : Int) (w : World) (hFd : ∀ W, Below w.heap.size w W → Calls Tryz.prog 121 #[sb, .int .i64 pt] W (Makes (.tuple #[oneV p nd pt, .bool true]) W)) (hp : p.rg < 0) (hs : p.seat.s = 1) :
   Calls Tryz.prog 45 #[sb, .int .i64 pt] w (Makes (.tuple #[msgV ⟨17, nd, p.an, p.an, p.aq, 0, pt, p.seat.p, 0⟩, .bool true]) w) := by
 have HFd := Lib.hid hFd
 have HRg := Lib.hid (fun W => register_of p nd pt W)
 have hPl := fun W => placed_of p nd pt W
 rw [decide_eq_false (show ¬ 0 ≤ p.rg by omega)] at hPl
 have HPl := Lib.hid hPl
 obtain ⟨an, aq, rg, ⟨sp, sd, ss, sh⟩⟩ := p
 dsimp only [oneV, msgV, msgA, msg0, seatV] at *
 have es : (ss == 1) = true := by simpa using hs
 clear hs hPl hp
 clear hFd
 go_enter Tryz.func45, Tryz.ntmps45
 go_wp2_with fail
 refine (HFd.out _ (by go_grown)).mono ?_
 rintro e w1 ⟨rfl, hb1⟩
 have B1 : Below w.heap.size w w1 := below_then (by go_grown) hb1
 have hlt : w.heap.size < w1.heap.size := by have := hb1.size; simp only [World.size_alloc] at this; omega
 have HT1 : Hid (w1.heap[w.heap.size]? = some (.cells #[.int .i64 0, .int .i64 0, .int .i64 0, .int .i64 0, .int .i64 0, .int .i64 0, .int .i64 0, .int .i64 0, .int .i64 0] 81 (0, 0))) := Lib.hid ((hb1.block _ (by simp)).trans (heap_alloc_new _ _))
 clear hb1
 have HB0 := Lib.hid (B1.alloc B1.size (.cells #[.int .i64 an, .int .i64 aq, .int .i64 rg, .int .i64 sp, .int .i64 sd, .int .i64 ss, .int .i64 sh, .int .i64 nd, .int .i64 pt] 205))
 have HT0 : Hid ((w1.alloc (.cells #[.int .i64 an, .int .i64 aq, .int .i64 rg, .int .i64 sp, .int .i64 sd, .int .i64 ss, .int .i64 sh, .int .i64 nd, .int .i64 pt] 205)).heap[w.heap.size]? = some (.cells #[.int .i64 0, .int .i64 0, .int .i64 0, .int .i64 0, .int .i64 0, .int .i64 0, .int .i64 0, .int .i64 0, .int .i64 0] 81 (0, 0))) := Lib.hid ((((Below.refl w1.heap.size w1).alloc (Nat.le_refl _) (.cells #[.int .i64 an, .int .i64 aq, .int .i64 rg, .int .i64 sp, .int .i64 sd, .int .i64 ss, .int .i64 sh, .int .i64 nd, .int .i64 pt] 205)).block _ hlt).trans HT1.out)
 have HPB := Lib.hid (Blk.fresh w1 #[.int .i64 an, .int .i64 aq, .int .i64 rg, .int .i64 sp, .int .i64 sd, .int .i64 ss, .int .i64 sh, .int .i64 nd, .int .i64 pt] 205 _ rfl)
 go_wp2_with fail
 refine (HPl.out _).mono ?_
 rintro e w2 ⟨rfl, hb2⟩
 have HT0 : Hid (w2.heap[w.heap.size]? = some (.cells #[.int .i64 0, .int .i64 0, .int .i64 0, .int .i64 0, .int .i64 0, .int .i64 0, .int .i64 0, .int .i64 0, .int .i64 0] 81 (0, 0))) := Lib.hid ((hb2.block _ (Array.getElem?_eq_some_iff.1 HT0.out).1).trans HT0.out)
 have HB0 := Lib.hid (below_then HB0.out hb2)
 have HPB := Lib.hid (HPB.out.below hb2)
 clear hb2
 have qp := HPB.out.cell; have lp := HPB.out.lt
 go_wp2_with fail
 clear qp lp
 refine (HRg.out _).mono ?_
 rintro e w3 ⟨rfl, hb3⟩
 have HT0 : Hid (w3.heap[w.heap.size]? = some (.cells #[.int .i64 0, .int .i64 0, .int .i64 0, .int .i64 0, .int .i64 0, .int .i64 0, .int .i64 0, .int .i64 0, .int .i64 0] 81 (0, 0))) := Lib.hid ((hb3.block _ (Array.getElem?_eq_some_iff.1 HT0.out).1).trans HT0.out)
 have HB0 := Lib.hid (below_then HB0.out hb3)
 have HPB := Lib.hid (HPB.out.below hb3)
 clear hb3
 obtain ⟨HFr, hgr⟩ := row_end (cells := #[.int .i64 17, .int .i64 nd, .int .i64 an, .int .i64 an, .int .i64 aq, .int .i64 0, .int .i64 pt, .int .i64 sp, .int .i64 0]) HT0.out
 have HBf := Lib.hid (HB0.out.grown hgr HB0.out.size (fun k hk => by injection hk with hk; omega))
 obtain ⟨q1, f1⟩ := HFr.out
 have HQ1 := Lib.hid q1; have HF1 := Lib.hid f1
 clear hgr HFr q1 f1
 have qp := HPB.out.cell; have lp := HPB.out.lt
 go_wp2_with (refine wpList_store_row rfl 81 (.tmp 4) (.tmp 29) rfl w.heap.size #[.int .i64 17, .int .i64 nd, .int .i64 an, .int .i64 an, .int .i64 aq, .int .i64 0, .int .i64 pt, .int .i64 sp, .int .i64 0] rfl rfl 81 #[.int .i64 0, .int .i64 0, .int .i64 0, .int .i64 0, .int .i64 0, .int .i64 0, .int .i64 0, .int .i64 0, .int .i64 0] HT0.out (by kernel_rfl) rfl (by simp [Value.oneCell']) ?_)
 exact bodyPost_ret (v := .tuple #[.agg #[.int .i64 17, .int .i64 nd, .int .i64 an, .int .i64 an, .int .i64 aq, .int .i64 0, .int .i64 pt, .int .i64 sp, .int .i64 0], .bool true]) (by simp [results, Tryz.results45, go_sem, HQ1.out, HF1.out]) rfl ⟨rfl, HBf.out⟩
set_option maxRecDepth 100000 in
set_option maxHeartbeats 4000000 in
theorem again_off (sb : Value) (p : SPart) (nd pt : Int) (w : World) (hFd : ∀ W, Below w.heap.size w W → Calls Tryz.prog 121 #[sb, .int .i64 pt] W (Makes (.tuple #[oneV p nd pt, .bool true]) W)) (hp : p.rg < 0) (hs : p.seat.s ≠ 1) :
   Calls Tryz.prog 45 #[sb, .int .i64 pt] w (Makes (.tuple #[msgV msg0, .bool false]) w) := by
 have HFd := Lib.hid hFd
 have hPl := fun W => placed_of p nd pt W
 rw [decide_eq_false (show ¬ 0 ≤ p.rg by omega)] at hPl
 have HPl := Lib.hid hPl
 obtain ⟨an, aq, rg, ⟨sp, sd, ss, sh⟩⟩ := p
 dsimp only [oneV, msgV, msgA, msg0, seatV] at *
 have es : (ss == 1) = false := by simpa using hs
 clear hs hPl hp
 clear hFd
 go_enter Tryz.func45, Tryz.ntmps45
 go_wp2_with fail
 refine (HFd.out _ (by go_grown)).mono ?_
 rintro e w1 ⟨rfl, hb1⟩
 have B1 : Below w.heap.size w w1 := below_then (by go_grown) hb1
 have hlt : w.heap.size < w1.heap.size := by have := hb1.size; simp only [World.size_alloc] at this; omega
 have HT1 : Hid (w1.heap[w.heap.size]? = some (.cells #[.int .i64 0, .int .i64 0, .int .i64 0, .int .i64 0, .int .i64 0, .int .i64 0, .int .i64 0, .int .i64 0, .int .i64 0] 81 (0, 0))) := Lib.hid ((hb1.block _ (by simp)).trans (heap_alloc_new _ _))
 clear hb1
 have HB0 := Lib.hid (B1.alloc B1.size (.cells #[.int .i64 an, .int .i64 aq, .int .i64 rg, .int .i64 sp, .int .i64 sd, .int .i64 ss, .int .i64 sh, .int .i64 nd, .int .i64 pt] 205))
 have HT0 : Hid ((w1.alloc (.cells #[.int .i64 an, .int .i64 aq, .int .i64 rg, .int .i64 sp, .int .i64 sd, .int .i64 ss, .int .i64 sh, .int .i64 nd, .int .i64 pt] 205)).heap[w.heap.size]? = some (.cells #[.int .i64 0, .int .i64 0, .int .i64 0, .int .i64 0, .int .i64 0, .int .i64 0, .int .i64 0, .int .i64 0, .int .i64 0] 81 (0, 0))) := Lib.hid ((((Below.refl w1.heap.size w1).alloc (Nat.le_refl _) (.cells #[.int .i64 an, .int .i64 aq, .int .i64 rg, .int .i64 sp, .int .i64 sd, .int .i64 ss, .int .i64 sh, .int .i64 nd, .int .i64 pt] 205)).block _ hlt).trans HT1.out)
 have HPB := Lib.hid (Blk.fresh w1 #[.int .i64 an, .int .i64 aq, .int .i64 rg, .int .i64 sp, .int .i64 sd, .int .i64 ss, .int .i64 sh, .int .i64 nd, .int .i64 pt] 205 _ rfl)
 go_wp2_with fail
 refine (HPl.out _).mono ?_
 rintro e w2 ⟨rfl, hb2⟩
 have HT0 : Hid (w2.heap[w.heap.size]? = some (.cells #[.int .i64 0, .int .i64 0, .int .i64 0, .int .i64 0, .int .i64 0, .int .i64 0, .int .i64 0, .int .i64 0, .int .i64 0] 81 (0, 0))) := Lib.hid ((hb2.block _ (Array.getElem?_eq_some_iff.1 HT0.out).1).trans HT0.out)
 have HB0 := Lib.hid (below_then HB0.out hb2)
 have HPB := Lib.hid (HPB.out.below hb2)
 clear hb2
 have qp := HPB.out.cell; have lp := HPB.out.lt
 go_wp2_with fail
 clear qp lp
 refine (HPl.out _).mono ?_
 rintro e w3 ⟨rfl, hb3⟩
 have HT0 : Hid (w3.heap[w.heap.size]? = some (.cells #[.int .i64 0, .int .i64 0, .int .i64 0, .int .i64 0, .int .i64 0, .int .i64 0, .int .i64 0, .int .i64 0, .int .i64 0] 81 (0, 0))) := Lib.hid ((hb3.block _ (Array.getElem?_eq_some_iff.1 HT0.out).1).trans HT0.out)
 have HB0 := Lib.hid (below_then HB0.out hb3)
 have HPB := Lib.hid (HPB.out.below hb3)
 clear hb3
 obtain ⟨HFr, hgr⟩ := row_end (cells := #[.int .i64 0, .int .i64 0, .int .i64 0, .int .i64 0, .int .i64 0, .int .i64 0, .int .i64 0, .int .i64 0, .int .i64 0]) HT0.out
 have HBf := Lib.hid (HB0.out.grown hgr HB0.out.size (fun k hk => by injection hk with hk; omega))
 obtain ⟨q1, f1⟩ := HFr.out
 have HQ1 := Lib.hid q1; have HF1 := Lib.hid f1
 clear hgr HFr q1 f1
 have qp := HPB.out.cell; have lp := HPB.out.lt
 go_wp2_with (refine wpList_store_row rfl 81 (.tmp 4) (.tmp 49) rfl w.heap.size #[.int .i64 0, .int .i64 0, .int .i64 0, .int .i64 0, .int .i64 0, .int .i64 0, .int .i64 0, .int .i64 0, .int .i64 0] rfl rfl 81 #[.int .i64 0, .int .i64 0, .int .i64 0, .int .i64 0, .int .i64 0, .int .i64 0, .int .i64 0, .int .i64 0, .int .i64 0] HT0.out (by kernel_rfl) rfl (by simp [Value.oneCell']) ?_)
 exact bodyPost_ret (v := .tuple #[.agg #[.int .i64 0, .int .i64 0, .int .i64 0, .int .i64 0, .int .i64 0, .int .i64 0, .int .i64 0, .int .i64 0, .int .i64 0], .bool false]) (by simp [results, Tryz.results45, go_sem, HQ1.out, HF1.out]) rfl ⟨rfl, HBf.out⟩
set_option maxRecDepth 100000 in
set_option maxHeartbeats 4000000 in
theorem again_idle (sb : Value) (p : SPart) (nd pt : Int) (w : World) (hFd : ∀ W, Below w.heap.size w W → Calls Tryz.prog 121 #[sb, .int .i64 pt] W (Makes (.tuple #[oneV p nd pt, .bool true]) W)) (ea : Int → Addr) (hE : EnvS ea w) (hp : 0 ≤ p.rg) (hk : mWaits p.seat = 0) :
   Calls Tryz.prog 45 #[sb, .int .i64 pt] w (Makes (.tuple #[msgV msg0, .bool false]) w) := by
 have HFd := Lib.hid hFd
 have hPl := fun W => placed_of p nd pt W
 rw [decide_eq_true hp] at hPl
 have HPl := Lib.hid hPl
 have HWt := Lib.hid (fun W (hW : EnvS ea W) => mwaits_of p.seat ea W hW.err3)
 rw [hk] at HWt
 have HE := Lib.hid hE
 obtain ⟨an, aq, rg, ⟨sp, sd, ss, sh⟩⟩ := p
 dsimp only [oneV, msgV, msgA, msg0, seatV] at *
 clear hPl hp hk hE
 clear hFd
 go_enter Tryz.func45, Tryz.ntmps45
 go_wp2_with fail
 refine (HFd.out _ (by go_grown)).mono ?_
 rintro e w1 ⟨rfl, hb1⟩
 have B1 : Below w.heap.size w w1 := below_then (by go_grown) hb1
 have hlt : w.heap.size < w1.heap.size := by have := hb1.size; simp only [World.size_alloc] at this; omega
 have HT1 : Hid (w1.heap[w.heap.size]? = some (.cells #[.int .i64 0, .int .i64 0, .int .i64 0, .int .i64 0, .int .i64 0, .int .i64 0, .int .i64 0, .int .i64 0, .int .i64 0] 81 (0, 0))) := Lib.hid ((hb1.block _ (by simp)).trans (heap_alloc_new _ _))
 clear hb1
 have HB0 := Lib.hid (B1.alloc B1.size (.cells #[.int .i64 an, .int .i64 aq, .int .i64 rg, .int .i64 sp, .int .i64 sd, .int .i64 ss, .int .i64 sh, .int .i64 nd, .int .i64 pt] 205))
 have HT0 : Hid ((w1.alloc (.cells #[.int .i64 an, .int .i64 aq, .int .i64 rg, .int .i64 sp, .int .i64 sd, .int .i64 ss, .int .i64 sh, .int .i64 nd, .int .i64 pt] 205)).heap[w.heap.size]? = some (.cells #[.int .i64 0, .int .i64 0, .int .i64 0, .int .i64 0, .int .i64 0, .int .i64 0, .int .i64 0, .int .i64 0, .int .i64 0] 81 (0, 0))) := Lib.hid ((((Below.refl w1.heap.size w1).alloc (Nat.le_refl _) (.cells #[.int .i64 an, .int .i64 aq, .int .i64 rg, .int .i64 sp, .int .i64 sd, .int .i64 ss, .int .i64 sh, .int .i64 nd, .int .i64 pt] 205)).block _ hlt).trans HT1.out)
 have HPB := Lib.hid (Blk.fresh w1 #[.int .i64 an, .int .i64 aq, .int .i64 rg, .int .i64 sp, .int .i64 sd, .int .i64 ss, .int .i64 sh, .int .i64 nd, .int .i64 pt] 205 _ rfl)
 go_wp2_with fail
 refine (HPl.out _).mono ?_
 rintro e w2 ⟨rfl, hb2⟩
 have HT0 : Hid (w2.heap[w.heap.size]? = some (.cells #[.int .i64 0, .int .i64 0, .int .i64 0, .int .i64 0, .int .i64 0, .int .i64 0, .int .i64 0, .int .i64 0, .int .i64 0] 81 (0, 0))) := Lib.hid ((hb2.block _ (Array.getElem?_eq_some_iff.1 HT0.out).1).trans HT0.out)
 have HB0 := Lib.hid (below_then HB0.out hb2)
 have HPB := Lib.hid (HPB.out.below hb2)
 clear hb2
 have qp := HPB.out.cell; have lp := HPB.out.lt
 go_wp2_with fail
 clear qp lp
 refine (HPl.out _).mono ?_
 rintro e w3 ⟨rfl, hb3⟩
 have HT0 : Hid (w3.heap[w.heap.size]? = some (.cells #[.int .i64 0, .int .i64 0, .int .i64 0, .int .i64 0, .int .i64 0, .int .i64 0, .int .i64 0, .int .i64 0, .int .i64 0] 81 (0, 0))) := Lib.hid ((hb3.block _ (Array.getElem?_eq_some_iff.1 HT0.out).1).trans HT0.out)
 have HB0 := Lib.hid (below_then HB0.out hb3)
 have HPB := Lib.hid (HPB.out.below hb3)
 clear hb3
 have qp := HPB.out.cell; have lp := HPB.out.lt
 go_wp2_with fail
 clear qp lp
 refine (HWt.out _ (HE.out.below HB0.out)).mono ?_
 rintro e w4 ⟨rfl, hb4⟩
 have HT0 : Hid (w4.heap[w.heap.size]? = some (.cells #[.int .i64 0, .int .i64 0, .int .i64 0, .int .i64 0, .int .i64 0, .int .i64 0, .int .i64 0, .int .i64 0, .int .i64 0] 81 (0, 0))) := Lib.hid ((hb4.block _ (Array.getElem?_eq_some_iff.1 HT0.out).1).trans HT0.out)
 have HB0 := Lib.hid (below_then HB0.out hb4)
 have HPB := Lib.hid (HPB.out.below hb4)
 clear hb4
 obtain ⟨HFr, hgr⟩ := row_end (cells := #[.int .i64 0, .int .i64 0, .int .i64 0, .int .i64 0, .int .i64 0, .int .i64 0, .int .i64 0, .int .i64 0, .int .i64 0]) HT0.out
 have HBf := Lib.hid (HB0.out.grown hgr HB0.out.size (fun k hk => by injection hk with hk; omega))
 obtain ⟨q1, f1⟩ := HFr.out
 have HQ1 := Lib.hid q1; have HF1 := Lib.hid f1
 clear hgr HFr q1 f1
 have qp := HPB.out.cell; have lp := HPB.out.lt
 go_wp2_with (refine wpList_store_row rfl 81 (.tmp 4) (.tmp 49) rfl w.heap.size #[.int .i64 0, .int .i64 0, .int .i64 0, .int .i64 0, .int .i64 0, .int .i64 0, .int .i64 0, .int .i64 0, .int .i64 0] rfl rfl 81 #[.int .i64 0, .int .i64 0, .int .i64 0, .int .i64 0, .int .i64 0, .int .i64 0, .int .i64 0, .int .i64 0, .int .i64 0] HT0.out (by kernel_rfl) rfl (by simp [Value.oneCell']) ?_)
 exact bodyPost_ret (v := .tuple #[.agg #[.int .i64 0, .int .i64 0, .int .i64 0, .int .i64 0, .int .i64 0, .int .i64 0, .int .i64 0, .int .i64 0, .int .i64 0], .bool false]) (by simp [results, Tryz.results45, go_sem, HQ1.out, HF1.out]) rfl ⟨rfl, HBf.out⟩
set_option maxRecDepth 100000 in
set_option maxHeartbeats 4000000 in
theorem again_wait (sb : Value) (p : SPart) (nd pt : Int) (w : World) (hFd : ∀ W, Below w.heap.size w W → Calls Tryz.prog 121 #[sb, .int .i64 pt] W (Makes (.tuple #[oneV p nd pt, .bool true]) W)) (kk : Int) (ea : Int → Addr) (hE : EnvS ea w) (hp : 0 ≤ p.rg) (hk : mWaits p.seat = kk) (hk0 : kk ≠ 0) :
   Calls Tryz.prog 45 #[sb, .int .i64 pt] w (Makes (.tuple #[msgV ⟨kk, nd, p.an, p.an, p.aq, p.rg, pt, 0, 0⟩, .bool true]) w) := by
 have HFd := Lib.hid hFd
 have hPl := fun W => placed_of p nd pt W
 rw [decide_eq_true hp] at hPl
 have HPl := Lib.hid hPl
 have HWt := Lib.hid (fun W (hW : EnvS ea W) => mwaits_of p.seat ea W hW.err3)
 rw [hk] at HWt
 have HE := Lib.hid hE
 have hM := fun W => message_of p nd pt kk W
 rw [show max p.rg 0 = p.rg by omega] at hM
 have HMs := Lib.hid hM
 obtain ⟨an, aq, rg, ⟨sp, sd, ss, sh⟩⟩ := p
 dsimp only [oneV, msgV, msgA, msg0, seatV] at *
 have ek : (kk != 0) = true := by simpa using hk0
 clear hPl hp hk hE hM hk0
 clear hFd
 go_enter Tryz.func45, Tryz.ntmps45
 go_wp2_with fail
 refine (HFd.out _ (by go_grown)).mono ?_
 rintro e w1 ⟨rfl, hb1⟩
 have B1 : Below w.heap.size w w1 := below_then (by go_grown) hb1
 have hlt : w.heap.size < w1.heap.size := by have := hb1.size; simp only [World.size_alloc] at this; omega
 have HT1 : Hid (w1.heap[w.heap.size]? = some (.cells #[.int .i64 0, .int .i64 0, .int .i64 0, .int .i64 0, .int .i64 0, .int .i64 0, .int .i64 0, .int .i64 0, .int .i64 0] 81 (0, 0))) := Lib.hid ((hb1.block _ (by simp)).trans (heap_alloc_new _ _))
 clear hb1
 have HB0 := Lib.hid (B1.alloc B1.size (.cells #[.int .i64 an, .int .i64 aq, .int .i64 rg, .int .i64 sp, .int .i64 sd, .int .i64 ss, .int .i64 sh, .int .i64 nd, .int .i64 pt] 205))
 have HT0 : Hid ((w1.alloc (.cells #[.int .i64 an, .int .i64 aq, .int .i64 rg, .int .i64 sp, .int .i64 sd, .int .i64 ss, .int .i64 sh, .int .i64 nd, .int .i64 pt] 205)).heap[w.heap.size]? = some (.cells #[.int .i64 0, .int .i64 0, .int .i64 0, .int .i64 0, .int .i64 0, .int .i64 0, .int .i64 0, .int .i64 0, .int .i64 0] 81 (0, 0))) := Lib.hid ((((Below.refl w1.heap.size w1).alloc (Nat.le_refl _) (.cells #[.int .i64 an, .int .i64 aq, .int .i64 rg, .int .i64 sp, .int .i64 sd, .int .i64 ss, .int .i64 sh, .int .i64 nd, .int .i64 pt] 205)).block _ hlt).trans HT1.out)
 have HPB := Lib.hid (Blk.fresh w1 #[.int .i64 an, .int .i64 aq, .int .i64 rg, .int .i64 sp, .int .i64 sd, .int .i64 ss, .int .i64 sh, .int .i64 nd, .int .i64 pt] 205 _ rfl)
 go_wp2_with fail
 refine (HPl.out _).mono ?_
 rintro e w2 ⟨rfl, hb2⟩
 have HT0 : Hid (w2.heap[w.heap.size]? = some (.cells #[.int .i64 0, .int .i64 0, .int .i64 0, .int .i64 0, .int .i64 0, .int .i64 0, .int .i64 0, .int .i64 0, .int .i64 0] 81 (0, 0))) := Lib.hid ((hb2.block _ (Array.getElem?_eq_some_iff.1 HT0.out).1).trans HT0.out)
 have HB0 := Lib.hid (below_then HB0.out hb2)
 have HPB := Lib.hid (HPB.out.below hb2)
 clear hb2
 have qp := HPB.out.cell; have lp := HPB.out.lt
 go_wp2_with fail
 clear qp lp
 refine (HPl.out _).mono ?_
 rintro e w3 ⟨rfl, hb3⟩
 have HT0 : Hid (w3.heap[w.heap.size]? = some (.cells #[.int .i64 0, .int .i64 0, .int .i64 0, .int .i64 0, .int .i64 0, .int .i64 0, .int .i64 0, .int .i64 0, .int .i64 0] 81 (0, 0))) := Lib.hid ((hb3.block _ (Array.getElem?_eq_some_iff.1 HT0.out).1).trans HT0.out)
 have HB0 := Lib.hid (below_then HB0.out hb3)
 have HPB := Lib.hid (HPB.out.below hb3)
 clear hb3
 have qp := HPB.out.cell; have lp := HPB.out.lt
 go_wp2_with fail
 clear qp lp
 refine (HWt.out _ (HE.out.below HB0.out)).mono ?_
 rintro e w4 ⟨rfl, hb4⟩
 have HT0 : Hid (w4.heap[w.heap.size]? = some (.cells #[.int .i64 0, .int .i64 0, .int .i64 0, .int .i64 0, .int .i64 0, .int .i64 0, .int .i64 0, .int .i64 0, .int .i64 0] 81 (0, 0))) := Lib.hid ((hb4.block _ (Array.getElem?_eq_some_iff.1 HT0.out).1).trans HT0.out)
 have HB0 := Lib.hid (below_then HB0.out hb4)
 have HPB := Lib.hid (HPB.out.below hb4)
 clear hb4
 have qp := HPB.out.cell; have lp := HPB.out.lt
 go_wp2_with fail
 clear qp lp
 have HT0 : Hid ((World.drew w4).heap[w.heap.size]? = some (.cells #[.int .i64 0, .int .i64 0, .int .i64 0, .int .i64 0, .int .i64 0, .int .i64 0, .int .i64 0, .int .i64 0, .int .i64 0] 81 (0, 0))) := HT0
 have HB0 := Lib.hid (HB0.out.drew)
 have HP1 := Lib.hid HPB.out.drew
 refine wp_region_held_drew (S := fun w' => Blk w' w1.heap.size #[.int .i64 an, .int .i64 aq, .int .i64 rg, .int .i64 sp, .int .i64 sd, .int .i64 ss, .int .i64 sh, .int .i64 nd, .int .i64 pt]) (by kernel_rfl) HP1.out (fun hHeld => ?_)
 generalize (World.drew w4) = w5 at *
 refine takeT (v := ?_) (d := some 43) 0 hHeld ?_ ?_
 rotate_left 1
 · (intro w' hS'; (try dsimp only at hS'); have qS := hS'.cell; clear hS'; go_simp; (try with_reducible rfl))
 simp only [puts]
 refine takeT (v := ?_) (d := some 44) 1 hHeld ?_ ?_
 rotate_left 1
 · (intro w' hS'; (try dsimp only at hS'); have qS := hS'.cell; clear hS'; go_simp; (try with_reducible rfl))
 simp only [puts]
 refine takeT (v := ?_) (d := some 45) 2 hHeld ?_ ?_
 rotate_left 1
 · (intro w' hS'; (try dsimp only at hS'); have qS := hS'.cell; clear hS'; go_simp; (try with_reducible rfl))
 simp only [puts]
 refine takeT (v := ?_) (d := some 46) 3 hHeld ?_ ?_
 rotate_left 1
 · (intro w' hS'; (try dsimp only at hS'); have qS := hS'.cell; clear hS'; go_simp; (try with_reducible rfl))
 simp only [puts]
 refine wpAnyH_call (d := some 47) 4 67 _ _ [.agg #[.int .i64 sp, .int .i64 sd, .int .i64 ss, .int .i64 sh]] rfl rfl (by kernel_rfl) rfl (enters_of Tryz.func67 (by kernel_rfl) rfl) (by rfl) (by rfl) ?_
 refine (HWt.out _ (HE.out.below HB0.out)).mono ?_; rintro e w5 ⟨rfl, hb5⟩
 have HT0 := Lib.hid ((hb5.block _ (Array.getElem?_eq_some_iff.1 HT0.out).1).trans HT0.out); have HB0 := Lib.hid (below_then HB0.out hb5); have hHeld := hHeld.below hb5
 clear hb5
 have hHeld := (hHeld : (fun w' : World => Blk w' w1.heap.size #[.int .i64 an, .int .i64 aq, .int .i64 rg, .int .i64 sp, .int .i64 sd, .int .i64 ss, .int .i64 sh, .int .i64 nd, .int .i64 pt]) w5)
 refine ⟨_, rfl, _, fun _ h => h, hHeld, fun hHeld => ?_⟩
 simp only [Act.put, puts]
 refine wpAnyH_call (d := some 48) 5 142 _ _ [.agg #[.int .i64 an, .int .i64 aq, .int .i64 rg, .int .i64 sp, .int .i64 sd, .int .i64 ss, .int .i64 sh, .int .i64 nd, .int .i64 pt], .int .i64 kk] rfl rfl (by kernel_rfl) rfl (enters_of Tryz.func142 (by kernel_rfl) rfl) (by rfl) (by rfl) ?_
 refine (HMs.out _).mono ?_; rintro e w5 ⟨rfl, hb5⟩
 have HT0 := Lib.hid ((hb5.block _ (Array.getElem?_eq_some_iff.1 HT0.out).1).trans HT0.out); have HB0 := Lib.hid (below_then HB0.out hb5); have hHeld := hHeld.below hb5
 clear hb5
 have hHeld := (hHeld : (fun w' : World => Blk w' w1.heap.size #[.int .i64 an, .int .i64 aq, .int .i64 rg, .int .i64 sp, .int .i64 sd, .int .i64 ss, .int .i64 sh, .int .i64 nd, .int .i64 pt]) w5)
 refine ⟨_, rfl, _, fun _ h => h, hHeld, fun hHeld => ?_⟩
 simp only [Act.put, puts]
 refine wpAnyH_all (rs := [6]) (by kernel_rfl) (by simp) (fun j hj => ?_)
 obtain rfl : j = 6 := by simpa using hj
 refine wpOp_step rfl (fun K' hK => ?_)
 rw [if_pos (by rfl)]
 refine wp_store_row 81 (.tmp 4) (.tmp 48) rfl w.heap.size #[.int .i64 kk, .int .i64 nd, .int .i64 an, .int .i64 an, .int .i64 aq, .int .i64 rg, .int .i64 pt, .int .i64 0, .int .i64 0] rfl rfl 81 #[.int .i64 0, .int .i64 0, .int .i64 0, .int .i64 0, .int .i64 0, .int .i64 0, .int .i64 0, .int .i64 0, .int .i64 0] HT0.out (by kernel_rfl) rfl (by simp [Value.oneCell']) ?_
 obtain ⟨HFr, hgr⟩ := row_end (cells := #[.int .i64 kk, .int .i64 nd, .int .i64 an, .int .i64 an, .int .i64 aq, .int .i64 rg, .int .i64 pt, .int .i64 0, .int .i64 0]) HT0.out
 have hK2 := hHeld.heap' hgr.size (hgr.block _ hHeld.lt (fun e => by injection e with e; omega))
 have hB2 := Lib.hid (HB0.out.grown hgr HB0.out.size (fun k hk => by injection hk with hk; omega))
 have hHeld := (hK2 : (fun w' : World => Blk w' w1.heap.size #[.int .i64 an, .int .i64 aq, .int .i64 rg, .int .i64 sp, .int .i64 sd, .int .i64 ss, .int .i64 sh, .int .i64 nd, .int .i64 pt]) (w5.setRow w.heap.size #[.int .i64 kk, .int .i64 nd, .int .i64 an, .int .i64 an, .int .i64 aq, .int .i64 rg, .int .i64 pt, .int .i64 0, .int .i64 0]))
 refine hK _ _ ⟨hHeld, ?_⟩
 simp only [Act.put, puts]
 clear hK hK2
 obtain ⟨q1, f1⟩ := HFr.out
 generalize w5.setRow w.heap.size #[.int .i64 kk, .int .i64 nd, .int .i64 an, .int .i64 an, .int .i64 aq, .int .i64 rg, .int .i64 pt, .int .i64 0, .int .i64 0] = w6 at *
 refine takeT (v := ?_) (d := some 5) 7 hHeld ?_ ?_
 rotate_left 1
 · (intro w' hS'; (try dsimp only at hS'); have qS := hS'.cell; clear hS'; go_simp; (try with_reducible rfl))
 simp only [puts]
 refine wpAnyH_done (by kernel_rfl) ?_ _
 clear hHeld
 go_wp2_with fail
 exact bodyPost_ret (v := .tuple #[.agg #[.int .i64 kk, .int .i64 nd, .int .i64 an, .int .i64 an, .int .i64 aq, .int .i64 rg, .int .i64 pt, .int .i64 0, .int .i64 0], .bool true]) (by simp [results, Tryz.results45, go_sem, q1, f1]) rfl ⟨by simp, hB2.out⟩
theorem pagain_of (L : SLoc) (S : Sto) (pt : Int) (ea : Int → Addr) (w : World) (hE : EnvS ea w) (h : StoreAt L S w) (hG : StoGood S) :
   Calls Tryz.prog 45 #[.pointer (some ⟨L.sb, 0, none⟩), .int .i64 pt] w (Makes (.tuple #[msgV (pAgain S pt).1, .bool (pAgain S pt).2]) w) := by
 have hl := hG.parts
 unfold pAgain
 cases hp : pGet S pt with
 | none => exact again_none _ part0 S.node pt w (fun W hW => pfind_any L S pt part0 false W (h.below hW) (fun W' hW' => part_no L S pt W' ((h.below hW).below hW') hp))
 | some p =>
   have hFd : ∀ W, Below w.heap.size w W → Calls Tryz.prog 121 #[.pointer (some ⟨L.sb, 0, none⟩), .int .i64 pt] W (Makes (.tuple #[oneV p S.node pt, .bool true]) W) := fun W hW => pfind_any L S pt p true W (h.below hW) (fun W' hW' => part_yes L S pt p W' ((h.below hW).below hW') hl hp)
   simp only
   by_cases hr : p.rg < 0
   · rw [if_pos hr]
     by_cases hs : p.seat.s = 1
     · rw [if_pos hs]
       exact again_reg _ p S.node pt w hFd hr hs
     · rw [if_neg hs]
       exact again_off _ p S.node pt w hFd hr hs
   · rw [if_neg hr]
     by_cases hk : mWaits p.seat = 0
     · rw [if_neg (by simp [hk])]
       exact again_idle _ p S.node pt w hFd ea hE (by omega) hk
     · rw [if_pos hk]
       exact again_wait _ p S.node pt w hFd _ ea hE (by omega) rfl hk
end Go.Proofs.YtlkajejbfojkeaaGreatDoor

namespace Go.Proofs.YtlkajejbfojkeaaGreatDoor
open Go.RowKit

set_option maxRecDepth 100000 in
set_option maxHeartbeats 8000000 in
theorem gdo_of (x : MSeat) (k : Int) (w : World) : Calls Tryz.prog 145 #[seatV x, .int .i64 k] w (Makes (.tuple #[effV (gDo x k).1, .int .i64 (gDo x k).2]) w) := by
 obtain ⟨r, hr⟩ : ∃ r, r = mRight x := ⟨_, rfl⟩
 have hR : ∀ W, Calls Tryz.prog 201 #[seatV x] W (Makes (.bool r) W) := fun W => by rw [hr]; exact gright_of x W
 obtain ⟨s, n, hs⟩ : ∃ s n, rStep x.p x.d k x.s = (s, n) := ⟨_, _, rfl⟩
 have hL : ∀ W, Calls Tryz.prog 230 #[.int .i64 x.p, .int .i64 x.d, .int .i64 k, .int .i64 x.s] W (Makes (.tuple #[.int .i64 s, .int .i64 n]) W) := fun W => by
   have := rstep_any x.p x.d k x.s W
   rw [hs] at this; exact this.mono (fun e w' h => ⟨h.1, by rw [← h.2]; exact Below.refl _ _⟩)
 have he : gDo x k = if r = false then (eff0, 4) else if n ≠ 0 then (eff0, n) else (gMoved x s (gHow k k) k, 0) := by
   unfold gDo; rw [← hr, hs]
 rw [he]
 clear he hr hs
 obtain ⟨p, d, s0, h0⟩ := x
 dsimp only [seatV] at *
 have HR := Lib.hid hR; have HL := Lib.hid hL; clear hR hL
 cases r with
 | false =>
   rw [if_pos rfl]
   dsimp only [effV, eff0, seat0]
   go_enter Tryz.func145, Tryz.ntmps145
   go_wp2_with (first
     | (go_at_call 201; refine (HR.out _).mono ?_; rintro e w1 ⟨rfl, hb1⟩; have HA1 := Lib.hid (((Blk.fresh w _ _ _ rfl).alloc _).below hb1); have HO1 := Lib.hid ((Blk.fresh _ _ _ (w.heap.size + 1) (by simp only [World.size_alloc])).below hb1); obtain ⟨q1, f1⟩ := HA1.out.out; obtain ⟨q2, f2⟩ := HO1.out.out; have hz1 := hb1.size; simp only [World.size_alloc] at hz1; have B1 : Below w.heap.size w w1 := below_then (by go_grown) hb1)
     | fail)
   exact bodyPost_ret (v := .tuple #[.agg #[.int .i64 0, .int .i64 0, .int .i64 0, .int .i64 0, .int .i64 0, .int .i64 0, .int .i64 0, .bool false], .int .i64 4]) (by simp [results, Tryz.results145, go_sem, q2, f2]) rfl ⟨rfl, by go_grown⟩
 | true =>
   rw [if_neg (by simp)]
   by_cases hn : n = 0
   case neg =>
     rw [if_pos hn]
     dsimp only [effV, eff0, seat0]
     have hn' : (n != 0) = true := by simpa using hn
     clear hn
     go_enter Tryz.func145, Tryz.ntmps145
     go_wp2_with (first
     | (go_at_call 201; refine (HR.out _).mono ?_; rintro e w1 ⟨rfl, hb1⟩; have HA1 := Lib.hid (((Blk.fresh w _ _ _ rfl).alloc _).below hb1); have HO1 := Lib.hid ((Blk.fresh _ _ _ (w.heap.size + 1) (by simp only [World.size_alloc])).below hb1); obtain ⟨q1, f1⟩ := HA1.out.out; obtain ⟨q2, f2⟩ := HO1.out.out; have hz1 := hb1.size; simp only [World.size_alloc] at hz1; have B1 : Below w.heap.size w w1 := below_then (by go_grown) hb1)
     | (go_at_call 230; refine (HL.out _).mono ?_; rintro e w2 ⟨rfl, hb2⟩; have HA2 := Lib.hid (HA1.out.below hb2); have HO2 := Lib.hid (HO1.out.below hb2); clear q1 f1 q2 f2; have q1 := HA2.out.cell; have q2 := HO2.out.cell; have f2 := HO2.out.free; have hz2 := hb2.size; have B2 : Below w.heap.size w w2 := below_then B1 hb2)
     | (go_at_call 231; refine (HM.out _).mono ?_; rintro e w3 ⟨rfl, hb3⟩; have HO3 := Lib.hid (HO2.out.below hb3); clear q1 q2 f2; obtain ⟨q2, f2⟩ := HO3.out.out; have hz3 := hb3.size; have B3 : Below w.heap.size w w3 := below_then B2 hb3))
     exact bodyPost_ret (v := .tuple #[.agg #[.int .i64 0, .int .i64 0, .int .i64 0, .int .i64 0, .int .i64 0, .int .i64 0, .int .i64 0, .bool false], .int .i64 n]) (by simp [results, Tryz.results145, go_sem, q2, f2]) rfl ⟨rfl, by go_grown⟩
   subst hn
   rw [if_neg (by simp)]
   by_cases k2 : k = 12
   · subst k2
     rw [show gHow 12 12 = 4 from rfl]
     have hM := fun W => gmoved_of ⟨p, d, s0, h0⟩ (s) (4) (12) W
     obtain ⟨e, he⟩ : ∃ e, e = gMoved ⟨p, d, s0, h0⟩ (s) (4) (12) := ⟨_, rfl⟩
     rw [← he] at hM ⊢
     dsimp only [seatV, effV] at hM ⊢
     have HM := Lib.hid hM; clear hM he
     go_enter Tryz.func145, Tryz.ntmps145
     go_wp2_with (first
     | (go_at_call 201; refine (HR.out _).mono ?_; rintro e w1 ⟨rfl, hb1⟩; have HA1 := Lib.hid (((Blk.fresh w _ _ _ rfl).alloc _).below hb1); have HO1 := Lib.hid ((Blk.fresh _ _ _ (w.heap.size + 1) (by simp only [World.size_alloc])).below hb1); obtain ⟨q1, f1⟩ := HA1.out.out; obtain ⟨q2, f2⟩ := HO1.out.out; have hz1 := hb1.size; simp only [World.size_alloc] at hz1; have B1 : Below w.heap.size w w1 := below_then (by go_grown) hb1)
     | (go_at_call 230; refine (HL.out _).mono ?_; rintro e w2 ⟨rfl, hb2⟩; have HA2 := Lib.hid (HA1.out.below hb2); have HO2 := Lib.hid (HO1.out.below hb2); clear q1 f1 q2 f2; have q1 := HA2.out.cell; have q2 := HO2.out.cell; have f2 := HO2.out.free; have hz2 := hb2.size; have B2 : Below w.heap.size w w2 := below_then B1 hb2)
     | (go_at_call 231; refine (HM.out _).mono ?_; rintro e w3 ⟨rfl, hb3⟩; have HO3 := Lib.hid (HO2.out.below hb3); clear q1 q2 f2; obtain ⟨q2, f2⟩ := HO3.out.out; have hz3 := hb3.size; have B3 : Below w.heap.size w w3 := below_then B2 hb3))
     exact bodyPost_ret (v := .tuple #[.agg #[.int .i64 e.seat.p, .int .i64 e.seat.d, .int .i64 e.seat.s, .int .i64 e.seat.h, .int .i64 e.send, .int .i64 e.fault, .int .i64 e.work, .bool e.ch], .int .i64 0]) (by simp [results, Tryz.results145, go_sem, q2, f2]) rfl ⟨rfl, by go_grown⟩
   by_cases k3 : k = 13
   · subst k3
     rw [show gHow 13 13 = 1 from rfl]
     have hM := fun W => gmoved_of ⟨p, d, s0, h0⟩ (s) (1) (13) W
     obtain ⟨e, he⟩ : ∃ e, e = gMoved ⟨p, d, s0, h0⟩ (s) (1) (13) := ⟨_, rfl⟩
     rw [← he] at hM ⊢
     dsimp only [seatV, effV] at hM ⊢
     have HM := Lib.hid hM; clear hM he
     go_enter Tryz.func145, Tryz.ntmps145
     go_wp2_with (first
     | (go_at_call 201; refine (HR.out _).mono ?_; rintro e w1 ⟨rfl, hb1⟩; have HA1 := Lib.hid (((Blk.fresh w _ _ _ rfl).alloc _).below hb1); have HO1 := Lib.hid ((Blk.fresh _ _ _ (w.heap.size + 1) (by simp only [World.size_alloc])).below hb1); obtain ⟨q1, f1⟩ := HA1.out.out; obtain ⟨q2, f2⟩ := HO1.out.out; have hz1 := hb1.size; simp only [World.size_alloc] at hz1; have B1 : Below w.heap.size w w1 := below_then (by go_grown) hb1)
     | (go_at_call 230; refine (HL.out _).mono ?_; rintro e w2 ⟨rfl, hb2⟩; have HA2 := Lib.hid (HA1.out.below hb2); have HO2 := Lib.hid (HO1.out.below hb2); clear q1 f1 q2 f2; have q1 := HA2.out.cell; have q2 := HO2.out.cell; have f2 := HO2.out.free; have hz2 := hb2.size; have B2 : Below w.heap.size w w2 := below_then B1 hb2)
     | (go_at_call 231; refine (HM.out _).mono ?_; rintro e w3 ⟨rfl, hb3⟩; have HO3 := Lib.hid (HO2.out.below hb3); clear q1 q2 f2; obtain ⟨q2, f2⟩ := HO3.out.out; have hz3 := hb3.size; have B3 : Below w.heap.size w w3 := below_then B2 hb3))
     exact bodyPost_ret (v := .tuple #[.agg #[.int .i64 e.seat.p, .int .i64 e.seat.d, .int .i64 e.seat.s, .int .i64 e.seat.h, .int .i64 e.send, .int .i64 e.fault, .int .i64 e.work, .bool e.ch], .int .i64 0]) (by simp [results, Tryz.results145, go_sem, q2, f2]) rfl ⟨rfl, by go_grown⟩
   by_cases k4 : k = 14
   · subst k4
     rw [show gHow 14 14 = 5 from rfl]
     have hM := fun W => gmoved_of ⟨p, d, s0, h0⟩ (s) (5) (14) W
     obtain ⟨e, he⟩ : ∃ e, e = gMoved ⟨p, d, s0, h0⟩ (s) (5) (14) := ⟨_, rfl⟩
     rw [← he] at hM ⊢
     dsimp only [seatV, effV] at hM ⊢
     have HM := Lib.hid hM; clear hM he
     go_enter Tryz.func145, Tryz.ntmps145
     go_wp2_with (first
     | (go_at_call 201; refine (HR.out _).mono ?_; rintro e w1 ⟨rfl, hb1⟩; have HA1 := Lib.hid (((Blk.fresh w _ _ _ rfl).alloc _).below hb1); have HO1 := Lib.hid ((Blk.fresh _ _ _ (w.heap.size + 1) (by simp only [World.size_alloc])).below hb1); obtain ⟨q1, f1⟩ := HA1.out.out; obtain ⟨q2, f2⟩ := HO1.out.out; have hz1 := hb1.size; simp only [World.size_alloc] at hz1; have B1 : Below w.heap.size w w1 := below_then (by go_grown) hb1)
     | (go_at_call 230; refine (HL.out _).mono ?_; rintro e w2 ⟨rfl, hb2⟩; have HA2 := Lib.hid (HA1.out.below hb2); have HO2 := Lib.hid (HO1.out.below hb2); clear q1 f1 q2 f2; have q1 := HA2.out.cell; have q2 := HO2.out.cell; have f2 := HO2.out.free; have hz2 := hb2.size; have B2 : Below w.heap.size w w2 := below_then B1 hb2)
     | (go_at_call 231; refine (HM.out _).mono ?_; rintro e w3 ⟨rfl, hb3⟩; have HO3 := Lib.hid (HO2.out.below hb3); clear q1 q2 f2; obtain ⟨q2, f2⟩ := HO3.out.out; have hz3 := hb3.size; have B3 : Below w.heap.size w w3 := below_then B2 hb3))
     exact bodyPost_ret (v := .tuple #[.agg #[.int .i64 e.seat.p, .int .i64 e.seat.d, .int .i64 e.seat.s, .int .i64 e.seat.h, .int .i64 e.send, .int .i64 e.fault, .int .i64 e.work, .bool e.ch], .int .i64 0]) (by simp [results, Tryz.results145, go_sem, q2, f2]) rfl ⟨rfl, by go_grown⟩
   rw [show gHow k k = k by simp [gHow, k2, k3, k4]]
   have l2 : (k == 12) = false := by simpa using k2
   have l3 : (k == 13) = false := by simpa using k3
   have l4 : (k == 14) = false := by simpa using k4
   clear k2 k3 k4
   have hM := fun W => gmoved_of ⟨p, d, s0, h0⟩ (s) (k) (k) W
   obtain ⟨e, he⟩ : ∃ e, e = gMoved ⟨p, d, s0, h0⟩ (s) (k) (k) := ⟨_, rfl⟩
   rw [← he] at hM ⊢
   dsimp only [seatV, effV] at hM ⊢
   have HM := Lib.hid hM; clear hM he
   go_enter Tryz.func145, Tryz.ntmps145
   go_wp2_with (first
     | (go_at_call 201; refine (HR.out _).mono ?_; rintro e w1 ⟨rfl, hb1⟩; have HA1 := Lib.hid (((Blk.fresh w _ _ _ rfl).alloc _).below hb1); have HO1 := Lib.hid ((Blk.fresh _ _ _ (w.heap.size + 1) (by simp only [World.size_alloc])).below hb1); obtain ⟨q1, f1⟩ := HA1.out.out; obtain ⟨q2, f2⟩ := HO1.out.out; have hz1 := hb1.size; simp only [World.size_alloc] at hz1; have B1 : Below w.heap.size w w1 := below_then (by go_grown) hb1)
     | (go_at_call 230; refine (HL.out _).mono ?_; rintro e w2 ⟨rfl, hb2⟩; have HA2 := Lib.hid (HA1.out.below hb2); have HO2 := Lib.hid (HO1.out.below hb2); clear q1 f1 q2 f2; have q1 := HA2.out.cell; have q2 := HO2.out.cell; have f2 := HO2.out.free; have hz2 := hb2.size; have B2 : Below w.heap.size w w2 := below_then B1 hb2)
     | (go_at_call 231; refine (HM.out _).mono ?_; rintro e w3 ⟨rfl, hb3⟩; have HO3 := Lib.hid (HO2.out.below hb3); clear q1 q2 f2; obtain ⟨q2, f2⟩ := HO3.out.out; have hz3 := hb3.size; have B3 : Below w.heap.size w w3 := below_then B2 hb3))
   exact bodyPost_ret (v := .tuple #[.agg #[.int .i64 e.seat.p, .int .i64 e.seat.d, .int .i64 e.seat.s, .int .i64 e.seat.h, .int .i64 e.send, .int .i64 e.fault, .int .i64 e.work, .bool e.ch], .int .i64 0]) (by simp [results, Tryz.results145, go_sem, q2, f2]) rfl ⟨rfl, by go_grown⟩
end Go.Proofs.YtlkajejbfojkeaaGreatDoor

namespace Go.Proofs.YtlkajejbfojkeaaGreatDoor

def doTest (x : MSeat) (k : Int) : Bool := decide ((mDo x k).2 ≠ 0) || (decide (x.s ≠ 14) && (mRight (mDo x k).1.seat && (decide ((mDo x k).1.seat.p = x.p ∧ (mDo x k).1.seat.d = x.d ∧ (mDo x k).1.send = k) && stOk (mDo x k).1.seat.s (mDo x k).1.seat.h)))
set_option maxRecDepth 100000 in
theorem doTest_all : (seatList.all fun x => !mRight x || kinds15.all fun k => doTest x k) = true := by decide +kernel
theorem doTest_in {x : MSeat} {k : Int} (h : mRight x = true) : doTest x k = true := by
 by_cases hk : 0 ≤ k ∧ k ≤ 14
 · have h1 := List.all_eq_true.1 doTest_all x (seat_mem h)
   rw [h] at h1
   exact List.all_eq_true.1 (by simpa using h1) k (by simp [kinds15]; omega)
 · have h2 := (eq_out (x := x) (k := k) (by rw [h]; simp) hk).2
   have h3 : (rStep x.p x.d k x.s).2 ≠ 0 := by
     unfold rStep; rw [rSends_out (fun h' => hk ⟨by omega, by omega⟩)]
     by_cases hs : rSide x.p x.d = false
     · rw [if_pos hs]; simp
     · rw [if_neg hs, if_pos rfl]; simp
   unfold doTest mDo
   rw [if_neg (by rw [h]; simp), if_pos h3]
   simp [h3]
theorem do_goes {x : MSeat} {k : Int} (h : mRight x = true) (h0 : (mDo x k).2 = 0) : x.s ≠ 14 ∧ mRight (mDo x k).1.seat = true ∧ ((mDo x k).1.seat.p = x.p ∧ (mDo x k).1.seat.d = x.d ∧ (mDo x k).1.send = k) ∧ stOk (mDo x k).1.seat.s (mDo x k).1.seat.h = true := by
 have h1 := doTest_in (k := k) h
 unfold doTest at h1
 simp only [Bool.or_eq_true, Bool.and_eq_true, decide_eq_true_eq] at h1
 rcases h1 with h1 | h1
 · exact absurd h0 h1
 · exact ⟨h1.1, h1.2.1, h1.2.2.1, h1.2.2.2⟩
theorem pDo_fits {S : Sto} (hS : StoGood S) (pt k : Int) : ∃ T, sfit S (pDo S pt k).1.fs = (T, true) := by
 unfold pDo
 cases hp : pGet S pt with
 | none => exact ⟨S, rfl⟩
 | some p =>
   simp only
   split
   · exact ⟨S, rfl⟩
   split
   · exact ⟨S, rfl⟩
   · rename_i h1 h2
     obtain ⟨q1, q2, q3, q4⟩ := hS.part p (pGet_some hp).2.2.2
     obtain ⟨g1, g2, g3, g4⟩ := do_goes (k := k) q4 (by simpa using h2)
     have he : (⟨p.seat.p, p.seat.d, (mDo p.seat k).1.seat.s, (mDo p.seat k).1.seat.h⟩ : MSeat) = (mDo p.seat k).1.seat := by rw [← g3.1, ← g3.2.1]
     have ha := apply_turn (s := (mDo p.seat k).1.seat.s) (h := (mDo p.seat k).1.seat.h) hS hp g1 (by rw [he]; exact g2) g4
     exact ⟨_, by unfold sfit; rw [ha, if_pos rfl]; rfl⟩
theorem pDo_ex {S : Sto} {pt k : Int} : ∀ f ∈ (pDo S pt k).1.fs, f.ex = 0 := by
 intro f hf
 unfold pDo at hf
 split at hf
 · cases hf
 · split at hf
   · cases hf
   split at hf
   · cases hf
   · obtain rfl := List.mem_singleton.1 hf; rfl
theorem pDo_len {S : Sto} {pt k : Int} : (pDo S pt k).1.fs.length ≤ 1 ∧ (pDo S pt k).1.ms.length ≤ 1 := by
 unfold pDo
 split
 · simp [res0]
 · split
   · simp [res0]
   split
   · simp [res0]
   · simp
end Go.Proofs.YtlkajejbfojkeaaGreatDoor

namespace Go.Proofs.YtlkajejbfojkeaaGreatDoor
open Go.RowKit
attribute [local go_sem] store_float

def MsgC (w : World) (b o : Nat) (m : SMsg) : Prop := w.cell? ⟨b, o, none⟩ = some (.int .i64 m.k) ∧ w.cell? ⟨b, o + 1, none⟩ = some (.int .i64 m.fr) ∧ w.cell? ⟨b, o + 2, none⟩ = some (.int .i64 m.to) ∧ w.cell? ⟨b, o + 3, none⟩ = some (.int .i64 m.an) ∧ w.cell? ⟨b, o + 4, none⟩ = some (.int .i64 m.aq) ∧ w.cell? ⟨b, o + 5, none⟩ = some (.int .i64 m.rg) ∧ w.cell? ⟨b, o + 6, none⟩ = some (.int .i64 m.pt) ∧ w.cell? ⟨b, o + 7, none⟩ = some (.int .i64 m.pr) ∧ w.cell? ⟨b, o + 8, none⟩ = some (.int .i64 m.co)
theorem MsgC.below {w w' : World} {b o : Nat} {m : SMsg} (h : MsgC w b o m) (hb : Below w.heap.size w w') (hl : b < w.heap.size) : MsgC w' b o m :=
 ⟨(hb.cell (p := ⟨b, o, none⟩) hl).trans h.1, (hb.cell (p := ⟨b, o + 1, none⟩) hl).trans h.2.1, (hb.cell (p := ⟨b, o + 2, none⟩) hl).trans h.2.2.1, (hb.cell (p := ⟨b, o + 3, none⟩) hl).trans h.2.2.2.1, (hb.cell (p := ⟨b, o + 4, none⟩) hl).trans h.2.2.2.2.1, (hb.cell (p := ⟨b, o + 5, none⟩) hl).trans h.2.2.2.2.2.1, (hb.cell (p := ⟨b, o + 6, none⟩) hl).trans h.2.2.2.2.2.2.1, (hb.cell (p := ⟨b, o + 7, none⟩) hl).trans h.2.2.2.2.2.2.2.1, (hb.cell (p := ⟨b, o + 8, none⟩) hl).trans h.2.2.2.2.2.2.2.2⟩
def ReadMsgs (w : World) (v : Value) (ms : List SMsg) : Prop := ∃ a cap, v = .slice a ms.length cap ∧ (ms ≠ [] → ∃ b off, a = some ⟨b, off, none⟩ ∧ b < w.heap.size ∧ ∀ (j : Nat) (h : j < ms.length), MsgC w b (off + j * 9) ms[j])
theorem ReadMsgs.below {w w' : World} {v : Value} {ms : List SMsg} (h : ReadMsgs w v ms) (hb : Below w.heap.size w w') : ReadMsgs w' v ms := by
 obtain ⟨a, cap, hv, hr⟩ := h
 refine ⟨a, cap, hv, fun hn => ?_⟩
 obtain ⟨b, off, ha, hl, hc⟩ := hr hn
 exact ⟨b, off, ha, Nat.lt_of_lt_of_le hl hb.size, fun j hj => (hc j hj).below hb hl⟩
theorem ReadFacts.below {w w' : World} {v : Value} {fs : List SFact} (h : ReadFacts w v fs) (hb : Below w.heap.size w w') : ReadFacts w' v fs := by
 obtain ⟨a, cap, hv, hr⟩ := h
 refine ⟨a, cap, hv, fun hn => ?_⟩
 obtain ⟨b, off, ha, hl, hc⟩ := hr hn
 exact ⟨b, off, ha, Nat.lt_of_lt_of_le hl hb.size, fun j hj => (hc j hj).below hb hl⟩
theorem read_mrow {w : World} {B : Nat} {v : Value} {ms : List SMsg} (h : w.ownsRow B 81 9 v ms.length (msgsL ms)) : ReadMsgs w v ms := by
 obtain ⟨a, cap, hv⟩ := row_slice h
 subst hv
 refine ⟨a, cap, rfl, fun hn => ?_⟩
 obtain ⟨g, cap', hv, _, _, hg, hc, _⟩ := row_form h (by cases ms with | nil => exact absurd rfl hn | cons => simp)
 simp only [Value.slice.injEq, true_and] at hv
 obtain ⟨rfl, rfl⟩ := hv
 refine ⟨g, 0, rfl, hg, fun j hj => ?_⟩
 have hat := fun i hi => flat_at msgL 9 msgL_len ms j i hj hi
 rw [Nat.zero_add]
 exact ⟨hc _ _ (hat 0 (by decide)), hc _ _ (hat 1 (by decide)), hc _ _ (hat 2 (by decide)), hc _ _ (hat 3 (by decide)), hc _ _ (hat 4 (by decide)), hc _ _ (hat 5 (by decide)), hc _ _ (hat 6 (by decide)), hc _ _ (hat 7 (by decide)), hc _ _ (hat 8 (by decide))⟩
theorem slice_own {w : World} {B : Nat} {T : TypeId} {s : Nat} {v : Value} {n : Nat} {xs : List Value} (h : w.ownsRow B T s v n xs) : ∀ k, sliceBlock v = some k → v.ownBlock = some k := by
 intro k hk
 rcases h.2 with ⟨hv, _⟩ | ⟨g, cap', cur, hv, _⟩
 · subst hv; cases hk
 · subst hv; simpa [sliceBlock, Value.ownBlock] using hk
theorem read_mnil {w : World} {cap : Nat} {a : Option Addr} : ReadMsgs w (.slice a 0 cap) [] := ⟨a, cap, rfl, fun h => absurd rfl h⟩
theorem read_mone {w : World} {b cap : Nat} {m : SMsg} (h : Blk w b (msgA m)) : ReadMsgs w (.slice (some ⟨b, 0, none⟩) 1 cap) [m] := by
 refine ⟨_, cap, rfl, fun _ => ⟨b, 0, rfl, h.lt, fun j hj => ?_⟩⟩
 obtain rfl : j = 0 := by simpa using hj
 exact ⟨h.cell 0, h.cell 1, h.cell 2, h.cell 3, h.cell 4, h.cell 5, h.cell 6, h.cell 7, h.cell 8⟩
theorem read_fone {w : World} {b cap : Nat} {f : SFact} (h : Blk w b (factC f)) : ReadFacts w (.slice (some ⟨b, 0, none⟩) 1 cap) [f] := by
 refine ⟨_, cap, rfl, fun _ => ⟨b, 0, rfl, h.lt, fun j hj => ?_⟩⟩
 obtain rfl : j = 0 := by simpa using hj
 exact ⟨h.cell 0, h.cell 1, h.cell 2, h.cell 3, h.cell 4, h.cell 5, h.cell 6, h.cell 7, h.cell 8, h.cell 9, h.cell 10, h.cell 11, h.cell 12, h.cell 13⟩

theorem rpart_at {R : RLoc} {S : Sto} {w : World} {pt : Int} {p : SPart} (h : RStoreAt R S w) (hl : S.parts.length ≤ 8) (hp : pGet S pt = some p) : ∃ i n g cap : Nat, pt = (i : Int) ∧ i < n ∧ n ≤ 8 ∧ n = S.parts.length ∧ w.cell? ⟨R.sb, 3, none⟩ = some (.slice (some ⟨g, 0, none⟩) n cap) ∧ R.sb < w.heap.size ∧ g < w.heap.size ∧ PartC w g (i * 7) p := by
 obtain ⟨h0, h1, h2, _⟩ := pGet_some hp
 obtain ⟨i, rfl⟩ : ∃ i : Nat, pt = i := ⟨pt.toNat, by omega⟩
 rw [Int.toNat_natCast] at h1 h2
 obtain ⟨a, cap, hv, hn, hrow⟩ := part_row h.parts
 obtain ⟨g, rfl, hg, hfz, hcell⟩ := hrow (by omega)
 exact ⟨i, S.parts.length, g, cap, rfl, h1, hl, rfl, by rw [← hv]; exact h.blk.cell 3, h.blk.lt, hg, hcell i p h2⟩
theorem pGet_dec {S : Sto} {pt : Int} : (pGet S pt).isSome = decide (0 ≤ pt ∧ pt < (S.parts.length : Int)) := by
 unfold pGet
 split
 · rename_i h
   by_cases h1 : pt < (S.parts.length : Int)
   · rw [decide_eq_true ⟨h, h1⟩, List.getElem?_eq_getElem (by omega)]; rfl
   · rw [decide_eq_false (fun e => h1 e.2), List.getElem?_eq_none (by omega)]; rfl
 · rename_i h
   rw [decide_eq_false (fun e => h e.1)]; rfl
theorem rhas16_of (R : RLoc) (S : Sto) (pt : Int) (w : World) (h : RStoreAt R S w) : Calls Tryz.prog 144 #[.pointer (some ⟨R.sb, 0, none⟩), .int .i64 pt] w (Gives (.bool (pGet S pt).isSome) w) := by
 rw [pGet_dec]
 have q := h.blk.cell
 obtain ⟨a, cap, hv⟩ := row_slice h.parts
 rw [hv] at q
 obtain ⟨n, hn⟩ : ∃ n, n = S.parts.length := ⟨_, rfl⟩
 rw [← hn] at q ⊢
 have c3 : w.cell? ⟨R.sb, 3, none⟩ = some (.slice a n cap) := q 3
 clear q hn hv h
 by_cases h0 : 0 ≤ pt
 · by_cases h1 : pt < (n : Int)
   · rw [decide_eq_true ⟨h0, h1⟩]
     go_enter Tryz.func144, Tryz.ntmps144
     go_wp2_with fail
     go_ret
     exact ⟨rfl, rfl⟩
   · rw [decide_eq_false (fun x => h1 x.2)]
     go_enter Tryz.func144, Tryz.ntmps144
     go_wp2_with fail
     go_ret
     exact ⟨rfl, rfl⟩
 · rw [decide_eq_false (fun x => h0 x.1)]
   go_enter Tryz.func144, Tryz.ntmps144
   go_wp2_with fail
   go_ret
   exact ⟨rfl, rfl⟩
set_option maxRecDepth 100000 in
set_option maxHeartbeats 2000000 in
theorem rmsg16_of (R : RLoc) (S : Sto) (pt rg k : Int) (p : SPart) (w : World) (h : RStoreAt R S w) (hl : S.parts.length ≤ 8) (hp : pGet S pt = some p) : Calls Tryz.prog 146 #[.pointer (some ⟨R.sb, 0, none⟩), .int .i64 pt, .int .i64 rg, .int .i64 k] w (Makes (msgV (pMsg S pt p rg k)) w) := by
 obtain ⟨i, n, g, cap, rfl, hin, hn8, hnl, c3, hsb, hg, p0, p1, p2, p3, p4, p5, p6⟩ := rpart_at h hl hp
 clear hnl
 have c0 : w.cell? ⟨R.sb, 0, none⟩ = some (.int .i64 S.node) := h.blk.cell 0
 have hi0 : (0 : Int) ≤ (i : Int) := by omega
 have hi1 : (i : Int) < (n : Int) := by omega
 unfold pMsg
 obtain ⟨nd, hnd⟩ : ∃ nd, nd = S.node := ⟨_, rfl⟩
 rw [← hnd] at c0 ⊢
 obtain ⟨pan, paq, prg, ⟨sp, sd, ss, sh⟩⟩ := p
 dsimp only [msgV, msgA] at *
 clear h hp hl hnd
 go_enter Tryz.func146, Tryz.ntmps146
 go_wp2_with fail
 have HT0 : Hid (((w.alloc (.cells #[.int .i64 0, .int .i64 0, .int .i64 0, .int .i64 0, .int .i64 0, .int .i64 0, .int .i64 0, .int .i64 0, .int .i64 0] 81)).alloc (.cells #[.int .i64 pan, .int .i64 paq, .int .i64 prg, .int .i64 sp, .int .i64 sd, .int .i64 ss, .int .i64 sh] 166)).drew.heap[w.heap.size]? = some (.cells #[.int .i64 0, .int .i64 0, .int .i64 0, .int .i64 0, .int .i64 0, .int .i64 0, .int .i64 0, .int .i64 0, .int .i64 0] 81 (0, 0))) := Lib.hid ((((Below.refl _ _).alloc (Nat.le_refl _) _).block _ (by simp)).trans (heap_alloc_new _ _))
 have HB0 : Hid (Below w.heap.size w ((w.alloc (.cells #[.int .i64 0, .int .i64 0, .int .i64 0, .int .i64 0, .int .i64 0, .int .i64 0, .int .i64 0, .int .i64 0, .int .i64 0] 81)).alloc (.cells #[.int .i64 pan, .int .i64 paq, .int .i64 prg, .int .i64 sp, .int .i64 sd, .int .i64 ss, .int .i64 sh] 166)).drew) := Lib.hid (by go_grown)
 have q0 : ((w.alloc (.cells #[.int .i64 0, .int .i64 0, .int .i64 0, .int .i64 0, .int .i64 0, .int .i64 0, .int .i64 0, .int .i64 0, .int .i64 0] 81)).alloc (.cells #[.int .i64 pan, .int .i64 paq, .int .i64 prg, .int .i64 sp, .int .i64 sd, .int .i64 ss, .int .i64 sh] 166)).drew.cell? ⟨R.sb, 0, none⟩ = some (.int .i64 nd) := (HB0.out.cell (p := ⟨R.sb, 0, none⟩) hsb).trans c0
 have q1 : ∀ i, ((w.alloc (.cells #[.int .i64 0, .int .i64 0, .int .i64 0, .int .i64 0, .int .i64 0, .int .i64 0, .int .i64 0, .int .i64 0, .int .i64 0] 81)).alloc (.cells #[.int .i64 pan, .int .i64 paq, .int .i64 prg, .int .i64 sp, .int .i64 sd, .int .i64 ss, .int .i64 sh] 166)).drew.cell? ⟨w.heap.size + 1, i, none⟩ = #[.int .i64 pan, .int .i64 paq, .int .i64 prg, .int .i64 sp, .int .i64 sd, .int .i64 ss, .int .i64 sh][i]? := ((Blk.fresh (w.alloc (.cells #[.int .i64 0, .int .i64 0, .int .i64 0, .int .i64 0, .int .i64 0, .int .i64 0, .int .i64 0, .int .i64 0, .int .i64 0] 81)) #[.int .i64 pan, .int .i64 paq, .int .i64 prg, .int .i64 sp, .int .i64 sd, .int .i64 ss, .int .i64 sh] 166 (w.heap.size + 1) (by simp)).drew).cell
 have hz0 : w.heap.size < ((w.alloc (.cells #[.int .i64 0, .int .i64 0, .int .i64 0, .int .i64 0, .int .i64 0, .int .i64 0, .int .i64 0, .int .i64 0, .int .i64 0] 81)).alloc (.cells #[.int .i64 pan, .int .i64 paq, .int .i64 prg, .int .i64 sp, .int .i64 sd, .int .i64 ss, .int .i64 sh] 166)).drew.heap.size := by simp; omega
 clear c0 c3 p0 p1 p2 p3 p4 p5 p6
 generalize ((w.alloc (.cells #[.int .i64 0, .int .i64 0, .int .i64 0, .int .i64 0, .int .i64 0, .int .i64 0, .int .i64 0, .int .i64 0, .int .i64 0] 81)).alloc (.cells #[.int .i64 pan, .int .i64 paq, .int .i64 prg, .int .i64 sp, .int .i64 sd, .int .i64 ss, .int .i64 sh] 166)) = w0 at *
 go_still_tail 13, (by kernel_rfl)
 change wpList _ _ _ _ _ w0.drew
 go_wp2_with (refine wpList_store_row rfl 81 (.tmp 8) (.tmp 29) rfl w.heap.size #[.int .i64 k, .int .i64 nd, .int .i64 pan, .int .i64 pan, .int .i64 paq, .int .i64 rg, .int .i64 i, .int .i64 0, .int .i64 0] rfl rfl 81 #[.int .i64 0, .int .i64 0, .int .i64 0, .int .i64 0, .int .i64 0, .int .i64 0, .int .i64 0, .int .i64 0, .int .i64 0] HT0.out (by kernel_rfl) rfl (by simp [Value.oneCell']) ?_)
 obtain ⟨HFr, hgr⟩ := row_end (cells := #[.int .i64 k, .int .i64 nd, .int .i64 pan, .int .i64 pan, .int .i64 paq, .int .i64 rg, .int .i64 i, .int .i64 0, .int .i64 0]) HT0.out
 obtain ⟨q1, f1⟩ := HFr.out
 exact bodyPost_ret (v := .agg #[.int .i64 k, .int .i64 nd, .int .i64 pan, .int .i64 pan, .int .i64 paq, .int .i64 rg, .int .i64 i, .int .i64 0, .int .i64 0]) (by simp [results, Tryz.results146, go_sem, q1, f1]) rfl ⟨rfl, HB0.out.grown hgr (by omega) (fun k hk => by injection hk with hk; omega)⟩
end Go.Proofs.YtlkajejbfojkeaaGreatDoor

namespace Go.Proofs.YtlkajejbfojkeaaGreatDoor
open Go.RowKit
attribute [local go_sem] store_float

theorem gdo_eq (x : MSeat) (k : Int) (w : World) : Calls Tryz.prog 145 #[seatV x, .int .i64 k] w (Makes (.tuple #[effV (mDo x k).1, .int .i64 (mDo x k).2]) w) := by
 rw [(eq_any x k).2]; exact gdo_of x k w
def RDoEnds (r : SRes) (n : Int) (w : World) (e : Ending) (w' : World) : Prop := ∃ fv mv, e = .returned (.tuple #[.agg #[fv, mv, .int .i64 r.wk], .int .i64 n]) ∧ ReadFacts w' fv r.fs ∧ ReadMsgs w' mv r.ms ∧ Below w.heap.size w w'
set_option maxRecDepth 100000 in
set_option maxHeartbeats 4000000 in
theorem rreg16_of (R : RLoc) (S : Sto) (pt : Int) (p : SPart) (w : World) (h : RStoreAt R S w) (hl : S.parts.length ≤ 8) (hp : pGet S pt = some p) : Calls Tryz.prog 147 #[.pointer (some ⟨R.sb, 0, none⟩), .int .i64 pt] w (Makes (msgV (pReg S pt p)) w) := by
 have hM := fun W hW => rmsg16_of R S pt 0 17 p W hW hl hp
 obtain ⟨i, n, g, cap, rfl, hin, hn8, hnl, c3, hsb, hg, hC⟩ := rpart_at h hl hp
 clear hnl
 have hi0 : (0 : Int) ≤ (i : Int) := by omega
 have hi1 : (i : Int) < (n : Int) := by omega
 unfold pMsg at hM
 unfold pReg
 obtain ⟨nd, hnd⟩ : ∃ nd, nd = S.node := ⟨_, rfl⟩
 rw [← hnd] at hM ⊢
 have HM := Lib.hid hM; have H := Lib.hid h; have HC := Lib.hid hC; have HQ := Lib.hid c3
 obtain ⟨pan, paq, prg, ⟨sp, sd, ss, sh⟩⟩ := p
 dsimp only [msgV, msgA] at *
 clear h hp hl hnd hM hC c3
 go_enter Tryz.func147, Tryz.ntmps147
 go_wp2_with fail
 refine (HM.out _ (H.out.below (by go_grown))).mono ?_
 rintro e w1 ⟨rfl, hb1⟩
 have B1 : Below w.heap.size w w1 := below_then (by go_grown) hb1
 have hz1 : w.heap.size < w1.heap.size := by have := hb1.size; simp at this; omega
 have hs1 : R.sb < w1.heap.size := by omega
 have hg1 : g < w1.heap.size := by omega
 have hs2 : ¬ w1.heap.size = R.sb := by omega
 have HT0 : Hid (w1.heap[w.heap.size]? = some (.cells #[.int .i64 0, .int .i64 0, .int .i64 0, .int .i64 0, .int .i64 0, .int .i64 0, .int .i64 0, .int .i64 0, .int .i64 0] 81 (0, 0))) := Lib.hid ((hb1.block _ (by simp)).trans (heap_alloc_new _ _))
 have c3 := (B1.cell (p := ⟨R.sb, 3, none⟩) hsb).trans HQ.out
 obtain ⟨_, _, _, p3, _, _, _⟩ := HC.out.below B1 hg
 have HT2 : Hid ((w1.alloc (.cells #[.int .i64 17, .int .i64 nd, .int .i64 pan, .int .i64 pan, .int .i64 paq, .int .i64 0, .int .i64 i, .int .i64 sp, .int .i64 0] 81)).heap[w.heap.size]? = some (.cells #[.int .i64 0, .int .i64 0, .int .i64 0, .int .i64 0, .int .i64 0, .int .i64 0, .int .i64 0, .int .i64 0, .int .i64 0] 81 (0, 0))) := Lib.hid ((((Below.refl w1.heap.size w1).alloc (Nat.le_refl _) _).block _ hz1).trans HT0.out)
 clear hb1
 go_wp2_with (refine wpList_store_row rfl 81 (.tmp 4) (.tmp 19) rfl w.heap.size #[.int .i64 17, .int .i64 nd, .int .i64 pan, .int .i64 pan, .int .i64 paq, .int .i64 0, .int .i64 i, .int .i64 sp, .int .i64 0] rfl rfl 81 #[.int .i64 0, .int .i64 0, .int .i64 0, .int .i64 0, .int .i64 0, .int .i64 0, .int .i64 0, .int .i64 0, .int .i64 0] HT2.out (by kernel_rfl) rfl (by simp [Value.oneCell']) ?_)
 obtain ⟨HFr, hgr⟩ := row_end (cells := #[.int .i64 17, .int .i64 nd, .int .i64 pan, .int .i64 pan, .int .i64 paq, .int .i64 0, .int .i64 i, .int .i64 sp, .int .i64 0]) HT2.out
 obtain ⟨q1, f1⟩ := HFr.out
 exact bodyPost_ret (v := .agg #[.int .i64 17, .int .i64 nd, .int .i64 pan, .int .i64 pan, .int .i64 paq, .int .i64 0, .int .i64 i, .int .i64 sp, .int .i64 0]) (by simp [results, Tryz.results147, go_sem, q1, f1]) rfl ⟨rfl, (show Below w.heap.size w (World.alloc _ _) by go_grown).grown hgr (by first | omega | (simp; done) | (simp; omega)) (fun k hk => by injection hk with hk; omega)⟩
set_option maxRecDepth 100000 in
set_option maxHeartbeats 4000000 in
theorem rdo_none (R : RLoc) (S : Sto) (pt k : Int) (w : World) (h : RStoreAt R S w) (hp : pGet S pt = none) : Calls Tryz.prog 47 #[.pointer (some ⟨R.sb, 0, none⟩), .int .i64 pt, .int .i64 k] w (RDoEnds res0 8 w) := by
 have hH := fun W hW => rhas16_of R S pt W hW
 rw [hp] at hH
 dsimp only [Option.isSome] at hH
 have HH := Lib.hid hH; have H := Lib.hid h
 clear hH h hp
 go_enter Tryz.func47, Tryz.ntmps47
 go_wp2_with fail
 refine (HH.out _ (H.out.below (by go_grown))).mono ?_
 rintro e w1 ⟨rfl, rfl⟩
 go_wp2_with fail
 exact bodyPost_ret (v := .tuple #[.agg #[.slice none 0 0, .slice none 0 0, .int .i64 0], .int .i64 8]) (by simp [results, Tryz.results47, go_sem]) rfl ⟨_, _, rfl, read_nil, read_mnil, by go_grown⟩
set_option maxRecDepth 100000 in
set_option maxHeartbeats 4000000 in
theorem rdo_off (R : RLoc) (S : Sto) (pt k : Int) (p : SPart) (w : World) (h : RStoreAt R S w) (hl : S.parts.length ≤ 8) (hp : pGet S pt = some p) (hr : p.rg < 0) : Calls Tryz.prog 47 #[.pointer (some ⟨R.sb, 0, none⟩), .int .i64 pt, .int .i64 k] w (RDoEnds res0 9 w) := by
 have hH := fun W hW => rhas16_of R S pt W hW
 rw [hp] at hH
 dsimp only [Option.isSome] at hH
 obtain ⟨i, n, g, cap, rfl, hin, hn8, hnl, c3, hsb, hg, p0, p1, p2, p3, p4, p5, p6⟩ := rpart_at h hl hp
 clear hnl
 have hi0 : (0 : Int) ≤ (i : Int) := by omega
 have hi1 : (i : Int) < (n : Int) := by omega
 have HH := Lib.hid hH; have H := Lib.hid h
 obtain ⟨pan, paq, prg, ⟨sp, sd, ss, sh⟩⟩ := p
 dsimp only at *
 clear hH h hp hl
 go_enter Tryz.func47, Tryz.ntmps47
 go_wp2_with fail
 refine (HH.out _ (H.out.below (by go_grown))).mono ?_
 rintro e w1 ⟨rfl, rfl⟩
 go_wp2_with fail
 exact bodyPost_ret (v := .tuple #[.agg #[.slice none 0 0, .slice none 0 0, .int .i64 0], .int .i64 9]) (by simp [results, Tryz.results47, go_sem]) rfl ⟨_, _, rfl, read_nil, read_mnil, by go_grown⟩
set_option maxRecDepth 100000 in
set_option maxHeartbeats 4000000 in
theorem rdo_err (R : RLoc) (S : Sto) (pt k : Int) (p : SPart) (x : Eff) (en : Int) (hn : en ≠ 0) (w : World) (h : RStoreAt R S w) (hl : S.parts.length ≤ 8) (hp : pGet S pt = some p) (hr : ¬ p.rg < 0) (hD : ∀ W, Calls Tryz.prog 145 #[seatV p.seat, .int .i64 k] W (Makes (.tuple #[effV x, .int .i64 en]) W)) : Calls Tryz.prog 47 #[.pointer (some ⟨R.sb, 0, none⟩), .int .i64 pt, .int .i64 k] w (RDoEnds res0 en w) := by
 have hH := fun W hW => rhas16_of R S pt W hW
 rw [hp] at hH
 dsimp only [Option.isSome] at hH
 obtain ⟨i, n, g, cap, rfl, hin, hn8, hnl, c3, hsb, hg, p0, p1, p2, p3, p4, p5, p6⟩ := rpart_at h hl hp
 clear hnl
 have hi0 : (0 : Int) ≤ (i : Int) := by omega
 have hi1 : (i : Int) < (n : Int) := by omega
 have hn2 : (en != 0) = true := by simpa using hn
 have HH := Lib.hid hH; have H := Lib.hid h; have HD := Lib.hid hD
 obtain ⟨pan, paq, prg, ⟨sp, sd, ss, sh⟩⟩ := p
 obtain ⟨⟨xp, xd, xs, xh⟩, send, fault, work, cc⟩ := x
 dsimp only [seatV, effV, msgV, msgA] at *
 clear hH h hp hl hD hn
 go_enter Tryz.func47, Tryz.ntmps47
 go_wp2_with fail
 refine (HH.out _ (H.out.below (by go_grown))).mono ?_
 rintro e w1 ⟨rfl, rfl⟩
 go_wp2_with fail
 refine (HD.out _).mono ?_
 rintro e w1 ⟨rfl, hb1⟩
 have B1 : Below w.heap.size w w1 := below_then (by go_grown) hb1
 have hz1 : w.heap.size + 1 < w1.heap.size := by have := hb1.size; simp at this; omega
 have HV := Lib.hid (((Blk.fresh w #[.slice none 0 0, .slice none 0 0, .int .i64 0] 95 _ rfl).alloc _).below hb1)
 obtain ⟨qv, fv⟩ := HV.out.out
 have lv := HV.out.lt
 clear hb1
 go_wp2_with fail
 exact bodyPost_ret (v := .tuple #[.agg #[.slice none 0 0, .slice none 0 0, .int .i64 0], .int .i64 en]) (by simp [results, Tryz.results47, go_sem, qv, fv, lv, Nat.ne_of_lt lv]) rfl ⟨_, _, rfl, read_nil, read_mnil, by go_grown⟩
set_option maxRecDepth 100000 in
set_option maxHeartbeats 4000000 in
theorem rdo_ok (R : RLoc) (S : Sto) (pt k : Int) (p : SPart) (x : Eff) (w : World) (h : RStoreAt R S w) (hl : S.parts.length ≤ 8) (hp : pGet S pt = some p) (hr : ¬ p.rg < 0) (hD : ∀ W, Calls Tryz.prog 145 #[seatV p.seat, .int .i64 k] W (Makes (.tuple #[effV x, .int .i64 0]) W)) : Calls Tryz.prog 47 #[.pointer (some ⟨R.sb, 0, none⟩), .int .i64 pt, .int .i64 k] w (RDoEnds ⟨[fTurn pt x.seat.s x.seat.h], [pMsg S pt p p.rg k], x.work⟩ 0 w) := by
 have hM := fun W hW => rmsg16_of R S pt p.rg k p W hW hl hp
 have hH := fun W hW => rhas16_of R S pt W hW
 rw [hp] at hH
 dsimp only [Option.isSome] at hH
 obtain ⟨i, n, g, cap, rfl, hin, hn8, hnl, c3, hsb, hg, p0, p1, p2, p3, p4, p5, p6⟩ := rpart_at h hl hp
 clear hnl
 have hi0 : (0 : Int) ≤ (i : Int) := by omega
 have hi1 : (i : Int) < (n : Int) := by omega
 unfold pMsg at hM ⊢
 obtain ⟨nd, hnd⟩ : ∃ nd, nd = S.node := ⟨_, rfl⟩
 rw [← hnd] at hM ⊢
 have HM := Lib.hid hM
 have HH := Lib.hid hH; have H := Lib.hid h; have HD := Lib.hid hD
 obtain ⟨pan, paq, prg, ⟨sp, sd, ss, sh⟩⟩ := p
 obtain ⟨⟨xp, xd, xs, xh⟩, send, fault, work, cc⟩ := x
 dsimp only [seatV, effV, msgV, msgA, fTurn] at *
 clear hH h hp hl hD hM hnd
 go_enter Tryz.func47, Tryz.ntmps47
 go_wp2_with fail
 refine (HH.out _ (H.out.below (by go_grown))).mono ?_
 rintro e w1 ⟨rfl, rfl⟩
 go_wp2_with fail
 refine (HD.out _).mono ?_
 rintro e w1 ⟨rfl, hb1⟩
 have B1 : Below w.heap.size w w1 := below_then (by go_grown) hb1
 have hz1 : w.heap.size + 1 < w1.heap.size := by have := hb1.size; simp at this; omega
 have HV := Lib.hid (((Blk.fresh w #[.slice none 0 0, .slice none 0 0, .int .i64 0] 95 _ rfl).alloc _).below hb1)
 have HP := Lib.hid ((Blk.fresh (w.alloc (.cells #[.slice none 0 0, .slice none 0 0, .int .i64 0] 95)) #[.int .i64 pan, .int .i64 paq, .int .i64 prg, .int .i64 sp, .int .i64 sd, .int .i64 ss, .int .i64 sh] 166 (w.heap.size + 1) (by simp)).below hb1)
 have HKP := Lib.hid (fun w' (hW : Below (w1.alloc (.cells #[.int .i64 xp, .int .i64 xd, .int .i64 xs, .int .i64 xh, .int .i64 send, .int .i64 fault, .int .i64 work, .bool cc] 229)).heap.size (w1.alloc (.cells #[.int .i64 xp, .int .i64 xd, .int .i64 xs, .int .i64 xh, .int .i64 send, .int .i64 fault, .int .i64 work, .bool cc] 229)) w') => (HP.out.alloc (.cells #[.int .i64 xp, .int .i64 xd, .int .i64 xs, .int .i64 xh, .int .i64 send, .int .i64 fault, .int .i64 work, .bool cc] 229)).below hW)
 have HKE := Lib.hid (fun w' (hW : Below (w1.alloc (.cells #[.int .i64 xp, .int .i64 xd, .int .i64 xs, .int .i64 xh, .int .i64 send, .int .i64 fault, .int .i64 work, .bool cc] 229)).heap.size (w1.alloc (.cells #[.int .i64 xp, .int .i64 xd, .int .i64 xs, .int .i64 xh, .int .i64 send, .int .i64 fault, .int .i64 work, .bool cc] 229)) w') => (Blk.fresh w1 #[.int .i64 xp, .int .i64 xd, .int .i64 xs, .int .i64 xh, .int .i64 send, .int .i64 fault, .int .i64 work, .bool cc] 229 _ rfl).below hW)
 have HVK := Lib.hid (fun w' (hW : Below (w1.alloc (.cells #[.int .i64 xp, .int .i64 xd, .int .i64 xs, .int .i64 xh, .int .i64 send, .int .i64 fault, .int .i64 work, .bool cc] 229)).heap.size (w1.alloc (.cells #[.int .i64 xp, .int .i64 xd, .int .i64 xs, .int .i64 xh, .int .i64 send, .int .i64 fault, .int .i64 work, .bool cc] 229)) w') => (HV.out.alloc (.cells #[.int .i64 xp, .int .i64 xd, .int .i64 xs, .int .i64 xh, .int .i64 send, .int .i64 fault, .int .i64 work, .bool cc] 229)).below hW)
 clear hb1 p0 p1 p2 p3 p4 p5 p6 c3
 go_wp2_with fail
 go_region_held3 (fun w' => w'.cell? ⟨w.heap.size + 1, 2, none⟩ = some (.int .i64 prg) ∧ w'.cell? ⟨w1.heap.size, 2, none⟩ = some (.int .i64 xs) ∧ w'.cell? ⟨w1.heap.size, 3, none⟩ = some (.int .i64 xh) ∧ w'.cell? ⟨w1.heap.size, 6, none⟩ = some (.int .i64 work))
   (exact ⟨Blk.cell (C := #[.int .i64 pan, .int .i64 paq, .int .i64 prg, .int .i64 sp, .int .i64 sd, .int .i64 ss, .int .i64 sh]) (by repeat' first | (refine HKP.out _ ?_; go_grown; done) | refine Blk.alloc ?_ _ | refine Blk.other ?_ ?_ _ | (simp; done) | omega | (dsimp only; omega)) 2, Blk.cell (C := #[.int .i64 xp, .int .i64 xd, .int .i64 xs, .int .i64 xh, .int .i64 send, .int .i64 fault, .int .i64 work, .bool cc]) (by repeat' first | (refine HKE.out _ ?_; go_grown; done) | refine Blk.alloc ?_ _ | refine Blk.other ?_ ?_ _ | (simp; done) | omega | (dsimp only; omega)) 2, Blk.cell (C := #[.int .i64 xp, .int .i64 xd, .int .i64 xs, .int .i64 xh, .int .i64 send, .int .i64 fault, .int .i64 work, .bool cc]) (by repeat' first | (refine HKE.out _ ?_; go_grown; done) | refine Blk.alloc ?_ _ | refine Blk.other ?_ ?_ _ | (simp; done) | omega | (dsimp only; omega)) 3, Blk.cell (C := #[.int .i64 xp, .int .i64 xd, .int .i64 xs, .int .i64 xh, .int .i64 send, .int .i64 fault, .int .i64 work, .bool cc]) (by repeat' first | (refine HKE.out _ ?_; go_grown; done) | refine Blk.alloc ?_ _ | refine Blk.other ?_ ?_ _ | (simp; done) | omega | (dsimp only; omega)) 6⟩) (first
   | (go_at_call 146; refine (HM.out _ (H.out.below (by go_grown))).mono ?_; rintro e w2 ⟨rfl, hb2⟩; have B12 : Below (w1.alloc (.cells #[.int .i64 xp, .int .i64 xd, .int .i64 xs, .int .i64 xh, .int .i64 send, .int .i64 fault, .int .i64 work, .bool cc] 229)).heap.size (w1.alloc (.cells #[.int .i64 xp, .int .i64 xd, .int .i64 xs, .int .i64 xh, .int .i64 send, .int .i64 fault, .int .i64 work, .bool cc] 229)) w2 := below_then (by go_grown) hb2; have hz2 := B12.size; simp only [World.size_alloc] at hz2; have hV2 := HVK.out _ B12; have qv := hV2.cell; have fv := hV2.free; have lv := hV2.lt; have B2 : Below w.heap.size w w2 := below_then (by go_grown) hb2))
 all_goals go_wp2_with fail
 all_goals first
   | (refine bodyPost_ret (v := .tuple #[.agg #[.slice (some ⟨w1.heap.size + 1, 0, none⟩) 1 1, .slice (some ⟨w2.heap.size, 0, none⟩) 1 1, .int .i64 work], .int .i64 0]) ?_ rfl ⟨_, _, rfl, ?_, ?_, ?_⟩ <;> first | (simp [results, Tryz.results47, go_sem, qv, fv, lv, Nat.ne_of_lt lv]; done) | (refine read_fone ?_; (repeat' first | exact Blk.fresh _ _ _ _ rfl | exact Blk.fresh _ _ _ _ (by simp) | refine Blk.alloc ?_ _ | refine Blk.drew ?_ | refine Blk.other ?_ ?_ _ | refine Blk.below ?_ hb2 | (simp; done) | omega | (dsimp only; omega)); done) | (refine read_mone ?_; (repeat' first | exact Blk.fresh _ _ _ _ rfl | exact Blk.fresh _ _ _ _ (by simp) | refine Blk.alloc ?_ _ | refine Blk.drew ?_ | refine Blk.other ?_ ?_ _ | refine Blk.below ?_ hb2 | (simp; done) | omega | (dsimp only; omega)); done) | (go_grown; done))
   | (refine bodyPost_ret (v := .tuple #[.agg #[.slice (some ⟨w2.heap.size, 0, none⟩) 1 1, .slice (some ⟨w2.heap.size + 1, 0, none⟩) 1 1, .int .i64 work], .int .i64 0]) ?_ rfl ⟨_, _, rfl, ?_, ?_, ?_⟩ <;> first | (simp [results, Tryz.results47, go_sem, qv, fv, lv, Nat.ne_of_lt lv]; done) | (refine read_fone ?_; (repeat' first | exact Blk.fresh _ _ _ _ rfl | exact Blk.fresh _ _ _ _ (by simp) | refine Blk.alloc ?_ _ | refine Blk.drew ?_ | refine Blk.other ?_ ?_ _ | refine Blk.below ?_ hb2 | (simp; done) | omega | (dsimp only; omega)); done) | (refine read_mone ?_; (repeat' first | exact Blk.fresh _ _ _ _ rfl | exact Blk.fresh _ _ _ _ (by simp) | refine Blk.alloc ?_ _ | refine Blk.drew ?_ | refine Blk.other ?_ ?_ _ | refine Blk.below ?_ hb2 | (simp; done) | omega | (dsimp only; omega)); done) | (go_grown; done))
   | (refine bodyPost_ret (v := .tuple #[.agg #[.slice (some ⟨w2.heap.size + 1, 0, none⟩) 1 1, .slice (some ⟨w2.heap.size, 0, none⟩) 1 1, .int .i64 work], .int .i64 0]) ?_ rfl ⟨_, _, rfl, ?_, ?_, ?_⟩ <;> first | (simp [results, Tryz.results47, go_sem, qv, fv, lv, Nat.ne_of_lt lv]; done) | (refine read_fone ?_; (repeat' first | exact Blk.fresh _ _ _ _ rfl | exact Blk.fresh _ _ _ _ (by simp) | refine Blk.alloc ?_ _ | refine Blk.drew ?_ | refine Blk.other ?_ ?_ _ | refine Blk.below ?_ hb2 | (simp; done) | omega | (dsimp only; omega)); done) | (refine read_mone ?_; (repeat' first | exact Blk.fresh _ _ _ _ rfl | exact Blk.fresh _ _ _ _ (by simp) | refine Blk.alloc ?_ _ | refine Blk.drew ?_ | refine Blk.other ?_ ?_ _ | refine Blk.below ?_ hb2 | (simp; done) | omega | (dsimp only; omega)); done) | (go_grown; done))
theorem mwaits_eq {x : MSeat} (h : mRight x = true) : mWaits x = rWaits x.d x.s := by
 unfold mWaits
 rw [if_neg (by rw [h]; simp)]
 unfold mRight at h
 simp only [Bool.and_eq_true, decide_eq_true_eq] at h
 have h1 := h.1
 unfold rWait at h1 ⊢
 split at h1
 · simp at h1
 · rename_i h2
   rw [if_neg h2]
   split at h1
   · simp at h1
   · rename_i h3
     rw [if_neg h3]
set_option maxRecDepth 100000 in
set_option maxHeartbeats 4000000 in
theorem ragain_none (R : RLoc) (S : Sto) (pt : Int) (w : World) (h : RStoreAt R S w) (hp : pGet S pt = none) : Calls Tryz.prog 48 #[.pointer (some ⟨R.sb, 0, none⟩), .int .i64 pt] w (Makes (.tuple #[msgV msg0, .bool false]) w) := by
 have hH := fun W hW => rhas16_of R S pt W hW
 rw [hp] at hH
 dsimp only [Option.isSome] at hH
 have HH := Lib.hid hH; have H := Lib.hid h
 dsimp only [msgV, msgA, msg0]
 clear hH h hp
 go_enter Tryz.func48, Tryz.ntmps48
 go_wp2_with fail
 refine (HH.out _ (H.out.below (by go_grown))).mono ?_
 rintro e w1 ⟨rfl, rfl⟩
 have HT0 : Hid ((w.alloc (.cells #[.int .i64 0, .int .i64 0, .int .i64 0, .int .i64 0, .int .i64 0, .int .i64 0, .int .i64 0, .int .i64 0, .int .i64 0] 81)).heap[w.heap.size]? = some (.cells #[.int .i64 0, .int .i64 0, .int .i64 0, .int .i64 0, .int .i64 0, .int .i64 0, .int .i64 0, .int .i64 0, .int .i64 0] 81 (0, 0))) := Lib.hid (heap_alloc_new _ _)
 go_wp2_with (refine wpList_store_row rfl 81 (.tmp 4) (.tmp 12) rfl w.heap.size #[.int .i64 0, .int .i64 0, .int .i64 0, .int .i64 0, .int .i64 0, .int .i64 0, .int .i64 0, .int .i64 0, .int .i64 0] rfl rfl 81 #[.int .i64 0, .int .i64 0, .int .i64 0, .int .i64 0, .int .i64 0, .int .i64 0, .int .i64 0, .int .i64 0, .int .i64 0] HT0.out (by kernel_rfl) rfl (by simp [Value.oneCell']) ?_)
 obtain ⟨HFr, hgr⟩ := row_end (cells := #[.int .i64 0, .int .i64 0, .int .i64 0, .int .i64 0, .int .i64 0, .int .i64 0, .int .i64 0, .int .i64 0, .int .i64 0]) HT0.out
 obtain ⟨q1, f1⟩ := HFr.out
 exact bodyPost_ret (v := .tuple #[.agg #[.int .i64 0, .int .i64 0, .int .i64 0, .int .i64 0, .int .i64 0, .int .i64 0, .int .i64 0, .int .i64 0, .int .i64 0], .bool false]) (by simp [results, Tryz.results48, go_sem, q1, f1]) rfl ⟨rfl, (show Below w.heap.size w _ by go_grown).grown hgr (by first | omega | (simp; done) | (simp; omega)) (fun k hk => by injection hk with hk; omega)⟩
set_option maxRecDepth 100000 in
set_option maxHeartbeats 4000000 in
theorem ragain_off (R : RLoc) (S : Sto) (pt : Int) (p : SPart) (w : World) (h : RStoreAt R S w) (hl : S.parts.length ≤ 8) (hp : pGet S pt = some p) (hr : p.rg < 0) (hs : p.seat.s ≠ 1) : Calls Tryz.prog 48 #[.pointer (some ⟨R.sb, 0, none⟩), .int .i64 pt] w (Makes (.tuple #[msgV msg0, .bool false]) w) := by
 have hH := fun W hW => rhas16_of R S pt W hW
 rw [hp] at hH
 dsimp only [Option.isSome] at hH
 obtain ⟨i, n, g, cap, rfl, hin, hn8, hnl, c3, hsb, hg, p0, p1, p2, p3, p4, p5, p6⟩ := rpart_at h hl hp
 clear hnl
 have hi0 : (0 : Int) ≤ (i : Int) := by omega
 have hi1 : (i : Int) < (n : Int) := by omega
 have HH := Lib.hid hH; have H := Lib.hid h
 have hs2 : (p.seat.s != 1) = true := by simpa using hs
 clear hs
 obtain ⟨pan, paq, prg, ⟨sp, sd, ss, sh⟩⟩ := p
 dsimp only [msgV, msgA, msg0] at *
 clear hH h hp hl
 go_enter Tryz.func48, Tryz.ntmps48
 go_wp2_with fail
 refine (HH.out _ (H.out.below (by go_grown))).mono ?_
 rintro e w1 ⟨rfl, rfl⟩
 have HT0 : Hid (((w.alloc (.cells #[.int .i64 0, .int .i64 0, .int .i64 0, .int .i64 0, .int .i64 0, .int .i64 0, .int .i64 0, .int .i64 0, .int .i64 0] 81)).alloc (.cells #[.int .i64 pan, .int .i64 paq, .int .i64 prg, .int .i64 sp, .int .i64 sd, .int .i64 ss, .int .i64 sh] 166)).heap[w.heap.size]? = some (.cells #[.int .i64 0, .int .i64 0, .int .i64 0, .int .i64 0, .int .i64 0, .int .i64 0, .int .i64 0, .int .i64 0, .int .i64 0] 81 (0, 0))) := Lib.hid ((((Below.refl _ _).alloc (Nat.le_refl _) _).block _ (by simp)).trans (heap_alloc_new _ _))
 go_wp2_with (refine wpList_store_row rfl 81 (.tmp 4) (.tmp 27) rfl w.heap.size #[.int .i64 0, .int .i64 0, .int .i64 0, .int .i64 0, .int .i64 0, .int .i64 0, .int .i64 0, .int .i64 0, .int .i64 0] rfl rfl 81 #[.int .i64 0, .int .i64 0, .int .i64 0, .int .i64 0, .int .i64 0, .int .i64 0, .int .i64 0, .int .i64 0, .int .i64 0] HT0.out (by kernel_rfl) rfl (by simp [Value.oneCell']) ?_)
 obtain ⟨HFr, hgr⟩ := row_end (cells := #[.int .i64 0, .int .i64 0, .int .i64 0, .int .i64 0, .int .i64 0, .int .i64 0, .int .i64 0, .int .i64 0, .int .i64 0]) HT0.out
 obtain ⟨q1, f1⟩ := HFr.out
 exact bodyPost_ret (v := .tuple #[.agg #[.int .i64 0, .int .i64 0, .int .i64 0, .int .i64 0, .int .i64 0, .int .i64 0, .int .i64 0, .int .i64 0, .int .i64 0], .bool false]) (by simp [results, Tryz.results48, go_sem, q1, f1]) rfl ⟨rfl, (show Below w.heap.size w _ by go_grown).grown hgr (by first | omega | (simp; done) | (simp; omega)) (fun k hk => by injection hk with hk; omega)⟩
set_option maxRecDepth 100000 in
set_option maxHeartbeats 4000000 in
theorem ragain_reg (R : RLoc) (S : Sto) (pt : Int) (p : SPart) (w : World) (h : RStoreAt R S w) (hl : S.parts.length ≤ 8) (hp : pGet S pt = some p) (hr : p.rg < 0) (hs : p.seat.s = 1) : Calls Tryz.prog 48 #[.pointer (some ⟨R.sb, 0, none⟩), .int .i64 pt] w (Makes (.tuple #[msgV (pReg S pt p), .bool true]) w) := by
 have hM := fun W hW => rreg16_of R S pt p W hW hl hp
 unfold pReg at hM ⊢
 obtain ⟨nd, hnd⟩ : ∃ nd, nd = S.node := ⟨_, rfl⟩
 rw [← hnd] at hM ⊢
 have HM := Lib.hid hM
 clear hM hnd
 have hH := fun W hW => rhas16_of R S pt W hW
 rw [hp] at hH
 dsimp only [Option.isSome] at hH
 obtain ⟨i, n, g, cap, rfl, hin, hn8, hnl, c3, hsb, hg, p0, p1, p2, p3, p4, p5, p6⟩ := rpart_at h hl hp
 clear hnl
 have hi0 : (0 : Int) ≤ (i : Int) := by omega
 have hi1 : (i : Int) < (n : Int) := by omega
 have HH := Lib.hid hH; have H := Lib.hid h
 have hs2 : (p.seat.s != 1) = false := by simpa using hs
 clear hs
 obtain ⟨pan, paq, prg, ⟨sp, sd, ss, sh⟩⟩ := p
 dsimp only [msgV, msgA, msg0] at *
 clear hH h hp hl
 go_enter Tryz.func48, Tryz.ntmps48
 go_wp2_with fail
 refine (HH.out _ (H.out.below (by go_grown))).mono ?_
 rintro e w1 ⟨rfl, rfl⟩
 have HT0 : Hid (((w.alloc (.cells #[.int .i64 0, .int .i64 0, .int .i64 0, .int .i64 0, .int .i64 0, .int .i64 0, .int .i64 0, .int .i64 0, .int .i64 0] 81)).alloc (.cells #[.int .i64 pan, .int .i64 paq, .int .i64 prg, .int .i64 sp, .int .i64 sd, .int .i64 ss, .int .i64 sh] 166)).heap[w.heap.size]? = some (.cells #[.int .i64 0, .int .i64 0, .int .i64 0, .int .i64 0, .int .i64 0, .int .i64 0, .int .i64 0, .int .i64 0, .int .i64 0] 81 (0, 0))) := Lib.hid ((((Below.refl _ _).alloc (Nat.le_refl _) _).block _ (by simp)).trans (heap_alloc_new _ _))
 go_wp2_with fail
 refine (HM.out _ (H.out.below (by go_grown))).mono ?_
 rintro e w1 ⟨rfl, hb1⟩
 have B1 : Below w.heap.size w w1 := below_then (by go_grown) hb1
 have hz1 : w.heap.size + 1 < w1.heap.size := by have := hb1.size; simp at this; omega
 have HT1 : Hid (w1.heap[w.heap.size]? = some (.cells #[.int .i64 0, .int .i64 0, .int .i64 0, .int .i64 0, .int .i64 0, .int .i64 0, .int .i64 0, .int .i64 0, .int .i64 0] 81 (0, 0))) := Lib.hid ((hb1.block _ (by first | omega | (simp; done) | (simp; omega))).trans HT0.out)
 clear hb1
 go_wp2_with (refine wpList_store_row rfl 81 (.tmp 4) (.tmp 30) rfl w.heap.size #[.int .i64 17, .int .i64 nd, .int .i64 pan, .int .i64 pan, .int .i64 paq, .int .i64 0, .int .i64 i, .int .i64 sp, .int .i64 0] rfl rfl 81 #[.int .i64 0, .int .i64 0, .int .i64 0, .int .i64 0, .int .i64 0, .int .i64 0, .int .i64 0, .int .i64 0, .int .i64 0] HT1.out (by kernel_rfl) rfl (by simp [Value.oneCell']) ?_)
 obtain ⟨HFr, hgr⟩ := row_end (cells := #[.int .i64 17, .int .i64 nd, .int .i64 pan, .int .i64 pan, .int .i64 paq, .int .i64 0, .int .i64 i, .int .i64 sp, .int .i64 0]) HT1.out
 obtain ⟨q1, f1⟩ := HFr.out
 exact bodyPost_ret (v := .tuple #[.agg #[.int .i64 17, .int .i64 nd, .int .i64 pan, .int .i64 pan, .int .i64 paq, .int .i64 0, .int .i64 i, .int .i64 sp, .int .i64 0], .bool true]) (by simp [results, Tryz.results48, go_sem, q1, f1]) rfl ⟨rfl, (show Below w.heap.size w _ by go_grown).grown hgr (by first | omega | (simp; done) | (simp; omega)) (fun k hk => by injection hk with hk; omega)⟩
set_option maxRecDepth 100000 in
set_option maxHeartbeats 4000000 in
theorem ragain_idle (R : RLoc) (S : Sto) (pt : Int) (p : SPart) (w : World) (h : RStoreAt R S w) (hl : S.parts.length ≤ 8) (hp : pGet S pt = some p) (hr : ¬ p.rg < 0) (hk : rWaits 2 p.seat.s = 0) : Calls Tryz.prog 48 #[.pointer (some ⟨R.sb, 0, none⟩), .int .i64 pt] w (Makes (.tuple #[msgV msg0, .bool false]) w) := by
 have hW := fun W => rwaits_any 2 p.seat.s W
 rw [hk] at hW
 have HW := Lib.hid hW
 clear hW hk
 have hH := fun W hW => rhas16_of R S pt W hW
 rw [hp] at hH
 dsimp only [Option.isSome] at hH
 obtain ⟨i, n, g, cap, rfl, hin, hn8, hnl, c3, hsb, hg, p0, p1, p2, p3, p4, p5, p6⟩ := rpart_at h hl hp
 clear hnl
 have hi0 : (0 : Int) ≤ (i : Int) := by omega
 have hi1 : (i : Int) < (n : Int) := by omega
 have HH := Lib.hid hH; have H := Lib.hid h
 obtain ⟨pan, paq, prg, ⟨sp, sd, ss, sh⟩⟩ := p
 dsimp only [msgV, msgA, msg0] at *
 clear hH h hp hl
 go_enter Tryz.func48, Tryz.ntmps48
 go_wp2_with fail
 refine (HH.out _ (H.out.below (by go_grown))).mono ?_
 rintro e w1 ⟨rfl, rfl⟩
 have HT0 : Hid (((w.alloc (.cells #[.int .i64 0, .int .i64 0, .int .i64 0, .int .i64 0, .int .i64 0, .int .i64 0, .int .i64 0, .int .i64 0, .int .i64 0] 81)).alloc (.cells #[.int .i64 pan, .int .i64 paq, .int .i64 prg, .int .i64 sp, .int .i64 sd, .int .i64 ss, .int .i64 sh] 166)).heap[w.heap.size]? = some (.cells #[.int .i64 0, .int .i64 0, .int .i64 0, .int .i64 0, .int .i64 0, .int .i64 0, .int .i64 0, .int .i64 0, .int .i64 0] 81 (0, 0))) := Lib.hid ((((Below.refl _ _).alloc (Nat.le_refl _) _).block _ (by simp)).trans (heap_alloc_new _ _))
 go_wp2_with fail
 refine (HW.out _).mono ?_
 rintro e w1 ⟨rfl, rfl⟩
 go_wp2_with (refine wpList_store_row rfl 81 (.tmp 4) (.tmp 37) rfl w.heap.size #[.int .i64 0, .int .i64 0, .int .i64 0, .int .i64 0, .int .i64 0, .int .i64 0, .int .i64 0, .int .i64 0, .int .i64 0] rfl rfl 81 #[.int .i64 0, .int .i64 0, .int .i64 0, .int .i64 0, .int .i64 0, .int .i64 0, .int .i64 0, .int .i64 0, .int .i64 0] HT0.out (by kernel_rfl) rfl (by simp [Value.oneCell']) ?_)
 obtain ⟨HFr, hgr⟩ := row_end (cells := #[.int .i64 0, .int .i64 0, .int .i64 0, .int .i64 0, .int .i64 0, .int .i64 0, .int .i64 0, .int .i64 0, .int .i64 0]) HT0.out
 obtain ⟨q1, f1⟩ := HFr.out
 exact bodyPost_ret (v := .tuple #[.agg #[.int .i64 0, .int .i64 0, .int .i64 0, .int .i64 0, .int .i64 0, .int .i64 0, .int .i64 0, .int .i64 0, .int .i64 0], .bool false]) (by simp [results, Tryz.results48, go_sem, q1, f1]) rfl ⟨rfl, (show Below w.heap.size w _ by go_grown).grown hgr (by first | omega | (simp; done) | (simp; omega)) (fun k hk => by injection hk with hk; omega)⟩
set_option maxRecDepth 100000 in
set_option maxHeartbeats 4000000 in
theorem ragain_wait (R : RLoc) (S : Sto) (pt : Int) (p : SPart) (w : World) (h : RStoreAt R S w) (hl : S.parts.length ≤ 8) (hp : pGet S pt = some p) (kk : Int) (hr : ¬ p.rg < 0) (hk : rWaits 2 p.seat.s = kk) (hk0 : kk ≠ 0) : Calls Tryz.prog 48 #[.pointer (some ⟨R.sb, 0, none⟩), .int .i64 pt] w (Makes (.tuple #[msgV (pMsg S pt p p.rg kk), .bool true]) w) := by
 have hW := fun W => rwaits_any 2 p.seat.s W
 rw [hk] at hW
 have HW := Lib.hid hW
 clear hW hk
 have hM := fun W hW => rmsg16_of R S pt p.rg kk p W hW hl hp
 have hk2 : (kk == 0) = false := by simpa using hk0
 unfold pMsg at hM ⊢
 obtain ⟨nd, hnd⟩ : ∃ nd, nd = S.node := ⟨_, rfl⟩
 rw [← hnd] at hM ⊢
 have HM := Lib.hid hM
 clear hM hnd hk0
 have hH := fun W hW => rhas16_of R S pt W hW
 rw [hp] at hH
 dsimp only [Option.isSome] at hH
 obtain ⟨i, n, g, cap, rfl, hin, hn8, hnl, c3, hsb, hg, p0, p1, p2, p3, p4, p5, p6⟩ := rpart_at h hl hp
 clear hnl
 have hi0 : (0 : Int) ≤ (i : Int) := by omega
 have hi1 : (i : Int) < (n : Int) := by omega
 have HH := Lib.hid hH; have H := Lib.hid h
 obtain ⟨pan, paq, prg, ⟨sp, sd, ss, sh⟩⟩ := p
 dsimp only [msgV, msgA, msg0] at *
 clear hH h hp hl
 go_enter Tryz.func48, Tryz.ntmps48
 go_wp2_with fail
 refine (HH.out _ (H.out.below (by go_grown))).mono ?_
 rintro e w1 ⟨rfl, rfl⟩
 have HT0 : Hid (((w.alloc (.cells #[.int .i64 0, .int .i64 0, .int .i64 0, .int .i64 0, .int .i64 0, .int .i64 0, .int .i64 0, .int .i64 0, .int .i64 0] 81)).alloc (.cells #[.int .i64 pan, .int .i64 paq, .int .i64 prg, .int .i64 sp, .int .i64 sd, .int .i64 ss, .int .i64 sh] 166)).heap[w.heap.size]? = some (.cells #[.int .i64 0, .int .i64 0, .int .i64 0, .int .i64 0, .int .i64 0, .int .i64 0, .int .i64 0, .int .i64 0, .int .i64 0] 81 (0, 0))) := Lib.hid ((((Below.refl _ _).alloc (Nat.le_refl _) _).block _ (by simp)).trans (heap_alloc_new _ _))
 go_wp2_with fail
 refine (HW.out _).mono ?_
 rintro e w1 ⟨rfl, rfl⟩
 have c2 : ((w.alloc (.cells #[.int .i64 0, .int .i64 0, .int .i64 0, .int .i64 0, .int .i64 0, .int .i64 0, .int .i64 0, .int .i64 0, .int .i64 0] 81)).alloc (.cells #[.int .i64 pan, .int .i64 paq, .int .i64 prg, .int .i64 sp, .int .i64 sd, .int .i64 ss, .int .i64 sh] 166)).cell? ⟨w.heap.size + 1, 2, none⟩ = some (.int .i64 prg) := (Blk.fresh _ _ _ _ (by simp)).cell 2
 go_wp2_with fail
 refine (HM.out _ (H.out.below (by go_grown))).mono ?_
 rintro e w1 ⟨rfl, hb1⟩
 have B1 : Below w.heap.size w w1 := below_then (by go_grown) hb1
 have hz1 : w.heap.size + 1 < w1.heap.size := by have := hb1.size; simp at this; omega
 have HT1 : Hid (w1.heap[w.heap.size]? = some (.cells #[.int .i64 0, .int .i64 0, .int .i64 0, .int .i64 0, .int .i64 0, .int .i64 0, .int .i64 0, .int .i64 0, .int .i64 0] 81 (0, 0))) := Lib.hid ((hb1.block _ (by first | omega | (simp; done) | (simp; omega))).trans HT0.out)
 clear hb1
 go_wp2_with (refine wpList_store_row rfl 81 (.tmp 4) (.tmp 43) rfl w.heap.size #[.int .i64 kk, .int .i64 nd, .int .i64 pan, .int .i64 pan, .int .i64 paq, .int .i64 prg, .int .i64 i, .int .i64 0, .int .i64 0] rfl rfl 81 #[.int .i64 0, .int .i64 0, .int .i64 0, .int .i64 0, .int .i64 0, .int .i64 0, .int .i64 0, .int .i64 0, .int .i64 0] HT1.out (by kernel_rfl) rfl (by simp [Value.oneCell']) ?_)
 obtain ⟨HFr, hgr⟩ := row_end (cells := #[.int .i64 kk, .int .i64 nd, .int .i64 pan, .int .i64 pan, .int .i64 paq, .int .i64 prg, .int .i64 i, .int .i64 0, .int .i64 0]) HT1.out
 obtain ⟨q1, f1⟩ := HFr.out
 exact bodyPost_ret (v := .tuple #[.agg #[.int .i64 kk, .int .i64 nd, .int .i64 pan, .int .i64 pan, .int .i64 paq, .int .i64 prg, .int .i64 i, .int .i64 0, .int .i64 0], .bool true]) (by simp [results, Tryz.results48, go_sem, q1, f1]) rfl ⟨rfl, (show Below w.heap.size w _ by go_grown).grown hgr (by first | omega | (simp; done) | (simp; omega)) (fun k hk => by injection hk with hk; omega)⟩
theorem ragain16_of (R : RLoc) (S : Sto) (pt : Int) (w : World) (h : RStoreAt R S w) (hG : StoGood S) : Calls Tryz.prog 48 #[.pointer (some ⟨R.sb, 0, none⟩), .int .i64 pt] w (Makes (.tuple #[msgV (pAgain S pt).1, .bool (pAgain S pt).2]) w) := by
 have hl := hG.parts
 unfold pAgain
 cases hp : pGet S pt with
 | none => exact ragain_none R S pt w h hp
 | some p =>
   simp only
   obtain ⟨q1, q2, q3, q4⟩ := hG.part p (pGet_some hp).2.2.2
   have he := mwaits_eq q4
   rw [q3] at he
   by_cases hr : p.rg < 0
   · rw [if_pos hr]
     by_cases hs : p.seat.s = 1
     · rw [if_pos hs]; exact ragain_reg R S pt p w h hl hp hr hs
     · rw [if_neg hs]; exact ragain_off R S pt p w h hl hp hr hs
   · rw [if_neg hr]
     by_cases hk : mWaits p.seat = 0
     · rw [if_neg (by simp [hk])]; exact ragain_idle R S pt p w h hl hp hr (by rw [← he]; exact hk)
     · rw [if_pos hk]; exact ragain_wait R S pt p w h hl hp _ hr he.symm hk
theorem rdo16_of (R : RLoc) (S : Sto) (pt k : Int) (w : World) (h : RStoreAt R S w) (hG : StoGood S) : Calls Tryz.prog 47 #[.pointer (some ⟨R.sb, 0, none⟩), .int .i64 pt, .int .i64 k] w (RDoEnds (pDo S pt k).1 (pDo S pt k).2 w) := by
 have hl := hG.parts
 unfold pDo
 cases hp : pGet S pt with
 | none => exact rdo_none R S pt k w h hp
 | some p =>
   obtain ⟨q1, q2, q3, q4⟩ := hG.part p (pGet_some hp).2.2.2
   simp only
   by_cases hr : p.rg < 0
   · rw [if_pos hr]; exact rdo_off R S pt k p w h hl hp hr
   · rw [if_neg hr]
     by_cases hk : (mDo p.seat k).2 = 0
     · rw [if_neg (by simp [hk]), (do_goes q4 hk).2.2.1.2.2]
       exact rdo_ok R S pt k p _ w h hl hp hr (fun W => by have := gdo_eq p.seat k W; rw [hk] at this; exact this)
     · rw [if_pos hk]
       exact rdo_err R S pt k p _ _ hk w h hl hp hr (fun W => gdo_eq p.seat k W)
end Go.Proofs.YtlkajejbfojkeaaGreatDoor

namespace Go.Proofs.YtlkajejbfojkeaaGreatDoor
open Go.RowKit
attribute [local go_sem] store_float

theorem infoRFact16 : (Tryz.prog.info? 42).map (fun i => (i.zero, i.size, i.bytes)) = some (some (.agg #[.int .i64 0, .int .i64 0, .int .i64 0, .int .i64 0, .int .i64 0, .int .i64 0, .int .i64 0, .int .i64 0, .int .i64 0, .int .i64 0, .int .i64 0, .int .i64 0, .int .i64 0, .float .f64 0]), 14, 112) := by kernel_rfl
theorem read_frow16 {w : World} {B : Nat} {v : Value} {fs : List SFact} (h : w.ownsRow B 42 14 v fs.length (factsL fs)) : ReadFacts w v fs := by
 obtain ⟨a, cap, hv⟩ := row_slice h
 subst hv
 refine ⟨a, cap, rfl, fun hn => ?_⟩
 obtain ⟨g, cap', hv, _, _, hg, hc, _⟩ := row_form h (List.length_pos_iff.2 hn)
 simp only [Value.slice.injEq, true_and] at hv
 obtain ⟨rfl, rfl⟩ := hv
 refine ⟨g, 0, rfl, hg, fun j hj => ?_⟩
 have hat := fun i hi => flat_at factL 14 factL_len fs j i hj hi
 rw [Nat.zero_add]
 exact ⟨hc _ _ (hat 0 (by decide)), hc _ _ (hat 1 (by decide)), hc _ _ (hat 2 (by decide)), hc _ _ (hat 3 (by decide)), hc _ _ (hat 4 (by decide)), hc _ _ (hat 5 (by decide)), hc _ _ (hat 6 (by decide)), hc _ _ (hat 7 (by decide)), hc _ _ (hat 8 (by decide)), hc _ _ (hat 9 (by decide)), hc _ _ (hat 10 (by decide)), hc _ _ (hat 11 (by decide)), hc _ _ (hat 12 (by decide)), hc _ _ (hat 13 (by decide))⟩
set_option maxRecDepth 100000 in
set_option maxHeartbeats 4000000 in
theorem told16_of (a am : Option Addr) (cap lm cm : Nat) (fs : List SFact) (wk : Int) (w : World) (h : ReadFacts w (.slice a fs.length cap) fs) (hl : fs.length ≤ 1000) :
   Calls Tryz.prog 43 #[.agg #[.slice a fs.length cap, .slice am lm cm, .int .i64 wk]] w fun e w' => ∃ c fc, e = .returned (.agg #[.slice c fs.length fc, .slice am lm cm, .int .i64 wk]) ∧ ReadFacts w' (.slice c fs.length fc) fs ∧ Below w.heap.size w w' := by
 obtain ⟨i0, ei, ez, es, eb⟩ := info_parts infoRFact16
 have HR : Hid (∀ k, k < fs.length → ∃ f, fs[k]? = some f ∧ ∃ b off, a = some ⟨b, off, none⟩ ∧ b < w.heap.size ∧ FactAt w b (off + k * 14) f) := Lib.hid (fun k hk => by
   obtain ⟨a', cap', hv, hr⟩ := h
   obtain ⟨b, off, ha, hb, hf⟩ := hr (by intro e; rw [e] at hk; simp at hk)
   simp only [Value.slice.injEq, true_and] at hv
   exact ⟨fs[k], List.getElem?_eq_getElem hk, b, off, by rw [hv.1, ha], hb, hf k hk⟩)
 clear h
 obtain ⟨n, hn⟩ : ∃ n, n = fs.length := ⟨_, rfl⟩
 rw [← hn] at HR hl ⊢
 have HN := Lib.hid hn
 clear hn
 obtain ⟨W1, hW1⟩ : ∃ W1, W1 = ((w.alloc (.cells #[.slice a n cap, .slice am lm cm, .int .i64 wk] 87)).alloc (.cells #[.slice none 0 0, .slice none 0 0, .int .i64 0] 95)) := ⟨_, rfl⟩
 have HST : Hid (Below (w.heap.size + 2) W1 (((w.alloc (.cells #[.slice a n cap, .slice am lm cm, .int .i64 wk] 87)).alloc (.cells #[.slice none 0 0, .slice none 0 0, .int .i64 0] 95)).alloc (.cells #[.slice none 0 0, .slice am lm cm, .int .i64 wk] 95))) := Lib.hid (by rw [hW1]; exact (Below.refl _ _).alloc (by simp) _)
 have HWB : Hid (Below w.heap.size w W1) := Lib.hid (by rw [hW1]; go_grown)
 have HRB0 : Hid (Blk W1 (w.heap.size + 1) #[.slice none 0 0, .slice none 0 0, .int .i64 0]) := Lib.hid (by rw [hW1]; exact Blk.fresh (w.alloc (.cells #[.slice a n cap, .slice am lm cm, .int .i64 wk] 87)) #[.slice none 0 0, .slice none 0 0, .int .i64 0] 95 (w.heap.size + 1) (by simp))
 have HPB0 : Hid (Blk W1 w.heap.size #[.slice a n cap, .slice am lm cm, .int .i64 wk]) := Lib.hid (by rw [hW1]; exact (Blk.fresh w #[.slice a n cap, .slice am lm cm, .int .i64 wk] 87 _ rfl).alloc _)
 have HZ : Hid (W1.heap.size = w.heap.size + 2) := Lib.hid (by rw [hW1]; simp)
 clear hW1
 go_enter Tryz.func43, Tryz.ntmps43
 go_wp2_with fail
 go_loopw [14] (fun i wr => ∃ (k : Nat) (v : Value), k ≤ n ∧ i = .int .i64 (k : Nat) ∧ Hid (wr.ownsRow (w.heap.size + 3) 42 14 v k (factsL (fs.take k))) ∧ Hid (Blk wr (w.heap.size + 1 + 1) #[v, .slice am lm cm, .int .i64 wk]) ∧ Hid (Below (w.heap.size + 2) W1 wr)) (fun i _ => n - (intOf i).toNat)
 case atStart =>
   exact ⟨0, .slice none 0 0, by omega, by first | rfl | go_num, Lib.hid (World.ownsRow_nil _ _ _ _), Lib.hid (Blk.fresh _ _ _ _ (by simp)), HST⟩
 case round =>
   obtain ⟨k, v, hk, rfl, HO, HB, HW⟩ := hrel
   obtain ⟨av, cv, rfl⟩ := row_slice HO.out
   have q := HB.out.cell
   by_cases hlt : k < n
   · obtain ⟨f, hf, b, off, rfl, hbl, hat⟩ := HR.out k hlt
     have BR : Below w.heap.size w wr := HWB.out.trans (HW.out.mono (by omega))
     obtain ⟨p0, p1, p2, p3, p4, p5, p6, p7, p8, p9, p10, p11, p12, p13⟩ := hat.below BR hbl
     have hsz := HB.out.lt
     have HF := Lib.hid hf
     obtain ⟨fk, fan, faq, frg, fnd, fpt, fpr, foc, fdp, fpa, fst, fhw, fde, ex⟩ := f
     have qf := HB.out.free
     dsimp only at p0 p1 p2 p3 p4 p5 p6 p7 p8 p9 p10 p11 p12 p13
     clear hat hf hbl BR
     go_wp2_with (at_builtin; refine wpList_append_own_at _ rfl _ _ 76 rfl (w.heap.size + 3) 42 i0 (.agg #[.int .i64 0, .int .i64 0, .int .i64 0, .int .i64 0, .int .i64 0, .int .i64 0, .int .i64 0, .int .i64 0, .int .i64 0, .int .i64 0, .int .i64 0, .int .i64 0, .int .i64 0, .float .f64 0]) 14 112 Tryz.underlying76 ei ez es eb rfl (by decide) _ _ _ rfl ((HO.out.alloc _).alloc _) ⟨wr.heap.size + 1, 0, none⟩ 1 1 (factL ⟨fk, fan, faq, frg, fnd, fpt, fpr, foc, fdp, fpa, fst, fhw, fde, ex⟩) (by rfl) rfl (lit_cells (Blk.fresh _ _ _ _ (by simp))) (factL_one _) ?d3 ?d4 ?d5 ?_)
     case d3 => unfold maxLen; omega
     case d4 => omega
     case d5 => simp; omega
     intro v2 w3 hown hgrow _ hat
     have hne : v2.ownBlock ≠ some (w.heap.size + 1 + 1) := fun e => by have := (hown.lt _ e).1; omega
     have hne0 : (Value.slice av k cv).ownBlock ≠ some (w.heap.size + 1 + 1) := fun e => by have := (HO.out.lt _ e).1; omega
     have kB := ((HB.out.alloc (.cells #[.int .i64 fk, .int .i64 fan, .int .i64 faq, .int .i64 frg, .int .i64 fnd, .int .i64 fpt, .int .i64 fpr, .int .i64 foc, .int .i64 fdp, .int .i64 fpa, .int .i64 fst, .int .i64 fhw, .int .i64 fde, .float .f64 ex] 39)).alloc (.cells #[.int .i64 fk, .int .i64 fan, .int .i64 faq, .int .i64 frg, .int .i64 fnd, .int .i64 fpt, .int .i64 fpr, .int .i64 foc, .int .i64 fdp, .int .i64 fpa, .int .i64 fst, .int .i64 fhw, .int .i64 fde, .float .f64 ex] 42)).same hgrow.size (hgrow.block _ ((HB.out.alloc _).alloc _).lt (fun e => hne0 e.symm))
     have R2 := Lib.hid (kB.set' 0 (by simp) v2)
     have R1 : Hid ((w3.setCell ⟨w.heap.size + 1 + 1, 0, none⟩ v2).ownsRow (w.heap.size + 3) 42 14 v2 (k + 1) (factsL (fs.take (k + 1)))) := Lib.hid (by
       refine row_heap ?_ (fun j hj => Below.heap_setCell _ _ _ _ (fun e => hne (by rw [hj, e])))
       have htk : fs.take (k + 1) = fs.take k ++ [⟨fk, fan, faq, frg, fnd, fpt, fpr, foc, fdp, fpa, fst, fhw, fde, ex⟩] := by
         obtain ⟨hj, he⟩ := List.getElem?_eq_some_iff.1 HF.out
         rw [List.take_succ_eq_append_getElem hj, he]
       rw [htk]
       unfold factsL at hown ⊢
       rw [List.flatMap_append]
       simpa using hown)
     have R3 : Hid (Below (w.heap.size + 2) W1 (w3.setCell ⟨w.heap.size + 1 + 1, 0, none⟩ v2)) := Lib.hid ((((HW.out.alloc (by omega) _).alloc (by simp; omega) _).grown hgrow (by simp; omega) (fun j hj => by have := (HO.out.lt _ hj).1; omega)).setCell (by simp) _)
     have c0 : w3.cell? ⟨w.heap.size + 1 + 1, 0, none⟩ = some (.slice av k cv) := kB.cell 0
     have c1 := kB.free 0
     obtain ⟨a2, c2, rfl⟩ := row_slice hown
     clear hown hgrow hat kB q qf hne hne0
     go_wp2_with fail
     all_goals (go_roundw <;> first | exact ⟨k + 1, _, by omega, by go_num, R1, R2, R3⟩ | (simp [intOf]; omega))
   · obtain rfl : k = n := by omega
     have HO2 := Lib.hid (show ReadFacts wr (.slice av k cv) fs by
       have := HO.out
       rw [List.take_of_length_le (by rw [← HN.out]; omega)] at this
       have e := HN.out
       subst e
       exact read_frow16 this)
     have HRB := Lib.hid (HRB0.out.below (by rw [HZ.out]; exact HW.out))
     obtain ⟨qr, fr⟩ := HRB.out.out
     have lr := HRB.out.lt
     have BR : Below w.heap.size w wr := HWB.out.trans (HW.out.mono (by omega))
     go_wp2_with fail
     refine bodyPost_ret (v := .agg #[.slice av k cv, .slice am lm cm, .int .i64 wk]) (by simp [results, Tryz.results43, go_sem, qr, fr, lr, Nat.ne_of_lt lr]) rfl ⟨av, cv, rfl, HO2.out.heap (by simp) ?_, by go_grown⟩
     intro j hj
     have h1 := (HO.out.lt _ (slice_own HO.out _ hj)).1
     have h2 : j ≠ w.heap.size + 1 := by omega
     rw [Below.heap_setCell _ _ _ _ h2, Below.heap_setCell _ _ _ _ h2, Below.heap_setCell _ _ _ _ h2]
end Go.Proofs.YtlkajejbfojkeaaGreatDoor

namespace Go.Proofs.YtlkajejbfojkeaaGreatDoor
open Go.RowKit
attribute [local go_sem] store_float

set_option maxRecDepth 100000 in
theorem same13 (b c : Nat) (C : Array Value) (hC : ∀ k, k < 13 → ∃ x : Int, C[k]? = some (.int .i64 x)) (w : World) (h1 : Blk w b C) (h2 : Blk w c C) : Calls Tryz.prog 118 #[.slice (some ⟨b, 0, none⟩) 13 13, .slice (some ⟨c, 0, none⟩) 13 13] w (Makes (.bool true) w) := by
 have H1 := Lib.hid h1; have H2 := Lib.hid h2
 have HC := Lib.hid hC
 clear h1 h2 hC
 go_enter Tryz.func118, Tryz.ntmps118
 go_wp2_with fail
 go_loopw [13] (fun i wr => ∃ k : Nat, k ≤ 13 ∧ i = .int .i64 (k : Nat) ∧ Below w.heap.size w wr) (fun i _ => 13 - (intOf i).toNat)
 case atStart => exact ⟨0, by omega, by go_num, Below.refl _ _⟩
 case round =>
   obtain ⟨k, hk, rfl, hB⟩ := hrel
   by_cases hlt : k < 13
   · obtain ⟨x, hx⟩ := HC.out k hlt
     have c1 : wr.cell? ⟨b, k, none⟩ = some (.int .i64 x) := ((H1.out.below hB).cell k).trans hx
     have c2 : wr.cell? ⟨c, k, none⟩ = some (.int .i64 x) := ((H2.out.below hB).cell k).trans hx
     clear hx
     have hki : (k : Int) < 13 := by omega
     have hk0 : (0 : Int) ≤ (k : Int) := by omega
     go_wp2_with fail
     go_quiet (fail)
     all_goals go_wp2_with fail
     all_goals (go_roundw <;> first | exact ⟨k + 1, by omega, by go_num, below_then hB ⟨rfl, rfl, rfl, Nat.le_refl _, fun _ _ => rfl⟩⟩ | (simp [intOf]; omega))
   · obtain rfl : k = 13 := by omega
     go_wp2_with fail
     go_ret
     exact ⟨rfl, hB⟩
set_option maxRecDepth 100000 in
set_option maxHeartbeats 4000000 in
theorem rsame14_self (f : SFact) (hx : F64 f.ex) (w : World) : Calls Tryz.prog 35 #[factV f, factV f] w (Makes (.bool true) w) := by
 have HN := Lib.hid (fun W => numbers_of f W); have HR := Lib.hid (fun W => rbits_of f.ex hx W)
 obtain ⟨k, an, aq, rg, nd, pt, pr, oc, dp, pa, st, hw, de, ex⟩ := f
 dsimp only [factV, factC] at *
 have HIL := Lib.hid (show ∀ jj, jj < 13 → ∃ x : Int, (#[.int .i64 k, .int .i64 an, .int .i64 aq, .int .i64 rg, .int .i64 nd, .int .i64 pt, .int .i64 pr, .int .i64 oc, .int .i64 dp, .int .i64 pa, .int .i64 st, .int .i64 hw, .int .i64 de] : Array Value)[jj]? = some (.int .i64 x) from fun jj hk => by
   have h : jj = 0 ∨ jj = 1 ∨ jj = 2 ∨ jj = 3 ∨ jj = 4 ∨ jj = 5 ∨ jj = 6 ∨ jj = 7 ∨ jj = 8 ∨ jj = 9 ∨ jj = 10 ∨ jj = 11 ∨ jj = 12 := by omega
   rcases h with rfl | rfl | rfl | rfl | rfl | rfl | rfl | rfl | rfl | rfl | rfl | rfl | rfl <;> exact ⟨_, rfl⟩)
 clear hx
 go_enter Tryz.func35, Tryz.ntmps35
 go_wp2_with fail
 have HB : Hid (Below w.heap.size w (World.drew ((w.alloc (.cells #[.int .i64 k, .int .i64 an, .int .i64 aq, .int .i64 rg, .int .i64 nd, .int .i64 pt, .int .i64 pr, .int .i64 oc, .int .i64 dp, .int .i64 pa, .int .i64 st, .int .i64 hw, .int .i64 de, .float .f64 ex] 42)).alloc (.cells #[.int .i64 k, .int .i64 an, .int .i64 aq, .int .i64 rg, .int .i64 nd, .int .i64 pt, .int .i64 pr, .int .i64 oc, .int .i64 dp, .int .i64 pa, .int .i64 st, .int .i64 hw, .int .i64 de, .float .f64 ex] 42)))) := Lib.hid (by go_grown)
 refine wp_region_held_drew (S := fun w' => Blk w' w.heap.size #[.int .i64 k, .int .i64 an, .int .i64 aq, .int .i64 rg, .int .i64 nd, .int .i64 pt, .int .i64 pr, .int .i64 oc, .int .i64 dp, .int .i64 pa, .int .i64 st, .int .i64 hw, .int .i64 de, .float .f64 ex] ∧ Blk w' (w.heap.size + 1) #[.int .i64 k, .int .i64 an, .int .i64 aq, .int .i64 rg, .int .i64 nd, .int .i64 pt, .int .i64 pr, .int .i64 oc, .int .i64 dp, .int .i64 pa, .int .i64 st, .int .i64 hw, .int .i64 de, .float .f64 ex]) (by kernel_rfl) (⟨((Blk.fresh w #[.int .i64 k, .int .i64 an, .int .i64 aq, .int .i64 rg, .int .i64 nd, .int .i64 pt, .int .i64 pr, .int .i64 oc, .int .i64 dp, .int .i64 pa, .int .i64 st, .int .i64 hw, .int .i64 de, .float .f64 ex] 42 _ rfl).alloc _).drew, (Blk.fresh (w.alloc (.cells #[.int .i64 k, .int .i64 an, .int .i64 aq, .int .i64 rg, .int .i64 nd, .int .i64 pt, .int .i64 pr, .int .i64 oc, .int .i64 dp, .int .i64 pa, .int .i64 st, .int .i64 hw, .int .i64 de, .float .f64 ex] 42)) #[.int .i64 k, .int .i64 an, .int .i64 aq, .int .i64 rg, .int .i64 nd, .int .i64 pt, .int .i64 pr, .int .i64 oc, .int .i64 dp, .int .i64 pa, .int .i64 st, .int .i64 hw, .int .i64 de, .float .f64 ex] 42 (w.heap.size + 1) (by simp)).drew⟩) (fun hHeld => ?_)
 generalize (World.drew ((w.alloc (.cells #[.int .i64 k, .int .i64 an, .int .i64 aq, .int .i64 rg, .int .i64 nd, .int .i64 pt, .int .i64 pr, .int .i64 oc, .int .i64 dp, .int .i64 pa, .int .i64 st, .int .i64 hw, .int .i64 de, .float .f64 ex] 42)).alloc (.cells #[.int .i64 k, .int .i64 an, .int .i64 aq, .int .i64 rg, .int .i64 nd, .int .i64 pt, .int .i64 pr, .int .i64 oc, .int .i64 dp, .int .i64 pa, .int .i64 st, .int .i64 hw, .int .i64 de, .float .f64 ex] 42))) = w0 at *
 refine takeT (v := ?_) (d := some 5) 0 hHeld ?_ ?_
 rotate_left 1
 · (intro w' hS'; (try dsimp only at hS'); have qA := hS'.1.cell; have qB := hS'.2.cell; clear hS'; go_simp; (try with_reducible rfl))
 simp only [Act.put, puts]
 refine takeT (v := ?_) (d := some 7) 2 hHeld ?_ ?_
 rotate_left 1
 · (intro w' hS'; (try dsimp only at hS'); have qA := hS'.1.cell; have qB := hS'.2.cell; clear hS'; go_simp; (try with_reducible rfl))
 simp only [Act.put, puts]
 refine wpAnyH_call (d := some 6) 1 119 _ _ [.agg #[.int .i64 k, .int .i64 an, .int .i64 aq, .int .i64 rg, .int .i64 nd, .int .i64 pt, .int .i64 pr, .int .i64 oc, .int .i64 dp, .int .i64 pa, .int .i64 st, .int .i64 hw, .int .i64 de, .float .f64 ex]] rfl rfl (by kernel_rfl) rfl (enters_of Tryz.func119 (by kernel_rfl) rfl) (by rfl) (by rfl) ?_
 refine (HN.out _).mono ?_; rintro e w5 ⟨g1, rfl, hg1, hb5⟩
 have HB := Lib.hid (below_then HB.out hb5); have HG1 := Lib.hid hg1
 have hHeld : (fun w' => Blk w' w.heap.size #[.int .i64 k, .int .i64 an, .int .i64 aq, .int .i64 rg, .int .i64 nd, .int .i64 pt, .int .i64 pr, .int .i64 oc, .int .i64 dp, .int .i64 pa, .int .i64 st, .int .i64 hw, .int .i64 de, .float .f64 ex] ∧ Blk w' (w.heap.size + 1) #[.int .i64 k, .int .i64 an, .int .i64 aq, .int .i64 rg, .int .i64 nd, .int .i64 pt, .int .i64 pr, .int .i64 oc, .int .i64 dp, .int .i64 pa, .int .i64 st, .int .i64 hw, .int .i64 de, .float .f64 ex]) _ := ⟨hHeld.1.below hb5, hHeld.2.below hb5⟩
 refine ⟨_, rfl, _, fun _ h => h, hHeld, fun hHeld => ?_⟩
 simp only [Act.put, puts]
 clear hb5 hg1
 refine wpAnyH_call (d := some 8) 3 119 _ _ [.agg #[.int .i64 k, .int .i64 an, .int .i64 aq, .int .i64 rg, .int .i64 nd, .int .i64 pt, .int .i64 pr, .int .i64 oc, .int .i64 dp, .int .i64 pa, .int .i64 st, .int .i64 hw, .int .i64 de, .float .f64 ex]] rfl rfl (by kernel_rfl) rfl (enters_of Tryz.func119 (by kernel_rfl) rfl) (by rfl) (by rfl) ?_
 refine (HN.out _).mono ?_; rintro e w6 ⟨g2, rfl, hg2, hb6⟩
 have HB := Lib.hid (below_then HB.out hb6); have HG1 := Lib.hid (HG1.out.below hb6); have HG2 := Lib.hid hg2
 have hHeld : (fun w' => Blk w' w.heap.size #[.int .i64 k, .int .i64 an, .int .i64 aq, .int .i64 rg, .int .i64 nd, .int .i64 pt, .int .i64 pr, .int .i64 oc, .int .i64 dp, .int .i64 pa, .int .i64 st, .int .i64 hw, .int .i64 de, .float .f64 ex] ∧ Blk w' (w.heap.size + 1) #[.int .i64 k, .int .i64 an, .int .i64 aq, .int .i64 rg, .int .i64 nd, .int .i64 pt, .int .i64 pr, .int .i64 oc, .int .i64 dp, .int .i64 pa, .int .i64 st, .int .i64 hw, .int .i64 de, .float .f64 ex]) _ := ⟨hHeld.1.below hb6, hHeld.2.below hb6⟩
 refine ⟨_, rfl, _, fun _ h => h, hHeld, fun hHeld => ?_⟩
 simp only [Act.put, puts]
 clear hb6 hg2
 refine wpAnyH_call (d := some 9) 4 118 _ _ [.slice (some ⟨g1, 0, none⟩) 13 13, .slice (some ⟨g2, 0, none⟩) 13 13] rfl rfl (by kernel_rfl) rfl (enters_of Tryz.func118 (by kernel_rfl) rfl) (by rfl) (by rfl) ?_
 refine (same13 g1 g2 _ HIL.out _ HG1.out HG2.out).mono ?_; rintro e w7 ⟨rfl, hb7⟩
 have HB := Lib.hid (below_then HB.out hb7)
 have hHeld : (fun w' => Blk w' w.heap.size #[.int .i64 k, .int .i64 an, .int .i64 aq, .int .i64 rg, .int .i64 nd, .int .i64 pt, .int .i64 pr, .int .i64 oc, .int .i64 dp, .int .i64 pa, .int .i64 st, .int .i64 hw, .int .i64 de, .float .f64 ex] ∧ Blk w' (w.heap.size + 1) #[.int .i64 k, .int .i64 an, .int .i64 aq, .int .i64 rg, .int .i64 nd, .int .i64 pt, .int .i64 pr, .int .i64 oc, .int .i64 dp, .int .i64 pa, .int .i64 st, .int .i64 hw, .int .i64 de, .float .f64 ex]) _ := ⟨hHeld.1.below hb7, hHeld.2.below hb7⟩
 refine ⟨_, rfl, _, fun _ h => h, hHeld, fun hHeld => ?_⟩
 simp only [Act.put, puts]
 clear hb7
 refine takeT (v := ?_) (d := some 10) 5 hHeld ?_ ?_
 rotate_left 1
 · (intro w' hS'; (try dsimp only at hS'); have qA := hS'.1.cell; have qB := hS'.2.cell; clear hS'; go_simp; (try with_reducible rfl))
 simp only [Act.put, puts]
 refine takeT (v := ?_) (d := some 11) 6 hHeld ?_ ?_
 rotate_left 1
 · (intro w' hS'; (try dsimp only at hS'); have qA := hS'.1.cell; have qB := hS'.2.cell; clear hS'; go_simp; (try with_reducible rfl))
 simp only [Act.put, puts]
 refine takeT (v := ?_) (d := some 12) 7 hHeld ?_ ?_
 rotate_left 1
 · (intro w' hS'; (try dsimp only at hS'); have qA := hS'.1.cell; have qB := hS'.2.cell; clear hS'; go_simp; (try with_reducible rfl))
 simp only [Act.put, puts]
 refine takeT (v := ?_) (d := some 14) 9 hHeld ?_ ?_
 rotate_left 1
 · (intro w' hS'; (try dsimp only at hS'); have qA := hS'.1.cell; have qB := hS'.2.cell; clear hS'; go_simp; (try with_reducible rfl))
 simp only [Act.put, puts]
 refine takeT (v := ?_) (d := some 15) 10 hHeld ?_ ?_
 rotate_left 1
 · (intro w' hS'; (try dsimp only at hS'); have qA := hS'.1.cell; have qB := hS'.2.cell; clear hS'; go_simp; (try with_reducible rfl))
 simp only [Act.put, puts]
 refine wpAnyH_call (d := some 13) 8 120 _ _ [.float .f64 ex] rfl rfl (by kernel_rfl) rfl (enters_of Tryz.func120 (by kernel_rfl) rfl) (by rfl) (by rfl) ?_
 refine (HR.out _).mono ?_; rintro e w8 ⟨rfl, rfl⟩
 refine ⟨_, rfl, _, fun _ h => h, hHeld, fun hHeld => ?_⟩
 simp only [Act.put, puts]
 refine wpAnyH_call (d := some 16) 11 120 _ _ [.float .f64 ex] rfl rfl (by kernel_rfl) rfl (enters_of Tryz.func120 (by kernel_rfl) rfl) (by rfl) (by rfl) ?_
 refine (HR.out _).mono ?_; rintro e w8 ⟨rfl, rfl⟩
 refine ⟨_, rfl, _, fun _ h => h, hHeld, fun hHeld => ?_⟩
 simp only [Act.put, puts]
 refine takeT (v := ?_) (d := some 17) 12 hHeld ?_ ?_
 rotate_left 1
 · (intro w' hS'; (try dsimp only at hS'); have qA := hS'.1.cell; have qB := hS'.2.cell; clear hS'; go_simp; (try with_reducible rfl))
 simp only [Act.put, puts]
 refine takeT (v := ?_) (d := some 18) 13 hHeld ?_ ?_
 rotate_left 1
 · (intro w' hS'; (try dsimp only at hS'); have qA := hS'.1.cell; have qB := hS'.2.cell; clear hS'; go_simp; (try with_reducible rfl))
 simp only [Act.put, puts]
 refine takeT (v := ?_) (d := some 4) 14 hHeld ?_ ?_
 rotate_left 1
 · (intro w' hS'; (try dsimp only at hS'); have qA := hS'.1.cell; have qB := hS'.2.cell; clear hS'; go_simp; (try with_reducible rfl))
 simp only [Act.put, puts]
 refine wpAnyH_done (by kernel_rfl) ?_ _
 clear hHeld
 go_wp2_with fail
 go_ret
 exact ⟨ret_bool (by simp), HB.out⟩
theorem msgNe (mk mf mt man maq mrg mpt mpr mco : Int) (w : World) : (binOp .neq 81 (.agg #[.int .i64 mk, .int .i64 mf, .int .i64 mt, .int .i64 man, .int .i64 maq, .int .i64 mrg, .int .i64 mpt, .int .i64 mpr, .int .i64 mco]) (.agg #[.int .i64 mk, .int .i64 mf, .int .i64 mt, .int .i64 man, .int .i64 maq, .int .i64 mrg, .int .i64 mpt, .int .i64 mpr, .int .i64 mco])).run Tryz.prog w = .ok (.bool false) w := by
 go_simp
set_option maxRecDepth 100000 in
set_option maxHeartbeats 4000000 in
theorem rsame16_self (a b c d : Option Addr) (ac bc cc dc : Nat) (fs : List SFact) (ms : List SMsg) (wk : Int) (w : World) (h1 : ReadFacts w (.slice a fs.length ac) fs) (h2 : ReadFacts w (.slice b fs.length bc) fs) (h3 : ReadMsgs w (.slice c ms.length cc) ms) (h4 : ReadMsgs w (.slice d ms.length dc) ms) (hx : ∀ f ∈ fs, F64 f.ex) (hl1 : fs.length ≤ 1000) (hl2 : ms.length ≤ 1000) :
   Calls Tryz.prog 42 #[.agg #[.slice a fs.length ac, .slice c ms.length cc, .int .i64 wk], .agg #[.slice b fs.length bc, .slice d ms.length dc, .int .i64 wk]] w (Makes (.bool true) w) := by
 have G1 : ∀ (v : Option Addr) (vc : Nat), ReadFacts w (.slice v fs.length vc) fs → Hid (∀ k, k < fs.length → ∃ f, fs[k]? = some f ∧ ∃ b off, v = some ⟨b, off, none⟩ ∧ b < w.heap.size ∧ FactAt w b (off + k * 14) f) := fun v vc h => Lib.hid (fun k hk => by
   obtain ⟨a', cap', hv, hr⟩ := h
   obtain ⟨b, off, ha, hb, hf⟩ := hr (by intro e; rw [e] at hk; simp at hk)
   simp only [Value.slice.injEq, true_and] at hv
   exact ⟨fs[k], List.getElem?_eq_getElem hk, b, off, by rw [hv.1, ha], hb, hf k hk⟩)
 have G2 : ∀ (v : Option Addr) (vc : Nat), ReadMsgs w (.slice v ms.length vc) ms → Hid (∀ k, k < ms.length → ∃ f, ms[k]? = some f ∧ ∃ b off, v = some ⟨b, off, none⟩ ∧ b < w.heap.size ∧ MsgC w b (off + k * 9) f) := fun v vc h => Lib.hid (fun k hk => by
   obtain ⟨a', cap', hv, hr⟩ := h
   obtain ⟨b, off, ha, hb, hf⟩ := hr (by intro e; rw [e] at hk; simp at hk)
   simp only [Value.slice.injEq, true_and] at hv
   exact ⟨ms[k], List.getElem?_eq_getElem hk, b, off, by rw [hv.1, ha], hb, hf k hk⟩)
 have H1 := G1 a ac h1; have H2 := G1 b bc h2; have H3 := G2 c cc h3; have H4 := G2 d dc h4
 have HS := Lib.hid (fun f hf W => rsame14_self f (hx f hf) W)
 clear h1 h2 h3 h4 hx G1 G2
 obtain ⟨n, hn⟩ : ∃ n, n = fs.length := ⟨_, rfl⟩
 obtain ⟨m, hm⟩ : ∃ m, m = ms.length := ⟨_, rfl⟩
 rw [← hn] at H1 H2 hl1 ⊢
 rw [← hm] at H3 H4 hl2 ⊢
 clear hn hm
 have B0 : Below w.heap.size w ((w.alloc (.cells #[.slice a n ac, .slice c m cc, .int .i64 wk] 95)).alloc (.cells #[.slice b n bc, .slice d m dc, .int .i64 wk] 95)) := by go_grown
 have HA := Lib.hid ((Blk.fresh w #[.slice a n ac, .slice c m cc, .int .i64 wk] 95 _ rfl).alloc (.cells #[.slice b n bc, .slice d m dc, .int .i64 wk] 95))
 have HB := Lib.hid (Blk.fresh (w.alloc (.cells #[.slice a n ac, .slice c m cc, .int .i64 wk] 95)) #[.slice b n bc, .slice d m dc, .int .i64 wk] 95 (w.heap.size + 1) (by simp))
 have HB0 := Lib.hid B0
 clear B0
 go_enter Tryz.func42, Tryz.ntmps42
 go_wp2_with fail
 generalize hW0 : ((w.alloc (.cells #[.slice a n ac, .slice c m cc, .int .i64 wk] 95)).alloc (.cells #[.slice b n bc, .slice d m dc, .int .i64 wk] 95)) = w0 at *
 clear hW0
 go_loopw [33] (fun i wr => ∃ k : Nat, k ≤ n ∧ i = .int .i64 (k : Nat) ∧ Below w0.heap.size w0 wr) (fun i _ => n - (intOf i).toNat)
 case atStart => exact ⟨0, by omega, by first | rfl | go_num, Below.refl _ _⟩
 case round =>
   obtain ⟨k, hk, rfl, hB⟩ := hrel
   have qa := (HA.out.below hB).cell; have qb := (HB.out.below hB).cell
   have B1 : Below w.heap.size w wr := below_then HB0.out hB
   by_cases hlt : k < n
   · obtain ⟨f, hf, b1, o1, rfl, hl1', hc1⟩ := H1.out k hlt
     obtain ⟨f', hf', b2, o2, rfl, hl2', hc2⟩ := H2.out k hlt
     obtain rfl : f = f' := by rw [hf] at hf'; injection hf'
     have HSf := Lib.hid (fun W => HS.out f (List.mem_of_getElem? hf) W)
     have c1 := hc1.below B1 hl1'
     have c2 := hc2.below B1 hl2'
     have hki : (k : Int) < (n : Int) := by omega
     have hk0 : (0 : Int) ≤ (k : Int) := by omega
     clear hf hf' hc1 hc2
     obtain ⟨fk, fan, faq, frg, fnd, fpt, fpr, foc, fdp, fpa, fst, fhw, fde, ex⟩ := f
     dsimp only [factV, factC] at HSf
     obtain ⟨p0, p1, p2, p3, p4, p5, p6, p7, p8, p9, p10, p11, p12, p13⟩ := c1
     obtain ⟨r0, r1, r2, r3, r4, r5, r6, r7, r8, r9, r10, r11, r12, r13⟩ := c2
     dsimp only at p0 p1 p2 p3 p4 p5 p6 p7 p8 p9 p10 p11 p12 p13 r0 r1 r2 r3 r4 r5 r6 r7 r8 r9 r10 r11 r12 r13
     have q0 := qa 0; have q1 := qb 0
     clear qa qb
     go_wp2_with fail
     go_still_tail 10, (by kernel_rfl)
     change wpList _ _ _ _ _ (World.drew _)
     go_wp2_with (go_at_call 35; refine (HSf.out _).mono ?_; rintro e w5 ⟨rfl, hb5⟩)
     all_goals (go_roundw <;> first | exact ⟨k + 1, by omega, by go_num, below_then hB (below_then (by go_grown) hb5)⟩ | (simp [intOf]; omega))
   · obtain rfl : k = n := by omega
     have HA2 := Lib.hid (HA.out.below hB); have HB2 := Lib.hid (HB.out.below hB)
     have q1 := qa 1
     have HB1 := Lib.hid B1
     clear hB qb hlt hk
     go_wp2_with fail
     clear qa q1
     obtain ⟨w1, rfl⟩ : ∃ w1 : World, w1 = wr := ⟨_, rfl⟩
     clear B1
     go_loopw [52] (fun i wr => ∃ k : Nat, k ≤ m ∧ i = .int .i64 (k : Nat) ∧ Below w1.heap.size w1 wr) (fun i _ => m - (intOf i).toNat)
     case atStart => exact ⟨0, by omega, by first | rfl | go_num, Below.refl _ _⟩
     case round =>
       obtain ⟨k, hk, rfl, hB⟩ := hrel
       have qa := (HA2.out.below hB).cell; have qb := (HB2.out.below hB).cell
       have B1 : Below w.heap.size w wr := below_then HB1.out hB
       by_cases hlt : k < m
       · obtain ⟨f, hf, b1, o1, rfl, hl1', hc1⟩ := H3.out k hlt
         obtain ⟨f', hf', b2, o2, rfl, hl2', hc2⟩ := H4.out k hlt
         obtain rfl : f = f' := by rw [hf] at hf'; injection hf'
         have c1 := hc1.below B1 hl1'
         have c2 := hc2.below B1 hl2'
         have hki : (k : Int) < (m : Int) := by omega
         have hk0 : (0 : Int) ≤ (k : Int) := by omega
         clear hf hf' hc1 hc2
         obtain ⟨mk, mf, mt, man, maq, mrg, mpt, mpr, mco⟩ := f
         obtain ⟨p0, p1, p2, p3, p4, p5, p6, p7, p8⟩ := c1
         obtain ⟨r0, r1, r2, r3, r4, r5, r6, r7, r8⟩ := c2
         dsimp only at p0 p1 p2 p3 p4 p5 p6 p7 p8 r0 r1 r2 r3 r4 r5 r6 r7 r8
         have hne := msgNe mk mf mt man maq mrg mpt mpr mco
         have q1 := qa 1; have q2 := qb 1
         clear qa qb
         go_wp2_with fail
         go_quiet (fail)
         all_goals go_wp2_with fail
         all_goals (go_roundw <;> first | exact ⟨k + 1, by omega, by go_num, below_then hB ⟨rfl, rfl, rfl, Nat.le_refl _, fun _ _ => rfl⟩⟩ | (simp [intOf]; omega))
       · obtain rfl : k = m := by omega
         go_wp2_with fail
         go_ret
         exact ⟨rfl, B1⟩
end Go.Proofs.YtlkajejbfojkeaaGreatDoor

namespace Go.Proofs.YtlkajejbfojkeaaGreatDoor
open Go.RowKit

theorem num_of (n : Int) (h : 0 ≤ n ∧ n ≤ 14) (ea : Int → Addr) (w : World) (hE : EnvS ea w) : Calls Tryz.prog 20 #[errOf ea n] w (Makes (.int .i64 n) w) := by
 unfold errOf
 split
 · rename_i h0; subst h0; exact num_nil w
 · exact num_some n (by omega) ea w hE.e
theorem msgEqSelf (mk mf mt man maq mrg mpt mpr mco : Int) (w : World) : (binOp .eql 81 (.agg #[.int .i64 mk, .int .i64 mf, .int .i64 mt, .int .i64 man, .int .i64 maq, .int .i64 mrg, .int .i64 mpt, .int .i64 mpr, .int .i64 mco]) (.agg #[.int .i64 mk, .int .i64 mf, .int .i64 mt, .int .i64 man, .int .i64 maq, .int .i64 mrg, .int .i64 mpt, .int .i64 mpr, .int .i64 mco])).run Tryz.prog w = .ok (.bool true) w := by
 go_simp
theorem below_draws (w : World) (n : Nat) : Below w.heap.size w (w.drewN n) := ⟨rfl, rfl, rfl, Nat.le_refl _, fun _ _ => rfl⟩
theorem mDo_num (x : MSeat) (k : Int) : 0 ≤ (mDo x k).2 ∧ (mDo x k).2 ≤ 14 := by
 unfold mDo
 split
 · simp
 · split
   · unfold rStep
     repeat' split
     all_goals simp
   · simp
theorem pDo_num {S : Sto} {pt k : Int} : 0 ≤ (pDo S pt k).2 ∧ (pDo S pt k).2 ≤ 14 := by
 unfold pDo
 split
 · simp
 · split
   · simp
   split
   · exact mDo_num _ _
   · simp
end Go.Proofs.YtlkajejbfojkeaaGreatDoor
