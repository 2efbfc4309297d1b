/- PaG, PaH, FacH, FacI -/
import Derived.Test.YtlkajejbfojkeaaGreatDoorRows
import Derived.WalkKit
import Derived.WalkSpells
import Derived.WalkLawsBesides
import Derived.BigQuiet
import Derived.Deep.QuietTactic
import Derived.StillTailTactics
import Derived.Handy
import Derived.Lib.Hide
import Derived.Test.YtlkajejbfojkeaaGreatDoorRPaCToPaF
import Derived.Test.YtlkajejbfojkeaaGreatDoorRFacDToStoC
set_option linter.unusedSimpArgs false
set_option linter.unusedVariables false
namespace Go.Proofs.YtlkajejbfojkeaaGreatDoor
open Go.RowKit
attribute [local go_sem] store_float

theorem refuses_of (c : Int) (w : World) : Calls Tryz.prog 125 #[.int .i64 c] w (Gives (.bool (decide (c = 2 ∨ c = 4 ∨ c = 5))) w) := by
 by_cases h2 : c = 2
 · subst h2
   go_enter Tryz.func125, Tryz.ntmps125
   go_wp2_with fail
   go_ret
   exact ⟨rfl, rfl⟩
 by_cases h4 : c = 4
 · subst h4
   go_enter Tryz.func125, Tryz.ntmps125
   go_wp2_with fail
   go_ret
   exact ⟨rfl, rfl⟩
 by_cases h5 : c = 5
 · subst h5
   go_enter Tryz.func125, Tryz.ntmps125
   go_wp2_with fail
   go_ret
   exact ⟨rfl, rfl⟩
 have e2 : (c == 2) = false := by simpa using h2
 have e4 : (c == 4) = false := by simpa using h4
 have e5 : (c == 5) = false := by simpa using h5
 rw [decide_eq_false (by omega)]
 clear h2 h4 h5
 go_enter Tryz.func125, Tryz.ntmps125
 go_wp2_with fail
 go_ret
 exact ⟨rfl, rfl⟩
set_option maxRecDepth 100000 in
set_option maxHeartbeats 2000000 in
theorem fault_of (m : SMsg) (c : Int) (w : World) : Calls Tryz.prog 130 #[msgV m, .int .i64 c] w (ResEnds ⟨[], [ans m 19 c], 0⟩ w) := by
 have HA := Lib.hid (fun W => answer_of m 19 c W)
 obtain ⟨mk, fr, to, man, maq, mrg, mpt, mpr, mco⟩ := m
 dsimp only [msgV, msgA, ans, ResEnds] at *
 go_enter Tryz.func130, Tryz.ntmps130
 go_wp2_with fail
 refine (HA.out _).mono ?_
 rintro e w1 ⟨rfl, hb1⟩
 have B1 : Below w.heap.size w w1 := below_then (by go_grown) hb1
 have HV := Lib.hid ((Blk.fresh (w.alloc (.cells #[.int .i64 mk, .int .i64 fr, .int .i64 to, .int .i64 man, .int .i64 maq, .int .i64 mrg, .int .i64 mpt, .int .i64 mpr, .int .i64 mco] 81)) #[.slice none 0 0, .slice none 0 0, .int .i64 0] 87 (w.heap.size + 1) (by simp)).below hb1)
 have lv := HV.out.lt
 have qv := HV.out.cell; have fv := HV.out.free
 have hBX : Below w.heap.size w (((w1.setCell ⟨w.heap.size + 1, 0, none⟩ (.slice none 0 0)).setCell ⟨w.heap.size + 1, 1, none⟩ (.slice (some ⟨w1.heap.size, 0, none⟩) 1 1)).setCell ⟨w.heap.size + 1, 2, none⟩ (.int .i64 0)) := ((B1.setCell (p := ⟨w.heap.size + 1, 0, none⟩) (by show _ ≤ w.heap.size + 1; omega) _).setCell (p := ⟨w.heap.size + 1, 1, none⟩) (by show _ ≤ w.heap.size + 1; omega) _).setCell (p := ⟨w.heap.size + 1, 2, none⟩) (by show _ ≤ w.heap.size + 1; omega) _
 have hR := World.ownsRow_lit (e := 81) (size := 9) (base := w.heap.size) (((w1.setCell ⟨w.heap.size + 1, 0, none⟩ (.slice none 0 0)).setCell ⟨w.heap.size + 1, 1, none⟩ (.slice (some ⟨w1.heap.size, 0, none⟩) 1 1)).setCell ⟨w.heap.size + 1, 2, none⟩ (.int .i64 0)) #[.int .i64 19, .int .i64 to, .int .i64 fr, .int .i64 man, .int .i64 maq, .int .i64 mrg, .int .i64 mpt, .int .i64 0, .int .i64 c] 1 hBX.size (by decide) rfl
 rw [show (((w1.setCell ⟨w.heap.size + 1, 0, none⟩ (.slice none 0 0)).setCell ⟨w.heap.size + 1, 1, none⟩ (.slice (some ⟨w1.heap.size, 0, none⟩) 1 1)).setCell ⟨w.heap.size + 1, 2, none⟩ (.int .i64 0)).heap.size = w1.heap.size by simp] at hR
 have HR := Lib.hid hR
 have HBX := Lib.hid (hBX.alloc hBX.size (.cells #[.int .i64 19, .int .i64 to, .int .i64 fr, .int .i64 man, .int .i64 maq, .int .i64 mrg, .int .i64 mpt, .int .i64 0, .int .i64 c] 81))
 clear hR hBX
 go_wp2_with fail
 refine bodyPost_ret (v := .agg #[.slice none 0 0, .slice (some ⟨w1.heap.size, 0, none⟩) 1 1, .int .i64 0]) (by simp [results, Tryz.results130, go_sem, qv, fv, lv, Nat.ne_of_lt lv]) rfl ⟨_, _, rfl, World.ownsRow_nil _ _ _ _, HR.out, HBX.out⟩
set_option maxRecDepth 100000 in
set_option maxHeartbeats 4000000 in
theorem tell_ff_18 (sb : Value) (p : SPart) (nd : Int) (m : SMsg) (w : World) (hFd : ∀ W, Below w.heap.size w W → Calls Tryz.prog 121 #[sb, .int .i64 m.pt] W (Makes (.tuple #[oneV p nd m.pt, .bool false]) W)) (hk : m.k = 18) :
   Calls Tryz.prog 39 #[sb, msgV m] w (ResEnds ⟨[], [], 0⟩ w) := by
 have HFd := Lib.hid hFd
 have hDn := fun W => down_of 18 W
 rw [show isDown 18 = false by decide] at hDn
 have HDn := Lib.hid hDn
 clear hDn
 obtain ⟨an, aq, rg, ⟨sp, sd, ss, sh⟩⟩ := p
 obtain ⟨mk, fr, to, man, maq, mrg, mpt, mpr, mco⟩ := m
 dsimp only [oneV, msgV, msgA, seatV, factV, factC, fPlace, fTurn, ans, ResEnds] at *
 subst hk
 clear hFd
 go_enter Tryz.func39, Tryz.ntmps39
 go_wp2_with fail
 refine (HFd.out _ (by go_grown)).mono ?_
 rintro e w1 ⟨rfl, hb1⟩
 have B1 : Below w.heap.size w w1 := below_then (by go_grown) hb1
 have HM := Lib.hid (((Blk.fresh w #[.int .i64 18, .int .i64 fr, .int .i64 to, .int .i64 man, .int .i64 maq, .int .i64 mrg, .int .i64 mpt, .int .i64 mpr, .int .i64 mco] 81 _ rfl).alloc (.cells #[.slice none 0 0, .slice none 0 0, .int .i64 0] 87)).below hb1)
 have HV := Lib.hid ((Blk.fresh (w.alloc (.cells #[.int .i64 18, .int .i64 fr, .int .i64 to, .int .i64 man, .int .i64 maq, .int .i64 mrg, .int .i64 mpt, .int .i64 mpr, .int .i64 mco] 81)) #[.slice none 0 0, .slice none 0 0, .int .i64 0] 87 (w.heap.size + 1) (by simp)).below hb1)
 have lm := HM.out.lt
 have lv := HV.out.lt
 have qm := HM.out.cell
 go_wp2_with fail
 clear qm
 have HF := Lib.hid (fr_start (bs := [(w1.heap.size, #[.int .i64 an, .int .i64 aq, .int .i64 rg, .int .i64 sp, .int .i64 sd, .int .i64 ss, .int .i64 sh, .int .i64 nd, .int .i64 mpt]), (w.heap.size, #[.int .i64 18, .int .i64 fr, .int .i64 to, .int .i64 man, .int .i64 maq, .int .i64 mrg, .int .i64 mpt, .int .i64 mpr, .int .i64 mco]), (w.heap.size + 1, #[.slice none 0 0, .slice none 0 0, .int .i64 0])]) (w := w) (W := (w1.alloc (.cells #[.int .i64 an, .int .i64 aq, .int .i64 rg, .int .i64 sp, .int .i64 sd, .int .i64 ss, .int .i64 sh, .int .i64 nd, .int .i64 mpt] 205))) (by go_grown) (by
   intro y hy
   simp only [List.mem_cons, List.not_mem_nil, or_false] at hy
   rcases hy with rfl | rfl | rfl
   · exact Blk.fresh w1 _ _ _ rfl
   · exact HM.out.alloc _
   · exact HV.out.alloc _) (by simp; omega) 87)
 rw [show (w1.alloc (.cells #[.int .i64 an, .int .i64 aq, .int .i64 rg, .int .i64 sp, .int .i64 sd, .int .i64 ss, .int .i64 sh, .int .i64 nd, .int .i64 mpt] 205)).heap.size = w1.heap.size + 1 by simp] at HF
 have HM2 := HM; have HV2 := HV
 clear hb1
 refine (HDn.out _).mono ?_
 rintro e w2 ⟨rfl, rfl⟩
 have qm := HM2.out.cell; have qv := HV2.out.cell; have fv := HV2.out.free
 go_wp2_with fail
 clear qm qv fv
 refine (HDn.out _).mono ?_
 rintro e w3 ⟨rfl, rfl⟩
 have qm := HM2.out.cell; have qv := HV2.out.cell; have fv := HV2.out.free
 go_wp2_with fail
 have lvx : w.heap.size + 1 < w1.heap.size + 1 := by omega
 refine bodyPost_ret (v := .agg #[.slice none 0 0, .slice none 0 0, .int .i64 0]) (by simp [results, Tryz.results39, go_sem, qv, fv, lv, Nat.ne_of_lt lv, lvx, Nat.ne_of_lt lvx]) rfl ⟨_, _, rfl, World.ownsRow_nil _ _ _ _, World.ownsRow_nil _ _ _ _, by go_grown⟩
set_option maxRecDepth 100000 in
set_option maxHeartbeats 4000000 in
theorem tell_ff_19 (sb : Value) (p : SPart) (nd : Int) (m : SMsg) (w : World) (hFd : ∀ W, Below w.heap.size w W → Calls Tryz.prog 121 #[sb, .int .i64 m.pt] W (Makes (.tuple #[oneV p nd m.pt, .bool false]) W)) (hk : m.k = 19) :
   Calls Tryz.prog 39 #[sb, msgV m] w (ResEnds ⟨[], [], 0⟩ w) := by
 have HFd := Lib.hid hFd
 have hDn := fun W => down_of 19 W
 rw [show isDown 19 = false by decide] at hDn
 have HDn := Lib.hid hDn
 clear hDn
 obtain ⟨an, aq, rg, ⟨sp, sd, ss, sh⟩⟩ := p
 obtain ⟨mk, fr, to, man, maq, mrg, mpt, mpr, mco⟩ := m
 dsimp only [oneV, msgV, msgA, seatV, factV, factC, fPlace, fTurn, ans, ResEnds] at *
 subst hk
 clear hFd
 go_enter Tryz.func39, Tryz.ntmps39
 go_wp2_with fail
 refine (HFd.out _ (by go_grown)).mono ?_
 rintro e w1 ⟨rfl, hb1⟩
 have B1 : Below w.heap.size w w1 := below_then (by go_grown) hb1
 have HM := Lib.hid (((Blk.fresh w #[.int .i64 19, .int .i64 fr, .int .i64 to, .int .i64 man, .int .i64 maq, .int .i64 mrg, .int .i64 mpt, .int .i64 mpr, .int .i64 mco] 81 _ rfl).alloc (.cells #[.slice none 0 0, .slice none 0 0, .int .i64 0] 87)).below hb1)
 have HV := Lib.hid ((Blk.fresh (w.alloc (.cells #[.int .i64 19, .int .i64 fr, .int .i64 to, .int .i64 man, .int .i64 maq, .int .i64 mrg, .int .i64 mpt, .int .i64 mpr, .int .i64 mco] 81)) #[.slice none 0 0, .slice none 0 0, .int .i64 0] 87 (w.heap.size + 1) (by simp)).below hb1)
 have lm := HM.out.lt
 have lv := HV.out.lt
 have qm := HM.out.cell
 go_wp2_with fail
 clear qm
 have HF := Lib.hid (fr_start (bs := [(w1.heap.size, #[.int .i64 an, .int .i64 aq, .int .i64 rg, .int .i64 sp, .int .i64 sd, .int .i64 ss, .int .i64 sh, .int .i64 nd, .int .i64 mpt]), (w.heap.size, #[.int .i64 19, .int .i64 fr, .int .i64 to, .int .i64 man, .int .i64 maq, .int .i64 mrg, .int .i64 mpt, .int .i64 mpr, .int .i64 mco]), (w.heap.size + 1, #[.slice none 0 0, .slice none 0 0, .int .i64 0])]) (w := w) (W := (w1.alloc (.cells #[.int .i64 an, .int .i64 aq, .int .i64 rg, .int .i64 sp, .int .i64 sd, .int .i64 ss, .int .i64 sh, .int .i64 nd, .int .i64 mpt] 205))) (by go_grown) (by
   intro y hy
   simp only [List.mem_cons, List.not_mem_nil, or_false] at hy
   rcases hy with rfl | rfl | rfl
   · exact Blk.fresh w1 _ _ _ rfl
   · exact HM.out.alloc _
   · exact HV.out.alloc _) (by simp; omega) 87)
 rw [show (w1.alloc (.cells #[.int .i64 an, .int .i64 aq, .int .i64 rg, .int .i64 sp, .int .i64 sd, .int .i64 ss, .int .i64 sh, .int .i64 nd, .int .i64 mpt] 205)).heap.size = w1.heap.size + 1 by simp] at HF
 have HM2 := HM; have HV2 := HV
 clear hb1
 refine (HDn.out _).mono ?_
 rintro e w2 ⟨rfl, rfl⟩
 have qm := HM2.out.cell; have qv := HV2.out.cell; have fv := HV2.out.free
 go_wp2_with fail
 clear qm qv fv
 refine (HDn.out _).mono ?_
 rintro e w3 ⟨rfl, rfl⟩
 have qm := HM2.out.cell; have qv := HV2.out.cell; have fv := HV2.out.free
 go_wp2_with fail
 have lvx : w.heap.size + 1 < w1.heap.size + 1 := by omega
 refine bodyPost_ret (v := .agg #[.slice none 0 0, .slice none 0 0, .int .i64 0]) (by simp [results, Tryz.results39, go_sem, qv, fv, lv, Nat.ne_of_lt lv, lvx, Nat.ne_of_lt lvx]) rfl ⟨_, _, rfl, World.ownsRow_nil _ _ _ _, World.ownsRow_nil _ _ _ _, by go_grown⟩
set_option maxRecDepth 100000 in
set_option maxHeartbeats 4000000 in
theorem tell_ff_no (sb : Value) (p : SPart) (nd : Int) (m : SMsg) (w : World) (hFd : ∀ W, Below w.heap.size w W → Calls Tryz.prog 121 #[sb, .int .i64 m.pt] W (Makes (.tuple #[oneV p nd m.pt, .bool false]) W)) (h18 : m.k ≠ 18) (h19 : m.k ≠ 19) (h15 : m.k ≠ 15) (hd : isDown m.k = false) :
   Calls Tryz.prog 39 #[sb, msgV m] w (ResEnds ⟨[], [], 0⟩ w) := by
 have HFd := Lib.hid hFd
 have hDn := fun W => down_of m.k W
 rw [hd] at hDn
 have HDn := Lib.hid hDn
 clear hDn hd
 obtain ⟨an, aq, rg, ⟨sp, sd, ss, sh⟩⟩ := p
 obtain ⟨mk, fr, to, man, maq, mrg, mpt, mpr, mco⟩ := m
 dsimp only [oneV, msgV, msgA, seatV, factV, factC, fPlace, fTurn, ans, ResEnds] at *
 skip
 have e18 : (mk == 18) = false := by simpa using h18
 have e19 : (mk == 19) = false := by simpa using h19
 have e15 : (mk == 15) = false := by simpa using h15
 clear h18 h19 h15
 clear hFd
 go_enter Tryz.func39, Tryz.ntmps39
 go_wp2_with fail
 refine (HFd.out _ (by go_grown)).mono ?_
 rintro e w1 ⟨rfl, hb1⟩
 have B1 : Below w.heap.size w w1 := below_then (by go_grown) hb1
 have HM := Lib.hid (((Blk.fresh w #[.int .i64 mk, .int .i64 fr, .int .i64 to, .int .i64 man, .int .i64 maq, .int .i64 mrg, .int .i64 mpt, .int .i64 mpr, .int .i64 mco] 81 _ rfl).alloc (.cells #[.slice none 0 0, .slice none 0 0, .int .i64 0] 87)).below hb1)
 have HV := Lib.hid ((Blk.fresh (w.alloc (.cells #[.int .i64 mk, .int .i64 fr, .int .i64 to, .int .i64 man, .int .i64 maq, .int .i64 mrg, .int .i64 mpt, .int .i64 mpr, .int .i64 mco] 81)) #[.slice none 0 0, .slice none 0 0, .int .i64 0] 87 (w.heap.size + 1) (by simp)).below hb1)
 have lm := HM.out.lt
 have lv := HV.out.lt
 have qm := HM.out.cell
 go_wp2_with fail
 clear qm
 have HF := Lib.hid (fr_start (bs := [(w1.heap.size, #[.int .i64 an, .int .i64 aq, .int .i64 rg, .int .i64 sp, .int .i64 sd, .int .i64 ss, .int .i64 sh, .int .i64 nd, .int .i64 mpt]), (w.heap.size, #[.int .i64 mk, .int .i64 fr, .int .i64 to, .int .i64 man, .int .i64 maq, .int .i64 mrg, .int .i64 mpt, .int .i64 mpr, .int .i64 mco]), (w.heap.size + 1, #[.slice none 0 0, .slice none 0 0, .int .i64 0])]) (w := w) (W := (w1.alloc (.cells #[.int .i64 an, .int .i64 aq, .int .i64 rg, .int .i64 sp, .int .i64 sd, .int .i64 ss, .int .i64 sh, .int .i64 nd, .int .i64 mpt] 205))) (by go_grown) (by
   intro y hy
   simp only [List.mem_cons, List.not_mem_nil, or_false] at hy
   rcases hy with rfl | rfl | rfl
   · exact Blk.fresh w1 _ _ _ rfl
   · exact HM.out.alloc _
   · exact HV.out.alloc _) (by simp; omega) 87)
 rw [show (w1.alloc (.cells #[.int .i64 an, .int .i64 aq, .int .i64 rg, .int .i64 sp, .int .i64 sd, .int .i64 ss, .int .i64 sh, .int .i64 nd, .int .i64 mpt] 205)).heap.size = w1.heap.size + 1 by simp] at HF
 have HM2 := HM; have HV2 := HV
 clear hb1
 refine (HDn.out _).mono ?_
 rintro e w2 ⟨rfl, rfl⟩
 have qm := HM2.out.cell; have qv := HV2.out.cell; have fv := HV2.out.free
 go_wp2_with fail
 clear qm qv fv
 refine (HDn.out _).mono ?_
 rintro e w3 ⟨rfl, rfl⟩
 have qm := HM2.out.cell; have qv := HV2.out.cell; have fv := HV2.out.free
 go_wp2_with fail
 have lvx : w.heap.size + 1 < w1.heap.size + 1 := by omega
 refine bodyPost_ret (v := .agg #[.slice none 0 0, .slice none 0 0, .int .i64 0]) (by simp [results, Tryz.results39, go_sem, qv, fv, lv, Nat.ne_of_lt lv, lvx, Nat.ne_of_lt lvx]) rfl ⟨_, _, rfl, World.ownsRow_nil _ _ _ _, World.ownsRow_nil _ _ _ _, by go_grown⟩
set_option maxRecDepth 100000 in
set_option maxHeartbeats 4000000 in
theorem tell_ff_15 (sb : Value) (p : SPart) (nd : Int) (m : SMsg) (w : World) (hFd : ∀ W, Below w.heap.size w W → Calls Tryz.prog 121 #[sb, .int .i64 m.pt] W (Makes (.tuple #[oneV p nd m.pt, .bool false]) W)) (hk : m.k = 15) :
   Calls Tryz.prog 39 #[sb, msgV m] w (ResEnds ⟨[], [ans m 19 3], 0⟩ w) := by
 have HFd := Lib.hid hFd
 have HFa := Lib.hid (fun W (_ : Below w.heap.size w W) => fault_of m 3 W)
 obtain ⟨an, aq, rg, ⟨sp, sd, ss, sh⟩⟩ := p
 obtain ⟨mk, fr, to, man, maq, mrg, mpt, mpr, mco⟩ := m
 dsimp only [oneV, msgV, msgA, seatV, factV, factC, fPlace, fTurn, ans, ResEnds] at *
 subst hk
 clear hFd
 go_enter Tryz.func39, Tryz.ntmps39
 go_wp2_with fail
 refine (HFd.out _ (by go_grown)).mono ?_
 rintro e w1 ⟨rfl, hb1⟩
 have B1 : Below w.heap.size w w1 := below_then (by go_grown) hb1
 have HM := Lib.hid (((Blk.fresh w #[.int .i64 15, .int .i64 fr, .int .i64 to, .int .i64 man, .int .i64 maq, .int .i64 mrg, .int .i64 mpt, .int .i64 mpr, .int .i64 mco] 81 _ rfl).alloc (.cells #[.slice none 0 0, .slice none 0 0, .int .i64 0] 87)).below hb1)
 have HV := Lib.hid ((Blk.fresh (w.alloc (.cells #[.int .i64 15, .int .i64 fr, .int .i64 to, .int .i64 man, .int .i64 maq, .int .i64 mrg, .int .i64 mpt, .int .i64 mpr, .int .i64 mco] 81)) #[.slice none 0 0, .slice none 0 0, .int .i64 0] 87 (w.heap.size + 1) (by simp)).below hb1)
 have lm := HM.out.lt
 have lv := HV.out.lt
 have qm := HM.out.cell
 go_wp2_with fail
 clear qm
 have HF := Lib.hid (fr_start (bs := [(w1.heap.size, #[.int .i64 an, .int .i64 aq, .int .i64 rg, .int .i64 sp, .int .i64 sd, .int .i64 ss, .int .i64 sh, .int .i64 nd, .int .i64 mpt]), (w.heap.size, #[.int .i64 15, .int .i64 fr, .int .i64 to, .int .i64 man, .int .i64 maq, .int .i64 mrg, .int .i64 mpt, .int .i64 mpr, .int .i64 mco]), (w.heap.size + 1, #[.slice none 0 0, .slice none 0 0, .int .i64 0])]) (w := w) (W := (w1.alloc (.cells #[.int .i64 an, .int .i64 aq, .int .i64 rg, .int .i64 sp, .int .i64 sd, .int .i64 ss, .int .i64 sh, .int .i64 nd, .int .i64 mpt] 205))) (by go_grown) (by
   intro y hy
   simp only [List.mem_cons, List.not_mem_nil, or_false] at hy
   rcases hy with rfl | rfl | rfl
   · exact Blk.fresh w1 _ _ _ rfl
   · exact HM.out.alloc _
   · exact HV.out.alloc _) (by simp; omega) 87)
 rw [show (w1.alloc (.cells #[.int .i64 an, .int .i64 aq, .int .i64 rg, .int .i64 sp, .int .i64 sd, .int .i64 ss, .int .i64 sh, .int .i64 nd, .int .i64 mpt] 205)).heap.size = w1.heap.size + 1 by simp] at HF
 have HM2 := HM; have HV2 := HV
 clear hb1
 refine (HFa.out _ HF.out.be).mono ?_
 rintro e w2 ⟨fvR, mvR, rfl, ho1, ho2, hbR⟩
 have HE := Lib.hid (ends_call (b := w.heap.size + 1) HF.out.be ho1 ho2 hbR (by omega) (HF.out.bl _ (.tail _ (.tail _ (.head _)))).lt)
 have qv := ((HF.out.bl _ (.tail _ (.tail _ (.head _)))).below hbR).cell; have fv := ((HF.out.bl _ (.tail _ (.tail _ (.head _)))).below hbR).free
 have lv2 := ((HF.out.bl _ (.tail _ (.tail _ (.head _)))).below hbR).lt
 dsimp only at qv fv lv2
 obtain ⟨af, lf, cf, hfv⟩ := row_form3 ho1
 obtain ⟨am, lm', cm, hmv⟩ := row_form3 ho2
 subst hfv hmv
 clear ho1 ho2 hbR
 go_wp2_with fail
 refine bodyPost_ret (v := .agg #[.slice af lf cf, .slice am lm' cm, .int .i64 0]) (by simp [results, Tryz.results39, go_sem, qv, fv]) rfl ⟨_, _, rfl, ?_⟩
 exact HE.out _ _ _
set_option maxRecDepth 100000 in
set_option maxHeartbeats 4000000 in
theorem tell_ff_dn (sb : Value) (p : SPart) (nd : Int) (m : SMsg) (w : World) (hFd : ∀ W, Below w.heap.size w W → Calls Tryz.prog 121 #[sb, .int .i64 m.pt] W (Makes (.tuple #[oneV p nd m.pt, .bool false]) W)) (h18 : m.k ≠ 18) (h19 : m.k ≠ 19) (h15 : m.k ≠ 15) (hd : isDown m.k = true) :
   Calls Tryz.prog 39 #[sb, msgV m] w (ResEnds ⟨[], [ans m 19 3], 0⟩ w) := by
 have HFd := Lib.hid hFd
 have HFa := Lib.hid (fun W (_ : Below w.heap.size w W) => fault_of m 3 W)
 have hDn := fun W => down_of m.k W
 rw [hd] at hDn
 have HDn := Lib.hid hDn
 clear hDn hd
 obtain ⟨an, aq, rg, ⟨sp, sd, ss, sh⟩⟩ := p
 obtain ⟨mk, fr, to, man, maq, mrg, mpt, mpr, mco⟩ := m
 dsimp only [oneV, msgV, msgA, seatV, factV, factC, fPlace, fTurn, ans, ResEnds] at *
 skip
 have e18 : (mk == 18) = false := by simpa using h18
 have e19 : (mk == 19) = false := by simpa using h19
 have e15 : (mk == 15) = false := by simpa using h15
 clear h18 h19 h15
 clear hFd
 go_enter Tryz.func39, Tryz.ntmps39
 go_wp2_with fail
 refine (HFd.out _ (by go_grown)).mono ?_
 rintro e w1 ⟨rfl, hb1⟩
 have B1 : Below w.heap.size w w1 := below_then (by go_grown) hb1
 have HM := Lib.hid (((Blk.fresh w #[.int .i64 mk, .int .i64 fr, .int .i64 to, .int .i64 man, .int .i64 maq, .int .i64 mrg, .int .i64 mpt, .int .i64 mpr, .int .i64 mco] 81 _ rfl).alloc (.cells #[.slice none 0 0, .slice none 0 0, .int .i64 0] 87)).below hb1)
 have HV := Lib.hid ((Blk.fresh (w.alloc (.cells #[.int .i64 mk, .int .i64 fr, .int .i64 to, .int .i64 man, .int .i64 maq, .int .i64 mrg, .int .i64 mpt, .int .i64 mpr, .int .i64 mco] 81)) #[.slice none 0 0, .slice none 0 0, .int .i64 0] 87 (w.heap.size + 1) (by simp)).below hb1)
 have lm := HM.out.lt
 have lv := HV.out.lt
 have qm := HM.out.cell
 go_wp2_with fail
 clear qm
 have HF := Lib.hid (fr_start (bs := [(w1.heap.size, #[.int .i64 an, .int .i64 aq, .int .i64 rg, .int .i64 sp, .int .i64 sd, .int .i64 ss, .int .i64 sh, .int .i64 nd, .int .i64 mpt]), (w.heap.size, #[.int .i64 mk, .int .i64 fr, .int .i64 to, .int .i64 man, .int .i64 maq, .int .i64 mrg, .int .i64 mpt, .int .i64 mpr, .int .i64 mco]), (w.heap.size + 1, #[.slice none 0 0, .slice none 0 0, .int .i64 0])]) (w := w) (W := (w1.alloc (.cells #[.int .i64 an, .int .i64 aq, .int .i64 rg, .int .i64 sp, .int .i64 sd, .int .i64 ss, .int .i64 sh, .int .i64 nd, .int .i64 mpt] 205))) (by go_grown) (by
   intro y hy
   simp only [List.mem_cons, List.not_mem_nil, or_false] at hy
   rcases hy with rfl | rfl | rfl
   · exact Blk.fresh w1 _ _ _ rfl
   · exact HM.out.alloc _
   · exact HV.out.alloc _) (by simp; omega) 87)
 rw [show (w1.alloc (.cells #[.int .i64 an, .int .i64 aq, .int .i64 rg, .int .i64 sp, .int .i64 sd, .int .i64 ss, .int .i64 sh, .int .i64 nd, .int .i64 mpt] 205)).heap.size = w1.heap.size + 1 by simp] at HF
 have HM2 := HM; have HV2 := HV
 clear hb1
 refine (HDn.out _).mono ?_
 rintro e w2 ⟨rfl, rfl⟩
 have qm := HM2.out.cell; have qv := HV2.out.cell; have fv := HV2.out.free
 go_wp2_with fail
 clear qm qv fv
 refine (HFa.out _ HF.out.be).mono ?_
 rintro e w3 ⟨fvR, mvR, rfl, ho1, ho2, hbR⟩
 have HE := Lib.hid (ends_call (b := w.heap.size + 1) HF.out.be ho1 ho2 hbR (by omega) (HF.out.bl _ (.tail _ (.tail _ (.head _)))).lt)
 have qv := ((HF.out.bl _ (.tail _ (.tail _ (.head _)))).below hbR).cell; have fv := ((HF.out.bl _ (.tail _ (.tail _ (.head _)))).below hbR).free
 have lv2 := ((HF.out.bl _ (.tail _ (.tail _ (.head _)))).below hbR).lt
 dsimp only at qv fv lv2
 obtain ⟨af, lf, cf, hfv⟩ := row_form3 ho1
 obtain ⟨am, lm', cm, hmv⟩ := row_form3 ho2
 subst hfv hmv
 clear ho1 ho2 hbR
 go_wp2_with fail
 refine bodyPost_ret (v := .agg #[.slice af lf cf, .slice am lm' cm, .int .i64 0]) (by simp [results, Tryz.results39, go_sem, qv, fv]) rfl ⟨_, _, rfl, ?_⟩
 exact HE.out _ _ _
set_option maxRecDepth 100000 in
set_option maxHeartbeats 4000000 in
theorem tell_tf_18 (sb : Value) (p : SPart) (nd : Int) (m : SMsg) (w : World) (hFd : ∀ W, Below w.heap.size w W → Calls Tryz.prog 121 #[sb, .int .i64 m.pt] W (Makes (.tuple #[oneV p nd m.pt, .bool true]) W)) (hft : fitsB p nd m = false) (hk : m.k = 18) :
   Calls Tryz.prog 39 #[sb, msgV m] w (ResEnds ⟨[], [], 0⟩ w) := by
 have HFd := Lib.hid hFd
 have hFt := fun W => fits_of p nd m.pt m W
 rw [hft] at hFt
 have HFt := Lib.hid hFt
 have hDn := fun W => down_of 18 W
 rw [show isDown 18 = false by decide] at hDn
 have HDn := Lib.hid hDn
 clear hDn
 obtain ⟨an, aq, rg, ⟨sp, sd, ss, sh⟩⟩ := p
 obtain ⟨mk, fr, to, man, maq, mrg, mpt, mpr, mco⟩ := m
 dsimp only [oneV, msgV, msgA, seatV, factV, factC, fPlace, fTurn, ans, ResEnds] at *
 subst hk
 clear hFd hFt hft
 go_enter Tryz.func39, Tryz.ntmps39
 go_wp2_with fail
 refine (HFd.out _ (by go_grown)).mono ?_
 rintro e w1 ⟨rfl, hb1⟩
 have B1 : Below w.heap.size w w1 := below_then (by go_grown) hb1
 have HM := Lib.hid (((Blk.fresh w #[.int .i64 18, .int .i64 fr, .int .i64 to, .int .i64 man, .int .i64 maq, .int .i64 mrg, .int .i64 mpt, .int .i64 mpr, .int .i64 mco] 81 _ rfl).alloc (.cells #[.slice none 0 0, .slice none 0 0, .int .i64 0] 87)).below hb1)
 have HV := Lib.hid ((Blk.fresh (w.alloc (.cells #[.int .i64 18, .int .i64 fr, .int .i64 to, .int .i64 man, .int .i64 maq, .int .i64 mrg, .int .i64 mpt, .int .i64 mpr, .int .i64 mco] 81)) #[.slice none 0 0, .slice none 0 0, .int .i64 0] 87 (w.heap.size + 1) (by simp)).below hb1)
 have lm := HM.out.lt
 have lv := HV.out.lt
 have qm := HM.out.cell
 go_wp2_with fail
 clear qm
 refine (HFt.out _).mono ?_
 rintro e w2 ⟨rfl, hb2⟩
 have lp : w1.heap.size < w2.heap.size := by have := hb2.size; simp only [World.size_alloc] at this; omega
 have B2 : Below w.heap.size w w2 := below_then B1 (below_then (by go_grown) hb2)
 have HF := Lib.hid (fr_start (bs := [(w1.heap.size, #[.int .i64 an, .int .i64 aq, .int .i64 rg, .int .i64 sp, .int .i64 sd, .int .i64 ss, .int .i64 sh, .int .i64 nd, .int .i64 mpt]), (w.heap.size, #[.int .i64 18, .int .i64 fr, .int .i64 to, .int .i64 man, .int .i64 maq, .int .i64 mrg, .int .i64 mpt, .int .i64 mpr, .int .i64 mco]), (w.heap.size + 1, #[.slice none 0 0, .slice none 0 0, .int .i64 0])]) (w := w) (W := w2) B2 (by
   intro y hy
   simp only [List.mem_cons, List.not_mem_nil, or_false] at hy
   rcases hy with rfl | rfl | rfl
   · exact (Blk.fresh w1 _ _ _ rfl).below hb2
   · exact (HM.out.alloc _).below hb2
   · exact (HV.out.alloc _).below hb2) (by simp; omega) 87)
 have HM2 := Lib.hid ((HM.out.alloc (.cells #[.int .i64 an, .int .i64 aq, .int .i64 rg, .int .i64 sp, .int .i64 sd, .int .i64 ss, .int .i64 sh, .int .i64 nd, .int .i64 mpt] 205)).below hb2)
 have HV2 := Lib.hid ((HV.out.alloc (.cells #[.int .i64 an, .int .i64 aq, .int .i64 rg, .int .i64 sp, .int .i64 sd, .int .i64 ss, .int .i64 sh, .int .i64 nd, .int .i64 mpt] 205)).below hb2)
 have HP2 := Lib.hid ((Blk.fresh w1 #[.int .i64 an, .int .i64 aq, .int .i64 rg, .int .i64 sp, .int .i64 sd, .int .i64 ss, .int .i64 sh, .int .i64 nd, .int .i64 mpt] 205 _ rfl).below hb2)
 have lm2 : w.heap.size + 1 < w2.heap.size := by omega
 have lm3 : w.heap.size < w2.heap.size := by omega
 clear hb2
 have qm := HM2.out.cell
 have qp := HP2.out.cell
 go_wp2_with fail
 clear qm qp
 clear hb1
 refine (HDn.out _).mono ?_
 rintro e w3 ⟨rfl, rfl⟩
 have qm := HM2.out.cell; have qv := HV2.out.cell; have fv := HV2.out.free
 have qp := HP2.out.cell
 go_wp2_with fail
 clear qm qv fv qp
 refine (HDn.out _).mono ?_
 rintro e w4 ⟨rfl, rfl⟩
 have qm := HM2.out.cell; have qv := HV2.out.cell; have fv := HV2.out.free
 have qp := HP2.out.cell
 go_wp2_with fail
 have lvx : w.heap.size + 1 < w2.heap.size + 1 := by omega
 refine bodyPost_ret (v := .agg #[.slice none 0 0, .slice none 0 0, .int .i64 0]) (by simp [results, Tryz.results39, go_sem, qv, fv, lm2, Nat.ne_of_lt lm2, lvx, Nat.ne_of_lt lvx]) rfl ⟨_, _, rfl, World.ownsRow_nil _ _ _ _, World.ownsRow_nil _ _ _ _, by go_grown⟩
set_option maxRecDepth 100000 in
set_option maxHeartbeats 4000000 in
theorem tell_tf_19 (sb : Value) (p : SPart) (nd : Int) (m : SMsg) (w : World) (hFd : ∀ W, Below w.heap.size w W → Calls Tryz.prog 121 #[sb, .int .i64 m.pt] W (Makes (.tuple #[oneV p nd m.pt, .bool true]) W)) (hft : fitsB p nd m = false) (hk : m.k = 19) :
   Calls Tryz.prog 39 #[sb, msgV m] w (ResEnds ⟨[], [], 0⟩ w) := by
 have HFd := Lib.hid hFd
 have hFt := fun W => fits_of p nd m.pt m W
 rw [hft] at hFt
 have HFt := Lib.hid hFt
 have hDn := fun W => down_of 19 W
 rw [show isDown 19 = false by decide] at hDn
 have HDn := Lib.hid hDn
 clear hDn
 obtain ⟨an, aq, rg, ⟨sp, sd, ss, sh⟩⟩ := p
 obtain ⟨mk, fr, to, man, maq, mrg, mpt, mpr, mco⟩ := m
 dsimp only [oneV, msgV, msgA, seatV, factV, factC, fPlace, fTurn, ans, ResEnds] at *
 subst hk
 clear hFd hFt hft
 go_enter Tryz.func39, Tryz.ntmps39
 go_wp2_with fail
 refine (HFd.out _ (by go_grown)).mono ?_
 rintro e w1 ⟨rfl, hb1⟩
 have B1 : Below w.heap.size w w1 := below_then (by go_grown) hb1
 have HM := Lib.hid (((Blk.fresh w #[.int .i64 19, .int .i64 fr, .int .i64 to, .int .i64 man, .int .i64 maq, .int .i64 mrg, .int .i64 mpt, .int .i64 mpr, .int .i64 mco] 81 _ rfl).alloc (.cells #[.slice none 0 0, .slice none 0 0, .int .i64 0] 87)).below hb1)
 have HV := Lib.hid ((Blk.fresh (w.alloc (.cells #[.int .i64 19, .int .i64 fr, .int .i64 to, .int .i64 man, .int .i64 maq, .int .i64 mrg, .int .i64 mpt, .int .i64 mpr, .int .i64 mco] 81)) #[.slice none 0 0, .slice none 0 0, .int .i64 0] 87 (w.heap.size + 1) (by simp)).below hb1)
 have lm := HM.out.lt
 have lv := HV.out.lt
 have qm := HM.out.cell
 go_wp2_with fail
 clear qm
 refine (HFt.out _).mono ?_
 rintro e w2 ⟨rfl, hb2⟩
 have lp : w1.heap.size < w2.heap.size := by have := hb2.size; simp only [World.size_alloc] at this; omega
 have B2 : Below w.heap.size w w2 := below_then B1 (below_then (by go_grown) hb2)
 have HF := Lib.hid (fr_start (bs := [(w1.heap.size, #[.int .i64 an, .int .i64 aq, .int .i64 rg, .int .i64 sp, .int .i64 sd, .int .i64 ss, .int .i64 sh, .int .i64 nd, .int .i64 mpt]), (w.heap.size, #[.int .i64 19, .int .i64 fr, .int .i64 to, .int .i64 man, .int .i64 maq, .int .i64 mrg, .int .i64 mpt, .int .i64 mpr, .int .i64 mco]), (w.heap.size + 1, #[.slice none 0 0, .slice none 0 0, .int .i64 0])]) (w := w) (W := w2) B2 (by
   intro y hy
   simp only [List.mem_cons, List.not_mem_nil, or_false] at hy
   rcases hy with rfl | rfl | rfl
   · exact (Blk.fresh w1 _ _ _ rfl).below hb2
   · exact (HM.out.alloc _).below hb2
   · exact (HV.out.alloc _).below hb2) (by simp; omega) 87)
 have HM2 := Lib.hid ((HM.out.alloc (.cells #[.int .i64 an, .int .i64 aq, .int .i64 rg, .int .i64 sp, .int .i64 sd, .int .i64 ss, .int .i64 sh, .int .i64 nd, .int .i64 mpt] 205)).below hb2)
 have HV2 := Lib.hid ((HV.out.alloc (.cells #[.int .i64 an, .int .i64 aq, .int .i64 rg, .int .i64 sp, .int .i64 sd, .int .i64 ss, .int .i64 sh, .int .i64 nd, .int .i64 mpt] 205)).below hb2)
 have HP2 := Lib.hid ((Blk.fresh w1 #[.int .i64 an, .int .i64 aq, .int .i64 rg, .int .i64 sp, .int .i64 sd, .int .i64 ss, .int .i64 sh, .int .i64 nd, .int .i64 mpt] 205 _ rfl).below hb2)
 have lm2 : w.heap.size + 1 < w2.heap.size := by omega
 have lm3 : w.heap.size < w2.heap.size := by omega
 clear hb2
 have qm := HM2.out.cell
 have qp := HP2.out.cell
 go_wp2_with fail
 clear qm qp
 clear hb1
 refine (HDn.out _).mono ?_
 rintro e w3 ⟨rfl, rfl⟩
 have qm := HM2.out.cell; have qv := HV2.out.cell; have fv := HV2.out.free
 have qp := HP2.out.cell
 go_wp2_with fail
 clear qm qv fv qp
 refine (HDn.out _).mono ?_
 rintro e w4 ⟨rfl, rfl⟩
 have qm := HM2.out.cell; have qv := HV2.out.cell; have fv := HV2.out.free
 have qp := HP2.out.cell
 go_wp2_with fail
 have lvx : w.heap.size + 1 < w2.heap.size + 1 := by omega
 refine bodyPost_ret (v := .agg #[.slice none 0 0, .slice none 0 0, .int .i64 0]) (by simp [results, Tryz.results39, go_sem, qv, fv, lm2, Nat.ne_of_lt lm2, lvx, Nat.ne_of_lt lvx]) rfl ⟨_, _, rfl, World.ownsRow_nil _ _ _ _, World.ownsRow_nil _ _ _ _, by go_grown⟩
set_option maxRecDepth 100000 in
set_option maxHeartbeats 4000000 in
theorem tell_tf_no (sb : Value) (p : SPart) (nd : Int) (m : SMsg) (w : World) (hFd : ∀ W, Below w.heap.size w W → Calls Tryz.prog 121 #[sb, .int .i64 m.pt] W (Makes (.tuple #[oneV p nd m.pt, .bool true]) W)) (hft : fitsB p nd m = false) (h18 : m.k ≠ 18) (h19 : m.k ≠ 19) (h15 : m.k ≠ 15) (hd : isDown m.k = false) :
   Calls Tryz.prog 39 #[sb, msgV m] w (ResEnds ⟨[], [], 0⟩ w) := by
 have HFd := Lib.hid hFd
 have hFt := fun W => fits_of p nd m.pt m W
 rw [hft] at hFt
 have HFt := Lib.hid hFt
 have hDn := fun W => down_of m.k W
 rw [hd] at hDn
 have HDn := Lib.hid hDn
 clear hDn hd
 obtain ⟨an, aq, rg, ⟨sp, sd, ss, sh⟩⟩ := p
 obtain ⟨mk, fr, to, man, maq, mrg, mpt, mpr, mco⟩ := m
 dsimp only [oneV, msgV, msgA, seatV, factV, factC, fPlace, fTurn, ans, ResEnds] at *
 skip
 have e18 : (mk == 18) = false := by simpa using h18
 have e19 : (mk == 19) = false := by simpa using h19
 have e15 : (mk == 15) = false := by simpa using h15
 clear h18 h19 h15
 clear hFd hFt hft
 go_enter Tryz.func39, Tryz.ntmps39
 go_wp2_with fail
 refine (HFd.out _ (by go_grown)).mono ?_
 rintro e w1 ⟨rfl, hb1⟩
 have B1 : Below w.heap.size w w1 := below_then (by go_grown) hb1
 have HM := Lib.hid (((Blk.fresh w #[.int .i64 mk, .int .i64 fr, .int .i64 to, .int .i64 man, .int .i64 maq, .int .i64 mrg, .int .i64 mpt, .int .i64 mpr, .int .i64 mco] 81 _ rfl).alloc (.cells #[.slice none 0 0, .slice none 0 0, .int .i64 0] 87)).below hb1)
 have HV := Lib.hid ((Blk.fresh (w.alloc (.cells #[.int .i64 mk, .int .i64 fr, .int .i64 to, .int .i64 man, .int .i64 maq, .int .i64 mrg, .int .i64 mpt, .int .i64 mpr, .int .i64 mco] 81)) #[.slice none 0 0, .slice none 0 0, .int .i64 0] 87 (w.heap.size + 1) (by simp)).below hb1)
 have lm := HM.out.lt
 have lv := HV.out.lt
 have qm := HM.out.cell
 go_wp2_with fail
 clear qm
 refine (HFt.out _).mono ?_
 rintro e w2 ⟨rfl, hb2⟩
 have lp : w1.heap.size < w2.heap.size := by have := hb2.size; simp only [World.size_alloc] at this; omega
 have B2 : Below w.heap.size w w2 := below_then B1 (below_then (by go_grown) hb2)
 have HF := Lib.hid (fr_start (bs := [(w1.heap.size, #[.int .i64 an, .int .i64 aq, .int .i64 rg, .int .i64 sp, .int .i64 sd, .int .i64 ss, .int .i64 sh, .int .i64 nd, .int .i64 mpt]), (w.heap.size, #[.int .i64 mk, .int .i64 fr, .int .i64 to, .int .i64 man, .int .i64 maq, .int .i64 mrg, .int .i64 mpt, .int .i64 mpr, .int .i64 mco]), (w.heap.size + 1, #[.slice none 0 0, .slice none 0 0, .int .i64 0])]) (w := w) (W := w2) B2 (by
   intro y hy
   simp only [List.mem_cons, List.not_mem_nil, or_false] at hy
   rcases hy with rfl | rfl | rfl
   · exact (Blk.fresh w1 _ _ _ rfl).below hb2
   · exact (HM.out.alloc _).below hb2
   · exact (HV.out.alloc _).below hb2) (by simp; omega) 87)
 have HM2 := Lib.hid ((HM.out.alloc (.cells #[.int .i64 an, .int .i64 aq, .int .i64 rg, .int .i64 sp, .int .i64 sd, .int .i64 ss, .int .i64 sh, .int .i64 nd, .int .i64 mpt] 205)).below hb2)
 have HV2 := Lib.hid ((HV.out.alloc (.cells #[.int .i64 an, .int .i64 aq, .int .i64 rg, .int .i64 sp, .int .i64 sd, .int .i64 ss, .int .i64 sh, .int .i64 nd, .int .i64 mpt] 205)).below hb2)
 have HP2 := Lib.hid ((Blk.fresh w1 #[.int .i64 an, .int .i64 aq, .int .i64 rg, .int .i64 sp, .int .i64 sd, .int .i64 ss, .int .i64 sh, .int .i64 nd, .int .i64 mpt] 205 _ rfl).below hb2)
 have lm2 : w.heap.size + 1 < w2.heap.size := by omega
 have lm3 : w.heap.size < w2.heap.size := by omega
 clear hb2
 have qm := HM2.out.cell
 have qp := HP2.out.cell
 go_wp2_with fail
 clear qm qp
 clear hb1
 refine (HDn.out _).mono ?_
 rintro e w3 ⟨rfl, rfl⟩
 have qm := HM2.out.cell; have qv := HV2.out.cell; have fv := HV2.out.free
 have qp := HP2.out.cell
 go_wp2_with fail
 clear qm qv fv qp
 refine (HDn.out _).mono ?_
 rintro e w4 ⟨rfl, rfl⟩
 have qm := HM2.out.cell; have qv := HV2.out.cell; have fv := HV2.out.free
 have qp := HP2.out.cell
 go_wp2_with fail
 have lvx : w.heap.size + 1 < w2.heap.size + 1 := by omega
 refine bodyPost_ret (v := .agg #[.slice none 0 0, .slice none 0 0, .int .i64 0]) (by simp [results, Tryz.results39, go_sem, qv, fv, lm2, Nat.ne_of_lt lm2, lvx, Nat.ne_of_lt lvx]) rfl ⟨_, _, rfl, World.ownsRow_nil _ _ _ _, World.ownsRow_nil _ _ _ _, by go_grown⟩
set_option maxRecDepth 100000 in
set_option maxHeartbeats 4000000 in
theorem tell_tf_15 (sb : Value) (p : SPart) (nd : Int) (m : SMsg) (w : World) (hFd : ∀ W, Below w.heap.size w W → Calls Tryz.prog 121 #[sb, .int .i64 m.pt] W (Makes (.tuple #[oneV p nd m.pt, .bool true]) W)) (hft : fitsB p nd m = false) (hk : m.k = 15) :
   Calls Tryz.prog 39 #[sb, msgV m] w (ResEnds ⟨[], [ans m 19 3], 0⟩ w) := by
 have HFd := Lib.hid hFd
 have hFt := fun W => fits_of p nd m.pt m W
 rw [hft] at hFt
 have HFt := Lib.hid hFt
 have HFa := Lib.hid (fun W (_ : Below w.heap.size w W) => fault_of m 3 W)
 obtain ⟨an, aq, rg, ⟨sp, sd, ss, sh⟩⟩ := p
 obtain ⟨mk, fr, to, man, maq, mrg, mpt, mpr, mco⟩ := m
 dsimp only [oneV, msgV, msgA, seatV, factV, factC, fPlace, fTurn, ans, ResEnds] at *
 subst hk
 clear hFd hFt hft
 go_enter Tryz.func39, Tryz.ntmps39
 go_wp2_with fail
 refine (HFd.out _ (by go_grown)).mono ?_
 rintro e w1 ⟨rfl, hb1⟩
 have B1 : Below w.heap.size w w1 := below_then (by go_grown) hb1
 have HM := Lib.hid (((Blk.fresh w #[.int .i64 15, .int .i64 fr, .int .i64 to, .int .i64 man, .int .i64 maq, .int .i64 mrg, .int .i64 mpt, .int .i64 mpr, .int .i64 mco] 81 _ rfl).alloc (.cells #[.slice none 0 0, .slice none 0 0, .int .i64 0] 87)).below hb1)
 have HV := Lib.hid ((Blk.fresh (w.alloc (.cells #[.int .i64 15, .int .i64 fr, .int .i64 to, .int .i64 man, .int .i64 maq, .int .i64 mrg, .int .i64 mpt, .int .i64 mpr, .int .i64 mco] 81)) #[.slice none 0 0, .slice none 0 0, .int .i64 0] 87 (w.heap.size + 1) (by simp)).below hb1)
 have lm := HM.out.lt
 have lv := HV.out.lt
 have qm := HM.out.cell
 go_wp2_with fail
 clear qm
 refine (HFt.out _).mono ?_
 rintro e w2 ⟨rfl, hb2⟩
 have lp : w1.heap.size < w2.heap.size := by have := hb2.size; simp only [World.size_alloc] at this; omega
 have B2 : Below w.heap.size w w2 := below_then B1 (below_then (by go_grown) hb2)
 have HF := Lib.hid (fr_start (bs := [(w1.heap.size, #[.int .i64 an, .int .i64 aq, .int .i64 rg, .int .i64 sp, .int .i64 sd, .int .i64 ss, .int .i64 sh, .int .i64 nd, .int .i64 mpt]), (w.heap.size, #[.int .i64 15, .int .i64 fr, .int .i64 to, .int .i64 man, .int .i64 maq, .int .i64 mrg, .int .i64 mpt, .int .i64 mpr, .int .i64 mco]), (w.heap.size + 1, #[.slice none 0 0, .slice none 0 0, .int .i64 0])]) (w := w) (W := w2) B2 (by
   intro y hy
   simp only [List.mem_cons, List.not_mem_nil, or_false] at hy
   rcases hy with rfl | rfl | rfl
   · exact (Blk.fresh w1 _ _ _ rfl).below hb2
   · exact (HM.out.alloc _).below hb2
   · exact (HV.out.alloc _).below hb2) (by simp; omega) 87)
 have HM2 := Lib.hid ((HM.out.alloc (.cells #[.int .i64 an, .int .i64 aq, .int .i64 rg, .int .i64 sp, .int .i64 sd, .int .i64 ss, .int .i64 sh, .int .i64 nd, .int .i64 mpt] 205)).below hb2)
 have HV2 := Lib.hid ((HV.out.alloc (.cells #[.int .i64 an, .int .i64 aq, .int .i64 rg, .int .i64 sp, .int .i64 sd, .int .i64 ss, .int .i64 sh, .int .i64 nd, .int .i64 mpt] 205)).below hb2)
 have HP2 := Lib.hid ((Blk.fresh w1 #[.int .i64 an, .int .i64 aq, .int .i64 rg, .int .i64 sp, .int .i64 sd, .int .i64 ss, .int .i64 sh, .int .i64 nd, .int .i64 mpt] 205 _ rfl).below hb2)
 have lm2 : w.heap.size + 1 < w2.heap.size := by omega
 have lm3 : w.heap.size < w2.heap.size := by omega
 clear hb2
 have qm := HM2.out.cell
 have qp := HP2.out.cell
 go_wp2_with fail
 clear qm qp
 clear hb1
 refine (HFa.out _ HF.out.be).mono ?_
 rintro e w3 ⟨fvR, mvR, rfl, ho1, ho2, hbR⟩
 have HE := Lib.hid (ends_call (b := w.heap.size + 1) HF.out.be ho1 ho2 hbR (by omega) (HF.out.bl _ (.tail _ (.tail _ (.head _)))).lt)
 have qv := ((HF.out.bl _ (.tail _ (.tail _ (.head _)))).below hbR).cell; have fv := ((HF.out.bl _ (.tail _ (.tail _ (.head _)))).below hbR).free
 have lv2 := ((HF.out.bl _ (.tail _ (.tail _ (.head _)))).below hbR).lt
 dsimp only at qv fv lv2
 obtain ⟨af, lf, cf, hfv⟩ := row_form3 ho1
 obtain ⟨am, lm', cm, hmv⟩ := row_form3 ho2
 subst hfv hmv
 clear ho1 ho2 hbR
 go_wp2_with fail
 refine bodyPost_ret (v := .agg #[.slice af lf cf, .slice am lm' cm, .int .i64 0]) (by simp [results, Tryz.results39, go_sem, qv, fv]) rfl ⟨_, _, rfl, ?_⟩
 exact HE.out _ _ _
set_option maxRecDepth 100000 in
set_option maxHeartbeats 4000000 in
theorem tell_tf_dn (sb : Value) (p : SPart) (nd : Int) (m : SMsg) (w : World) (hFd : ∀ W, Below w.heap.size w W → Calls Tryz.prog 121 #[sb, .int .i64 m.pt] W (Makes (.tuple #[oneV p nd m.pt, .bool true]) W)) (hft : fitsB p nd m = false) (h18 : m.k ≠ 18) (h19 : m.k ≠ 19) (h15 : m.k ≠ 15) (hd : isDown m.k = true) :
   Calls Tryz.prog 39 #[sb, msgV m] w (ResEnds ⟨[], [ans m 19 3], 0⟩ w) := by
 have HFd := Lib.hid hFd
 have hFt := fun W => fits_of p nd m.pt m W
 rw [hft] at hFt
 have HFt := Lib.hid hFt
 have HFa := Lib.hid (fun W (_ : Below w.heap.size w W) => fault_of m 3 W)
 have hDn := fun W => down_of m.k W
 rw [hd] at hDn
 have HDn := Lib.hid hDn
 clear hDn hd
 obtain ⟨an, aq, rg, ⟨sp, sd, ss, sh⟩⟩ := p
 obtain ⟨mk, fr, to, man, maq, mrg, mpt, mpr, mco⟩ := m
 dsimp only [oneV, msgV, msgA, seatV, factV, factC, fPlace, fTurn, ans, ResEnds] at *
 skip
 have e18 : (mk == 18) = false := by simpa using h18
 have e19 : (mk == 19) = false := by simpa using h19
 have e15 : (mk == 15) = false := by simpa using h15
 clear h18 h19 h15
 clear hFd hFt hft
 go_enter Tryz.func39, Tryz.ntmps39
 go_wp2_with fail
 refine (HFd.out _ (by go_grown)).mono ?_
 rintro e w1 ⟨rfl, hb1⟩
 have B1 : Below w.heap.size w w1 := below_then (by go_grown) hb1
 have HM := Lib.hid (((Blk.fresh w #[.int .i64 mk, .int .i64 fr, .int .i64 to, .int .i64 man, .int .i64 maq, .int .i64 mrg, .int .i64 mpt, .int .i64 mpr, .int .i64 mco] 81 _ rfl).alloc (.cells #[.slice none 0 0, .slice none 0 0, .int .i64 0] 87)).below hb1)
 have HV := Lib.hid ((Blk.fresh (w.alloc (.cells #[.int .i64 mk, .int .i64 fr, .int .i64 to, .int .i64 man, .int .i64 maq, .int .i64 mrg, .int .i64 mpt, .int .i64 mpr, .int .i64 mco] 81)) #[.slice none 0 0, .slice none 0 0, .int .i64 0] 87 (w.heap.size + 1) (by simp)).below hb1)
 have lm := HM.out.lt
 have lv := HV.out.lt
 have qm := HM.out.cell
 go_wp2_with fail
 clear qm
 refine (HFt.out _).mono ?_
 rintro e w2 ⟨rfl, hb2⟩
 have lp : w1.heap.size < w2.heap.size := by have := hb2.size; simp only [World.size_alloc] at this; omega
 have B2 : Below w.heap.size w w2 := below_then B1 (below_then (by go_grown) hb2)
 have HF := Lib.hid (fr_start (bs := [(w1.heap.size, #[.int .i64 an, .int .i64 aq, .int .i64 rg, .int .i64 sp, .int .i64 sd, .int .i64 ss, .int .i64 sh, .int .i64 nd, .int .i64 mpt]), (w.heap.size, #[.int .i64 mk, .int .i64 fr, .int .i64 to, .int .i64 man, .int .i64 maq, .int .i64 mrg, .int .i64 mpt, .int .i64 mpr, .int .i64 mco]), (w.heap.size + 1, #[.slice none 0 0, .slice none 0 0, .int .i64 0])]) (w := w) (W := w2) B2 (by
   intro y hy
   simp only [List.mem_cons, List.not_mem_nil, or_false] at hy
   rcases hy with rfl | rfl | rfl
   · exact (Blk.fresh w1 _ _ _ rfl).below hb2
   · exact (HM.out.alloc _).below hb2
   · exact (HV.out.alloc _).below hb2) (by simp; omega) 87)
 have HM2 := Lib.hid ((HM.out.alloc (.cells #[.int .i64 an, .int .i64 aq, .int .i64 rg, .int .i64 sp, .int .i64 sd, .int .i64 ss, .int .i64 sh, .int .i64 nd, .int .i64 mpt] 205)).below hb2)
 have HV2 := Lib.hid ((HV.out.alloc (.cells #[.int .i64 an, .int .i64 aq, .int .i64 rg, .int .i64 sp, .int .i64 sd, .int .i64 ss, .int .i64 sh, .int .i64 nd, .int .i64 mpt] 205)).below hb2)
 have HP2 := Lib.hid ((Blk.fresh w1 #[.int .i64 an, .int .i64 aq, .int .i64 rg, .int .i64 sp, .int .i64 sd, .int .i64 ss, .int .i64 sh, .int .i64 nd, .int .i64 mpt] 205 _ rfl).below hb2)
 have lm2 : w.heap.size + 1 < w2.heap.size := by omega
 have lm3 : w.heap.size < w2.heap.size := by omega
 clear hb2
 have qm := HM2.out.cell
 have qp := HP2.out.cell
 go_wp2_with fail
 clear qm qp
 clear hb1
 refine (HDn.out _).mono ?_
 rintro e w3 ⟨rfl, rfl⟩
 have qm := HM2.out.cell; have qv := HV2.out.cell; have fv := HV2.out.free
 have qp := HP2.out.cell
 go_wp2_with fail
 clear qm qv fv qp
 refine (HFa.out _ HF.out.be).mono ?_
 rintro e w4 ⟨fvR, mvR, rfl, ho1, ho2, hbR⟩
 have HE := Lib.hid (ends_call (b := w.heap.size + 1) HF.out.be ho1 ho2 hbR (by omega) (HF.out.bl _ (.tail _ (.tail _ (.head _)))).lt)
 have qv := ((HF.out.bl _ (.tail _ (.tail _ (.head _)))).below hbR).cell; have fv := ((HF.out.bl _ (.tail _ (.tail _ (.head _)))).below hbR).free
 have lv2 := ((HF.out.bl _ (.tail _ (.tail _ (.head _)))).below hbR).lt
 dsimp only at qv fv lv2
 obtain ⟨af, lf, cf, hfv⟩ := row_form3 ho1
 obtain ⟨am, lm', cm, hmv⟩ := row_form3 ho2
 subst hfv hmv
 clear ho1 ho2 hbR
 go_wp2_with fail
 refine bodyPost_ret (v := .agg #[.slice af lf cf, .slice am lm' cm, .int .i64 0]) (by simp [results, Tryz.results39, go_sem, qv, fv]) rfl ⟨_, _, rfl, ?_⟩
 exact HE.out _ _ _
end Go.Proofs.YtlkajejbfojkeaaGreatDoor

namespace Go.Proofs.YtlkajejbfojkeaaGreatDoor
open Go.RowKit
attribute [local go_sem] store_float

set_option maxRecDepth 100000 in
set_option maxHeartbeats 4000000 in
theorem tell_tt_18p (sb : Value) (p : SPart) (nd : Int) (m : SMsg) (w : World) (hFd : ∀ W, Below w.heap.size w W → Calls Tryz.prog 121 #[sb, .int .i64 m.pt] W (Makes (.tuple #[oneV p nd m.pt, .bool true]) W)) (hft : fitsB p nd m = true) (hk : m.k = 18) (hp : 0 ≤ p.rg) :
   Calls Tryz.prog 39 #[sb, msgV m] w (ResEnds ⟨[], [], 0⟩ w) := by
 have HFd := Lib.hid hFd
 have hFt := fun W => fits_of p nd m.pt m W
 rw [hft] at hFt
 have HFt := Lib.hid hFt
 have hPl := fun W => placed_of p nd m.pt W
 rw [decide_eq_true hp] at hPl
 have HPl := Lib.hid hPl
 clear hPl hp
 have hDn := fun W => down_of 18 W
 rw [show isDown 18 = false by decide] at hDn
 have HDn := Lib.hid hDn
 clear hDn
 obtain ⟨an, aq, rg, ⟨sp, sd, ss, sh⟩⟩ := p
 obtain ⟨mk, fr, to, man, maq, mrg, mpt, mpr, mco⟩ := m
 dsimp only [oneV, msgV, msgA, seatV, factV, factC, fPlace, fTurn, ans, ResEnds] at *
 subst hk
 clear hFd hFt hft
 go_enter Tryz.func39, Tryz.ntmps39
 go_wp2_with fail
 refine (HFd.out _ (by go_grown)).mono ?_
 rintro e w1 ⟨rfl, hb1⟩
 have B1 : Below w.heap.size w w1 := below_then (by go_grown) hb1
 have HM := Lib.hid (((Blk.fresh w #[.int .i64 18, .int .i64 fr, .int .i64 to, .int .i64 man, .int .i64 maq, .int .i64 mrg, .int .i64 mpt, .int .i64 mpr, .int .i64 mco] 81 _ rfl).alloc (.cells #[.slice none 0 0, .slice none 0 0, .int .i64 0] 87)).below hb1)
 have HV := Lib.hid ((Blk.fresh (w.alloc (.cells #[.int .i64 18, .int .i64 fr, .int .i64 to, .int .i64 man, .int .i64 maq, .int .i64 mrg, .int .i64 mpt, .int .i64 mpr, .int .i64 mco] 81)) #[.slice none 0 0, .slice none 0 0, .int .i64 0] 87 (w.heap.size + 1) (by simp)).below hb1)
 have lm := HM.out.lt
 have lv := HV.out.lt
 have qm := HM.out.cell
 go_wp2_with fail
 clear qm
 refine (HFt.out _).mono ?_
 rintro e w2 ⟨rfl, hb2⟩
 have lp : w1.heap.size < w2.heap.size := by have := hb2.size; simp only [World.size_alloc] at this; omega
 have B2 : Below w.heap.size w w2 := below_then B1 (below_then (by go_grown) hb2)
 have HF := Lib.hid (fr_start (bs := [(w1.heap.size, #[.int .i64 an, .int .i64 aq, .int .i64 rg, .int .i64 sp, .int .i64 sd, .int .i64 ss, .int .i64 sh, .int .i64 nd, .int .i64 mpt]), (w.heap.size, #[.int .i64 18, .int .i64 fr, .int .i64 to, .int .i64 man, .int .i64 maq, .int .i64 mrg, .int .i64 mpt, .int .i64 mpr, .int .i64 mco]), (w.heap.size + 1, #[.slice none 0 0, .slice none 0 0, .int .i64 0])]) (w := w) (W := w2) B2 (by
   intro y hy
   simp only [List.mem_cons, List.not_mem_nil, or_false] at hy
   rcases hy with rfl | rfl | rfl
   · exact (Blk.fresh w1 _ _ _ rfl).below hb2
   · exact (HM.out.alloc _).below hb2
   · exact (HV.out.alloc _).below hb2) (by simp; omega) 87)
 have HM2 := Lib.hid ((HM.out.alloc (.cells #[.int .i64 an, .int .i64 aq, .int .i64 rg, .int .i64 sp, .int .i64 sd, .int .i64 ss, .int .i64 sh, .int .i64 nd, .int .i64 mpt] 205)).below hb2)
 have HV2 := Lib.hid ((HV.out.alloc (.cells #[.int .i64 an, .int .i64 aq, .int .i64 rg, .int .i64 sp, .int .i64 sd, .int .i64 ss, .int .i64 sh, .int .i64 nd, .int .i64 mpt] 205)).below hb2)
 have HP2 := Lib.hid ((Blk.fresh w1 #[.int .i64 an, .int .i64 aq, .int .i64 rg, .int .i64 sp, .int .i64 sd, .int .i64 ss, .int .i64 sh, .int .i64 nd, .int .i64 mpt] 205 _ rfl).below hb2)
 have lm2 : w.heap.size + 1 < w2.heap.size := by omega
 have lm3 : w.heap.size < w2.heap.size := by omega
 clear hb2
 have qm := HM2.out.cell
 have qp := HP2.out.cell
 go_wp2_with fail
 clear qm qp
 clear hb1
 refine (HPl.out _).mono ?_
 rintro e w3 ⟨rfl, hb3⟩
 have HF := Lib.hid (HF.out.below hb3)
 clear hb3
 have hlt := HF.out.lt
 dsimp only at hlt
 have qp := (HF.out.bl _ (.head _)).cell; have lp1 := (HF.out.bl _ (.head _)).lt; have qm := (HF.out.bl _ (.tail _ (.head _))).cell; have lm1 := (HF.out.bl _ (.tail _ (.head _))).lt
 have qv := (HF.out.bl _ (.tail _ (.tail _ (.head _)))).cell; have fv := (HF.out.bl _ (.tail _ (.tail _ (.head _)))).free; have lv1 := (HF.out.bl _ (.tail _ (.tail _ (.head _)))).lt
 dsimp only at qp lp1 qm lm1 qv fv lv1
 go_wp2_with fail
 clear hlt qp qm lp1 lm1 qv fv lv1
 refine (HDn.out _).mono ?_
 rintro e w4 ⟨rfl, rfl⟩
 have hlt := HF.out.lt
 dsimp only at hlt
 have qp := (HF.out.bl _ (.head _)).cell; have lp1 := (HF.out.bl _ (.head _)).lt; have qm := (HF.out.bl _ (.tail _ (.head _))).cell; have lm1 := (HF.out.bl _ (.tail _ (.head _))).lt
 have qv := (HF.out.bl _ (.tail _ (.tail _ (.head _)))).cell; have fv := (HF.out.bl _ (.tail _ (.tail _ (.head _)))).free; have lv1 := (HF.out.bl _ (.tail _ (.tail _ (.head _)))).lt
 dsimp only at qp lp1 qm lm1 qv fv lv1
 go_wp2_with fail
 clear hlt qp qm lp1 lm1 qv fv lv1
 refine (HDn.out _).mono ?_
 rintro e w5 ⟨rfl, rfl⟩
 have hlt := HF.out.lt
 dsimp only at hlt
 have qp := (HF.out.bl _ (.head _)).cell; have lp1 := (HF.out.bl _ (.head _)).lt; have qm := (HF.out.bl _ (.tail _ (.head _))).cell; have lm1 := (HF.out.bl _ (.tail _ (.head _))).lt
 have qv := (HF.out.bl _ (.tail _ (.tail _ (.head _)))).cell; have fv := (HF.out.bl _ (.tail _ (.tail _ (.head _)))).free; have lv1 := (HF.out.bl _ (.tail _ (.tail _ (.head _)))).lt
 dsimp only at qp lp1 qm lm1 qv fv lv1
 have q0 := HF.out.q.blk.cell
 dsimp only at q0
 go_wp2_with fail
 refine bodyPost_ret (v := .agg #[.slice none 0 0, .slice none 0 0, .int .i64 0]) (by simp [results, Tryz.results39, go_sem, qv, fv]) rfl ⟨_, _, rfl, ?_⟩
 exact HF.out.ends (b := w.heap.size + 1) (C := #[.slice none 0 0, .slice none 0 0, .int .i64 0]) (by simp) (by omega) _ _ _
set_option maxRecDepth 100000 in
set_option maxHeartbeats 4000000 in
theorem tell_tt_18 (sb : Value) (p : SPart) (nd : Int) (m : SMsg) (w : World) (hFd : ∀ W, Below w.heap.size w W → Calls Tryz.prog 121 #[sb, .int .i64 m.pt] W (Makes (.tuple #[oneV p nd m.pt, .bool true]) W)) (hft : fitsB p nd m = true) (hk : m.k = 18) (hp : p.rg < 0) :
   Calls Tryz.prog 39 #[sb, msgV m] w (ResEnds ⟨[fPlace m.pt m.rg], [], 0⟩ w) := by
 have HFd := Lib.hid hFd
 have hFt := fun W => fits_of p nd m.pt m W
 rw [hft] at hFt
 have HFt := Lib.hid hFt
 have hPl := fun W => placed_of p nd m.pt W
 rw [decide_eq_false (show ¬ 0 ≤ p.rg by omega)] at hPl
 have HPl := Lib.hid hPl
 clear hPl hp
 have HRe := Lib.hid (fun Q r W h hl => remember_of Q r (fPlace m.pt m.rg) W h hl)
 obtain ⟨an, aq, rg, ⟨sp, sd, ss, sh⟩⟩ := p
 obtain ⟨mk, fr, to, man, maq, mrg, mpt, mpr, mco⟩ := m
 dsimp only [oneV, msgV, msgA, seatV, factV, factC, fPlace, fTurn, ans, ResEnds] at *
 subst hk
 clear hFd hFt hft
 go_enter Tryz.func39, Tryz.ntmps39
 go_wp2_with fail
 refine (HFd.out _ (by go_grown)).mono ?_
 rintro e w1 ⟨rfl, hb1⟩
 have B1 : Below w.heap.size w w1 := below_then (by go_grown) hb1
 have HM := Lib.hid (((Blk.fresh w #[.int .i64 18, .int .i64 fr, .int .i64 to, .int .i64 man, .int .i64 maq, .int .i64 mrg, .int .i64 mpt, .int .i64 mpr, .int .i64 mco] 81 _ rfl).alloc (.cells #[.slice none 0 0, .slice none 0 0, .int .i64 0] 87)).below hb1)
 have HV := Lib.hid ((Blk.fresh (w.alloc (.cells #[.int .i64 18, .int .i64 fr, .int .i64 to, .int .i64 man, .int .i64 maq, .int .i64 mrg, .int .i64 mpt, .int .i64 mpr, .int .i64 mco] 81)) #[.slice none 0 0, .slice none 0 0, .int .i64 0] 87 (w.heap.size + 1) (by simp)).below hb1)
 have lm := HM.out.lt
 have lv := HV.out.lt
 have qm := HM.out.cell
 go_wp2_with fail
 clear qm
 refine (HFt.out _).mono ?_
 rintro e w2 ⟨rfl, hb2⟩
 have lp : w1.heap.size < w2.heap.size := by have := hb2.size; simp only [World.size_alloc] at this; omega
 have B2 : Below w.heap.size w w2 := below_then B1 (below_then (by go_grown) hb2)
 have HF := Lib.hid (fr_start (bs := [(w1.heap.size, #[.int .i64 an, .int .i64 aq, .int .i64 rg, .int .i64 sp, .int .i64 sd, .int .i64 ss, .int .i64 sh, .int .i64 nd, .int .i64 mpt]), (w.heap.size, #[.int .i64 18, .int .i64 fr, .int .i64 to, .int .i64 man, .int .i64 maq, .int .i64 mrg, .int .i64 mpt, .int .i64 mpr, .int .i64 mco]), (w.heap.size + 1, #[.slice none 0 0, .slice none 0 0, .int .i64 0])]) (w := w) (W := w2) B2 (by
   intro y hy
   simp only [List.mem_cons, List.not_mem_nil, or_false] at hy
   rcases hy with rfl | rfl | rfl
   · exact (Blk.fresh w1 _ _ _ rfl).below hb2
   · exact (HM.out.alloc _).below hb2
   · exact (HV.out.alloc _).below hb2) (by simp; omega) 87)
 have HM2 := Lib.hid ((HM.out.alloc (.cells #[.int .i64 an, .int .i64 aq, .int .i64 rg, .int .i64 sp, .int .i64 sd, .int .i64 ss, .int .i64 sh, .int .i64 nd, .int .i64 mpt] 205)).below hb2)
 have HV2 := Lib.hid ((HV.out.alloc (.cells #[.int .i64 an, .int .i64 aq, .int .i64 rg, .int .i64 sp, .int .i64 sd, .int .i64 ss, .int .i64 sh, .int .i64 nd, .int .i64 mpt] 205)).below hb2)
 have HP2 := Lib.hid ((Blk.fresh w1 #[.int .i64 an, .int .i64 aq, .int .i64 rg, .int .i64 sp, .int .i64 sd, .int .i64 ss, .int .i64 sh, .int .i64 nd, .int .i64 mpt] 205 _ rfl).below hb2)
 have lm2 : w.heap.size + 1 < w2.heap.size := by omega
 have lm3 : w.heap.size < w2.heap.size := by omega
 clear hb2
 have qm := HM2.out.cell
 have qp := HP2.out.cell
 go_wp2_with fail
 clear qm qp
 clear hb1
 refine (HPl.out _).mono ?_
 rintro e w3 ⟨rfl, hb3⟩
 have HF := Lib.hid (HF.out.below hb3)
 clear hb3
 have hlt := HF.out.lt
 dsimp only at hlt
 have qp := (HF.out.bl _ (.head _)).cell; have lp1 := (HF.out.bl _ (.head _)).lt; have qm := (HF.out.bl _ (.tail _ (.head _))).cell; have lm1 := (HF.out.bl _ (.tail _ (.head _))).lt
 have qv := (HF.out.bl _ (.tail _ (.tail _ (.head _)))).cell; have fv := (HF.out.bl _ (.tail _ (.tail _ (.head _)))).free; have lv1 := (HF.out.bl _ (.tail _ (.tail _ (.head _)))).lt
 dsimp only at qp lp1 qm lm1 qv fv lv1
 go_wp2_with fail
 clear hlt qp qm lp1 lm1 qv fv lv1
 refine (HRe.out _ _ _ HF.out.q (by simp)).mono ?_
 rintro e w4 ⟨rfl, hs4⟩
 obtain ⟨fv4, mv4, hF4⟩ := HF.out.goes hs4
 have HF := Lib.hid hF4
 clear hs4 hF4
 obtain ⟨af, lf, cf, hfv⟩ := row_form3 HF.out.q.fs
 obtain ⟨am, lm', cm, hmv⟩ := row_form3 HF.out.q.ms
 dsimp only at hfv hmv
 subst hfv hmv
 have hlt := HF.out.lt
 dsimp only at hlt
 have qp := (HF.out.bl _ (.head _)).cell; have lp1 := (HF.out.bl _ (.head _)).lt; have qm := (HF.out.bl _ (.tail _ (.head _))).cell; have lm1 := (HF.out.bl _ (.tail _ (.head _))).lt
 have qv := (HF.out.bl _ (.tail _ (.tail _ (.head _)))).cell; have fv := (HF.out.bl _ (.tail _ (.tail _ (.head _)))).free; have lv1 := (HF.out.bl _ (.tail _ (.tail _ (.head _)))).lt
 dsimp only at qp lp1 qm lm1 qv fv lv1
 have q0 := HF.out.q.blk.cell
 dsimp only at q0
 go_wp2_with fail
 refine bodyPost_ret (v := .agg #[.slice af lf cf, .slice am lm' cm, .int .i64 0]) (by simp [results, Tryz.results39, go_sem, qv, fv]) rfl ⟨_, _, rfl, ?_⟩
 exact HF.out.ends (b := w.heap.size + 1) (C := #[.slice none 0 0, .slice none 0 0, .int .i64 0]) (by simp) (by omega) _ _ _
set_option maxRecDepth 100000 in
set_option maxHeartbeats 4000000 in
theorem tell_tt_19p (sb : Value) (p : SPart) (nd : Int) (m : SMsg) (w : World) (hFd : ∀ W, Below w.heap.size w W → Calls Tryz.prog 121 #[sb, .int .i64 m.pt] W (Makes (.tuple #[oneV p nd m.pt, .bool true]) W)) (hft : fitsB p nd m = true) (hk : m.k = 19) (hp : 0 ≤ p.rg) :
   Calls Tryz.prog 39 #[sb, msgV m] w (ResEnds ⟨[], [], 0⟩ w) := by
 have HFd := Lib.hid hFd
 have hFt := fun W => fits_of p nd m.pt m W
 rw [hft] at hFt
 have HFt := Lib.hid hFt
 have hPl := fun W => placed_of p nd m.pt W
 rw [decide_eq_true hp] at hPl
 have HPl := Lib.hid hPl
 clear hPl hp
 have hDn := fun W => down_of 19 W
 rw [show isDown 19 = false by decide] at hDn
 have HDn := Lib.hid hDn
 clear hDn
 obtain ⟨an, aq, rg, ⟨sp, sd, ss, sh⟩⟩ := p
 obtain ⟨mk, fr, to, man, maq, mrg, mpt, mpr, mco⟩ := m
 dsimp only [oneV, msgV, msgA, seatV, factV, factC, fPlace, fTurn, ans, ResEnds] at *
 subst hk
 clear hFd hFt hft
 go_enter Tryz.func39, Tryz.ntmps39
 go_wp2_with fail
 refine (HFd.out _ (by go_grown)).mono ?_
 rintro e w1 ⟨rfl, hb1⟩
 have B1 : Below w.heap.size w w1 := below_then (by go_grown) hb1
 have HM := Lib.hid (((Blk.fresh w #[.int .i64 19, .int .i64 fr, .int .i64 to, .int .i64 man, .int .i64 maq, .int .i64 mrg, .int .i64 mpt, .int .i64 mpr, .int .i64 mco] 81 _ rfl).alloc (.cells #[.slice none 0 0, .slice none 0 0, .int .i64 0] 87)).below hb1)
 have HV := Lib.hid ((Blk.fresh (w.alloc (.cells #[.int .i64 19, .int .i64 fr, .int .i64 to, .int .i64 man, .int .i64 maq, .int .i64 mrg, .int .i64 mpt, .int .i64 mpr, .int .i64 mco] 81)) #[.slice none 0 0, .slice none 0 0, .int .i64 0] 87 (w.heap.size + 1) (by simp)).below hb1)
 have lm := HM.out.lt
 have lv := HV.out.lt
 have qm := HM.out.cell
 go_wp2_with fail
 clear qm
 refine (HFt.out _).mono ?_
 rintro e w2 ⟨rfl, hb2⟩
 have lp : w1.heap.size < w2.heap.size := by have := hb2.size; simp only [World.size_alloc] at this; omega
 have B2 : Below w.heap.size w w2 := below_then B1 (below_then (by go_grown) hb2)
 have HF := Lib.hid (fr_start (bs := [(w1.heap.size, #[.int .i64 an, .int .i64 aq, .int .i64 rg, .int .i64 sp, .int .i64 sd, .int .i64 ss, .int .i64 sh, .int .i64 nd, .int .i64 mpt]), (w.heap.size, #[.int .i64 19, .int .i64 fr, .int .i64 to, .int .i64 man, .int .i64 maq, .int .i64 mrg, .int .i64 mpt, .int .i64 mpr, .int .i64 mco]), (w.heap.size + 1, #[.slice none 0 0, .slice none 0 0, .int .i64 0])]) (w := w) (W := w2) B2 (by
   intro y hy
   simp only [List.mem_cons, List.not_mem_nil, or_false] at hy
   rcases hy with rfl | rfl | rfl
   · exact (Blk.fresh w1 _ _ _ rfl).below hb2
   · exact (HM.out.alloc _).below hb2
   · exact (HV.out.alloc _).below hb2) (by simp; omega) 87)
 have HM2 := Lib.hid ((HM.out.alloc (.cells #[.int .i64 an, .int .i64 aq, .int .i64 rg, .int .i64 sp, .int .i64 sd, .int .i64 ss, .int .i64 sh, .int .i64 nd, .int .i64 mpt] 205)).below hb2)
 have HV2 := Lib.hid ((HV.out.alloc (.cells #[.int .i64 an, .int .i64 aq, .int .i64 rg, .int .i64 sp, .int .i64 sd, .int .i64 ss, .int .i64 sh, .int .i64 nd, .int .i64 mpt] 205)).below hb2)
 have HP2 := Lib.hid ((Blk.fresh w1 #[.int .i64 an, .int .i64 aq, .int .i64 rg, .int .i64 sp, .int .i64 sd, .int .i64 ss, .int .i64 sh, .int .i64 nd, .int .i64 mpt] 205 _ rfl).below hb2)
 have lm2 : w.heap.size + 1 < w2.heap.size := by omega
 have lm3 : w.heap.size < w2.heap.size := by omega
 clear hb2
 have qm := HM2.out.cell
 have qp := HP2.out.cell
 go_wp2_with fail
 clear qm qp
 clear hb1
 refine (HPl.out _).mono ?_
 rintro e w3 ⟨rfl, hb3⟩
 have HF := Lib.hid (HF.out.below hb3)
 clear hb3
 have hlt := HF.out.lt
 dsimp only at hlt
 have qp := (HF.out.bl _ (.head _)).cell; have lp1 := (HF.out.bl _ (.head _)).lt; have qm := (HF.out.bl _ (.tail _ (.head _))).cell; have lm1 := (HF.out.bl _ (.tail _ (.head _))).lt
 have qv := (HF.out.bl _ (.tail _ (.tail _ (.head _)))).cell; have fv := (HF.out.bl _ (.tail _ (.tail _ (.head _)))).free; have lv1 := (HF.out.bl _ (.tail _ (.tail _ (.head _)))).lt
 dsimp only at qp lp1 qm lm1 qv fv lv1
 go_wp2_with fail
 clear hlt qp qm lp1 lm1 qv fv lv1
 refine (HDn.out _).mono ?_
 rintro e w4 ⟨rfl, rfl⟩
 have hlt := HF.out.lt
 dsimp only at hlt
 have qp := (HF.out.bl _ (.head _)).cell; have lp1 := (HF.out.bl _ (.head _)).lt; have qm := (HF.out.bl _ (.tail _ (.head _))).cell; have lm1 := (HF.out.bl _ (.tail _ (.head _))).lt
 have qv := (HF.out.bl _ (.tail _ (.tail _ (.head _)))).cell; have fv := (HF.out.bl _ (.tail _ (.tail _ (.head _)))).free; have lv1 := (HF.out.bl _ (.tail _ (.tail _ (.head _)))).lt
 dsimp only at qp lp1 qm lm1 qv fv lv1
 go_wp2_with fail
 clear hlt qp qm lp1 lm1 qv fv lv1
 refine (HDn.out _).mono ?_
 rintro e w5 ⟨rfl, rfl⟩
 have hlt := HF.out.lt
 dsimp only at hlt
 have qp := (HF.out.bl _ (.head _)).cell; have lp1 := (HF.out.bl _ (.head _)).lt; have qm := (HF.out.bl _ (.tail _ (.head _))).cell; have lm1 := (HF.out.bl _ (.tail _ (.head _))).lt
 have qv := (HF.out.bl _ (.tail _ (.tail _ (.head _)))).cell; have fv := (HF.out.bl _ (.tail _ (.tail _ (.head _)))).free; have lv1 := (HF.out.bl _ (.tail _ (.tail _ (.head _)))).lt
 dsimp only at qp lp1 qm lm1 qv fv lv1
 have q0 := HF.out.q.blk.cell
 dsimp only at q0
 go_wp2_with fail
 refine bodyPost_ret (v := .agg #[.slice none 0 0, .slice none 0 0, .int .i64 0]) (by simp [results, Tryz.results39, go_sem, qv, fv]) rfl ⟨_, _, rfl, ?_⟩
 exact HF.out.ends (b := w.heap.size + 1) (C := #[.slice none 0 0, .slice none 0 0, .int .i64 0]) (by simp) (by omega) _ _ _
set_option maxRecDepth 100000 in
set_option maxHeartbeats 4000000 in
theorem tell_tt_19s (sb : Value) (p : SPart) (nd : Int) (m : SMsg) (w : World) (hFd : ∀ W, Below w.heap.size w W → Calls Tryz.prog 121 #[sb, .int .i64 m.pt] W (Makes (.tuple #[oneV p nd m.pt, .bool true]) W)) (hft : fitsB p nd m = true) (hk : m.k = 19) (hp : p.rg < 0) (hs : p.seat.s ≠ 1) :
   Calls Tryz.prog 39 #[sb, msgV m] w (ResEnds ⟨[], [], 0⟩ w) := by
 have HFd := Lib.hid hFd
 have hFt := fun W => fits_of p nd m.pt m W
 rw [hft] at hFt
 have HFt := Lib.hid hFt
 have hPl := fun W => placed_of p nd m.pt W
 rw [decide_eq_false (show ¬ 0 ≤ p.rg by omega)] at hPl
 have HPl := Lib.hid hPl
 clear hPl hp
 have hDn := fun W => down_of 19 W
 rw [show isDown 19 = false by decide] at hDn
 have HDn := Lib.hid hDn
 clear hDn
 obtain ⟨an, aq, rg, ⟨sp, sd, ss, sh⟩⟩ := p
 obtain ⟨mk, fr, to, man, maq, mrg, mpt, mpr, mco⟩ := m
 dsimp only [oneV, msgV, msgA, seatV, factV, factC, fPlace, fTurn, ans, ResEnds] at *
 subst hk
 have es : (ss == 1) = false := by simpa using hs
 clear hs
 clear hFd hFt hft
 go_enter Tryz.func39, Tryz.ntmps39
 go_wp2_with fail
 refine (HFd.out _ (by go_grown)).mono ?_
 rintro e w1 ⟨rfl, hb1⟩
 have B1 : Below w.heap.size w w1 := below_then (by go_grown) hb1
 have HM := Lib.hid (((Blk.fresh w #[.int .i64 19, .int .i64 fr, .int .i64 to, .int .i64 man, .int .i64 maq, .int .i64 mrg, .int .i64 mpt, .int .i64 mpr, .int .i64 mco] 81 _ rfl).alloc (.cells #[.slice none 0 0, .slice none 0 0, .int .i64 0] 87)).below hb1)
 have HV := Lib.hid ((Blk.fresh (w.alloc (.cells #[.int .i64 19, .int .i64 fr, .int .i64 to, .int .i64 man, .int .i64 maq, .int .i64 mrg, .int .i64 mpt, .int .i64 mpr, .int .i64 mco] 81)) #[.slice none 0 0, .slice none 0 0, .int .i64 0] 87 (w.heap.size + 1) (by simp)).below hb1)
 have lm := HM.out.lt
 have lv := HV.out.lt
 have qm := HM.out.cell
 go_wp2_with fail
 clear qm
 refine (HFt.out _).mono ?_
 rintro e w2 ⟨rfl, hb2⟩
 have lp : w1.heap.size < w2.heap.size := by have := hb2.size; simp only [World.size_alloc] at this; omega
 have B2 : Below w.heap.size w w2 := below_then B1 (below_then (by go_grown) hb2)
 have HF := Lib.hid (fr_start (bs := [(w1.heap.size, #[.int .i64 an, .int .i64 aq, .int .i64 rg, .int .i64 sp, .int .i64 sd, .int .i64 ss, .int .i64 sh, .int .i64 nd, .int .i64 mpt]), (w.heap.size, #[.int .i64 19, .int .i64 fr, .int .i64 to, .int .i64 man, .int .i64 maq, .int .i64 mrg, .int .i64 mpt, .int .i64 mpr, .int .i64 mco]), (w.heap.size + 1, #[.slice none 0 0, .slice none 0 0, .int .i64 0])]) (w := w) (W := w2) B2 (by
   intro y hy
   simp only [List.mem_cons, List.not_mem_nil, or_false] at hy
   rcases hy with rfl | rfl | rfl
   · exact (Blk.fresh w1 _ _ _ rfl).below hb2
   · exact (HM.out.alloc _).below hb2
   · exact (HV.out.alloc _).below hb2) (by simp; omega) 87)
 have HM2 := Lib.hid ((HM.out.alloc (.cells #[.int .i64 an, .int .i64 aq, .int .i64 rg, .int .i64 sp, .int .i64 sd, .int .i64 ss, .int .i64 sh, .int .i64 nd, .int .i64 mpt] 205)).below hb2)
 have HV2 := Lib.hid ((HV.out.alloc (.cells #[.int .i64 an, .int .i64 aq, .int .i64 rg, .int .i64 sp, .int .i64 sd, .int .i64 ss, .int .i64 sh, .int .i64 nd, .int .i64 mpt] 205)).below hb2)
 have HP2 := Lib.hid ((Blk.fresh w1 #[.int .i64 an, .int .i64 aq, .int .i64 rg, .int .i64 sp, .int .i64 sd, .int .i64 ss, .int .i64 sh, .int .i64 nd, .int .i64 mpt] 205 _ rfl).below hb2)
 have lm2 : w.heap.size + 1 < w2.heap.size := by omega
 have lm3 : w.heap.size < w2.heap.size := by omega
 clear hb2
 have qm := HM2.out.cell
 have qp := HP2.out.cell
 go_wp2_with fail
 clear qm qp
 clear hb1
 refine (HPl.out _).mono ?_
 rintro e w3 ⟨rfl, hb3⟩
 have HF := Lib.hid (HF.out.below hb3)
 clear hb3
 have hlt := HF.out.lt
 dsimp only at hlt
 have qp := (HF.out.bl _ (.head _)).cell; have lp1 := (HF.out.bl _ (.head _)).lt; have qm := (HF.out.bl _ (.tail _ (.head _))).cell; have lm1 := (HF.out.bl _ (.tail _ (.head _))).lt
 have qv := (HF.out.bl _ (.tail _ (.tail _ (.head _)))).cell; have fv := (HF.out.bl _ (.tail _ (.tail _ (.head _)))).free; have lv1 := (HF.out.bl _ (.tail _ (.tail _ (.head _)))).lt
 dsimp only at qp lp1 qm lm1 qv fv lv1
 go_wp2_with fail
 clear hlt qp qm lp1 lm1 qv fv lv1
 refine (HDn.out _).mono ?_
 rintro e w4 ⟨rfl, rfl⟩
 have hlt := HF.out.lt
 dsimp only at hlt
 have qp := (HF.out.bl _ (.head _)).cell; have lp1 := (HF.out.bl _ (.head _)).lt; have qm := (HF.out.bl _ (.tail _ (.head _))).cell; have lm1 := (HF.out.bl _ (.tail _ (.head _))).lt
 have qv := (HF.out.bl _ (.tail _ (.tail _ (.head _)))).cell; have fv := (HF.out.bl _ (.tail _ (.tail _ (.head _)))).free; have lv1 := (HF.out.bl _ (.tail _ (.tail _ (.head _)))).lt
 dsimp only at qp lp1 qm lm1 qv fv lv1
 go_wp2_with fail
 clear hlt qp qm lp1 lm1 qv fv lv1
 refine (HDn.out _).mono ?_
 rintro e w5 ⟨rfl, rfl⟩
 have hlt := HF.out.lt
 dsimp only at hlt
 have qp := (HF.out.bl _ (.head _)).cell; have lp1 := (HF.out.bl _ (.head _)).lt; have qm := (HF.out.bl _ (.tail _ (.head _))).cell; have lm1 := (HF.out.bl _ (.tail _ (.head _))).lt
 have qv := (HF.out.bl _ (.tail _ (.tail _ (.head _)))).cell; have fv := (HF.out.bl _ (.tail _ (.tail _ (.head _)))).free; have lv1 := (HF.out.bl _ (.tail _ (.tail _ (.head _)))).lt
 dsimp only at qp lp1 qm lm1 qv fv lv1
 have q0 := HF.out.q.blk.cell
 dsimp only at q0
 go_wp2_with fail
 refine bodyPost_ret (v := .agg #[.slice none 0 0, .slice none 0 0, .int .i64 0]) (by simp [results, Tryz.results39, go_sem, qv, fv]) rfl ⟨_, _, rfl, ?_⟩
 exact HF.out.ends (b := w.heap.size + 1) (C := #[.slice none 0 0, .slice none 0 0, .int .i64 0]) (by simp) (by omega) _ _ _
set_option maxRecDepth 100000 in
set_option maxHeartbeats 4000000 in
theorem tell_tt_19r (sb : Value) (p : SPart) (nd : Int) (m : SMsg) (w : World) (hFd : ∀ W, Below w.heap.size w W → Calls Tryz.prog 121 #[sb, .int .i64 m.pt] W (Makes (.tuple #[oneV p nd m.pt, .bool true]) W)) (hft : fitsB p nd m = true) (hk : m.k = 19) (hp : p.rg < 0) (hs : p.seat.s = 1) (hr : ¬ (m.co = 2 ∨ m.co = 4 ∨ m.co = 5)) :
   Calls Tryz.prog 39 #[sb, msgV m] w (ResEnds ⟨[], [], 0⟩ w) := by
 have HFd := Lib.hid hFd
 have hFt := fun W => fits_of p nd m.pt m W
 rw [hft] at hFt
 have HFt := Lib.hid hFt
 have hPl := fun W => placed_of p nd m.pt W
 rw [decide_eq_false (show ¬ 0 ≤ p.rg by omega)] at hPl
 have HPl := Lib.hid hPl
 clear hPl hp
 have hRf := fun W => refuses_of m.co W
 rw [decide_eq_false hr] at hRf
 have HRf := Lib.hid hRf
 clear hRf hr
 have hDn := fun W => down_of 19 W
 rw [show isDown 19 = false by decide] at hDn
 have HDn := Lib.hid hDn
 clear hDn
 obtain ⟨an, aq, rg, ⟨sp, sd, ss, sh⟩⟩ := p
 obtain ⟨mk, fr, to, man, maq, mrg, mpt, mpr, mco⟩ := m
 dsimp only [oneV, msgV, msgA, seatV, factV, factC, fPlace, fTurn, ans, ResEnds] at *
 subst hk
 have es : (ss == 1) = true := by simpa using hs
 clear hs
 clear hFd hFt hft
 go_enter Tryz.func39, Tryz.ntmps39
 go_wp2_with fail
 refine (HFd.out _ (by go_grown)).mono ?_
 rintro e w1 ⟨rfl, hb1⟩
 have B1 : Below w.heap.size w w1 := below_then (by go_grown) hb1
 have HM := Lib.hid (((Blk.fresh w #[.int .i64 19, .int .i64 fr, .int .i64 to, .int .i64 man, .int .i64 maq, .int .i64 mrg, .int .i64 mpt, .int .i64 mpr, .int .i64 mco] 81 _ rfl).alloc (.cells #[.slice none 0 0, .slice none 0 0, .int .i64 0] 87)).below hb1)
 have HV := Lib.hid ((Blk.fresh (w.alloc (.cells #[.int .i64 19, .int .i64 fr, .int .i64 to, .int .i64 man, .int .i64 maq, .int .i64 mrg, .int .i64 mpt, .int .i64 mpr, .int .i64 mco] 81)) #[.slice none 0 0, .slice none 0 0, .int .i64 0] 87 (w.heap.size + 1) (by simp)).below hb1)
 have lm := HM.out.lt
 have lv := HV.out.lt
 have qm := HM.out.cell
 go_wp2_with fail
 clear qm
 refine (HFt.out _).mono ?_
 rintro e w2 ⟨rfl, hb2⟩
 have lp : w1.heap.size < w2.heap.size := by have := hb2.size; simp only [World.size_alloc] at this; omega
 have B2 : Below w.heap.size w w2 := below_then B1 (below_then (by go_grown) hb2)
 have HF := Lib.hid (fr_start (bs := [(w1.heap.size, #[.int .i64 an, .int .i64 aq, .int .i64 rg, .int .i64 sp, .int .i64 sd, .int .i64 ss, .int .i64 sh, .int .i64 nd, .int .i64 mpt]), (w.heap.size, #[.int .i64 19, .int .i64 fr, .int .i64 to, .int .i64 man, .int .i64 maq, .int .i64 mrg, .int .i64 mpt, .int .i64 mpr, .int .i64 mco]), (w.heap.size + 1, #[.slice none 0 0, .slice none 0 0, .int .i64 0])]) (w := w) (W := w2) B2 (by
   intro y hy
   simp only [List.mem_cons, List.not_mem_nil, or_false] at hy
   rcases hy with rfl | rfl | rfl
   · exact (Blk.fresh w1 _ _ _ rfl).below hb2
   · exact (HM.out.alloc _).below hb2
   · exact (HV.out.alloc _).below hb2) (by simp; omega) 87)
 have HM2 := Lib.hid ((HM.out.alloc (.cells #[.int .i64 an, .int .i64 aq, .int .i64 rg, .int .i64 sp, .int .i64 sd, .int .i64 ss, .int .i64 sh, .int .i64 nd, .int .i64 mpt] 205)).below hb2)
 have HV2 := Lib.hid ((HV.out.alloc (.cells #[.int .i64 an, .int .i64 aq, .int .i64 rg, .int .i64 sp, .int .i64 sd, .int .i64 ss, .int .i64 sh, .int .i64 nd, .int .i64 mpt] 205)).below hb2)
 have HP2 := Lib.hid ((Blk.fresh w1 #[.int .i64 an, .int .i64 aq, .int .i64 rg, .int .i64 sp, .int .i64 sd, .int .i64 ss, .int .i64 sh, .int .i64 nd, .int .i64 mpt] 205 _ rfl).below hb2)
 have lm2 : w.heap.size + 1 < w2.heap.size := by omega
 have lm3 : w.heap.size < w2.heap.size := by omega
 clear hb2
 have qm := HM2.out.cell
 have qp := HP2.out.cell
 go_wp2_with fail
 clear qm qp
 clear hb1
 refine (HPl.out _).mono ?_
 rintro e w3 ⟨rfl, hb3⟩
 have HF := Lib.hid (HF.out.below hb3)
 clear hb3
 have hlt := HF.out.lt
 dsimp only at hlt
 have qp := (HF.out.bl _ (.head _)).cell; have lp1 := (HF.out.bl _ (.head _)).lt; have qm := (HF.out.bl _ (.tail _ (.head _))).cell; have lm1 := (HF.out.bl _ (.tail _ (.head _))).lt
 have qv := (HF.out.bl _ (.tail _ (.tail _ (.head _)))).cell; have fv := (HF.out.bl _ (.tail _ (.tail _ (.head _)))).free; have lv1 := (HF.out.bl _ (.tail _ (.tail _ (.head _)))).lt
 dsimp only at qp lp1 qm lm1 qv fv lv1
 go_wp2_with fail
 clear hlt qp qm lp1 lm1 qv fv lv1
 refine (HRf.out _).mono ?_
 rintro e w4 ⟨rfl, rfl⟩
 have hlt := HF.out.lt
 dsimp only at hlt
 have qp := (HF.out.bl _ (.head _)).cell; have lp1 := (HF.out.bl _ (.head _)).lt; have qm := (HF.out.bl _ (.tail _ (.head _))).cell; have lm1 := (HF.out.bl _ (.tail _ (.head _))).lt
 have qv := (HF.out.bl _ (.tail _ (.tail _ (.head _)))).cell; have fv := (HF.out.bl _ (.tail _ (.tail _ (.head _)))).free; have lv1 := (HF.out.bl _ (.tail _ (.tail _ (.head _)))).lt
 dsimp only at qp lp1 qm lm1 qv fv lv1
 go_wp2_with fail
 clear hlt qp qm lp1 lm1 qv fv lv1
 refine (HDn.out _).mono ?_
 rintro e w5 ⟨rfl, rfl⟩
 have hlt := HF.out.lt
 dsimp only at hlt
 have qp := (HF.out.bl _ (.head _)).cell; have lp1 := (HF.out.bl _ (.head _)).lt; have qm := (HF.out.bl _ (.tail _ (.head _))).cell; have lm1 := (HF.out.bl _ (.tail _ (.head _))).lt
 have qv := (HF.out.bl _ (.tail _ (.tail _ (.head _)))).cell; have fv := (HF.out.bl _ (.tail _ (.tail _ (.head _)))).free; have lv1 := (HF.out.bl _ (.tail _ (.tail _ (.head _)))).lt
 dsimp only at qp lp1 qm lm1 qv fv lv1
 go_wp2_with fail
 clear hlt qp qm lp1 lm1 qv fv lv1
 refine (HDn.out _).mono ?_
 rintro e w6 ⟨rfl, rfl⟩
 have hlt := HF.out.lt
 dsimp only at hlt
 have qp := (HF.out.bl _ (.head _)).cell; have lp1 := (HF.out.bl _ (.head _)).lt; have qm := (HF.out.bl _ (.tail _ (.head _))).cell; have lm1 := (HF.out.bl _ (.tail _ (.head _))).lt
 have qv := (HF.out.bl _ (.tail _ (.tail _ (.head _)))).cell; have fv := (HF.out.bl _ (.tail _ (.tail _ (.head _)))).free; have lv1 := (HF.out.bl _ (.tail _ (.tail _ (.head _)))).lt
 dsimp only at qp lp1 qm lm1 qv fv lv1
 have q0 := HF.out.q.blk.cell
 dsimp only at q0
 go_wp2_with fail
 refine bodyPost_ret (v := .agg #[.slice none 0 0, .slice none 0 0, .int .i64 0]) (by simp [results, Tryz.results39, go_sem, qv, fv]) rfl ⟨_, _, rfl, ?_⟩
 exact HF.out.ends (b := w.heap.size + 1) (C := #[.slice none 0 0, .slice none 0 0, .int .i64 0]) (by simp) (by omega) _ _ _
set_option maxRecDepth 100000 in
set_option maxHeartbeats 4000000 in
theorem tell_tt_19 (sb : Value) (p : SPart) (nd : Int) (m : SMsg) (w : World) (hFd : ∀ W, Below w.heap.size w W → Calls Tryz.prog 121 #[sb, .int .i64 m.pt] W (Makes (.tuple #[oneV p nd m.pt, .bool true]) W)) (hft : fitsB p nd m = true) (hk : m.k = 19) (hp : p.rg < 0) (hs : p.seat.s = 1) (hr : m.co = 2 ∨ m.co = 4 ∨ m.co = 5) :
   Calls Tryz.prog 39 #[sb, msgV m] w (ResEnds ⟨[fTurn m.pt 14 1], [], 0⟩ w) := by
 have HFd := Lib.hid hFd
 have hFt := fun W => fits_of p nd m.pt m W
 rw [hft] at hFt
 have HFt := Lib.hid hFt
 have hPl := fun W => placed_of p nd m.pt W
 rw [decide_eq_false (show ¬ 0 ≤ p.rg by omega)] at hPl
 have HPl := Lib.hid hPl
 clear hPl hp
 have hRf := fun W => refuses_of m.co W
 rw [decide_eq_true hr] at hRf
 have HRf := Lib.hid hRf
 clear hRf hr
 have HTu := Lib.hid (fun W => pturned_of p nd m.pt ⟨0, 0, 14, 1⟩ W)
 have HRe := Lib.hid (fun Q r W h hl => remember_of Q r (fTurn m.pt 14 1) W h hl)
 obtain ⟨an, aq, rg, ⟨sp, sd, ss, sh⟩⟩ := p
 obtain ⟨mk, fr, to, man, maq, mrg, mpt, mpr, mco⟩ := m
 dsimp only [oneV, msgV, msgA, seatV, factV, factC, fPlace, fTurn, ans, ResEnds] at *
 subst hk
 have es : (ss == 1) = true := by simpa using hs
 clear hs
 clear hFd hFt hft
 go_enter Tryz.func39, Tryz.ntmps39
 go_wp2_with fail
 refine (HFd.out _ (by go_grown)).mono ?_
 rintro e w1 ⟨rfl, hb1⟩
 have B1 : Below w.heap.size w w1 := below_then (by go_grown) hb1
 have HM := Lib.hid (((Blk.fresh w #[.int .i64 19, .int .i64 fr, .int .i64 to, .int .i64 man, .int .i64 maq, .int .i64 mrg, .int .i64 mpt, .int .i64 mpr, .int .i64 mco] 81 _ rfl).alloc (.cells #[.slice none 0 0, .slice none 0 0, .int .i64 0] 87)).below hb1)
 have HV := Lib.hid ((Blk.fresh (w.alloc (.cells #[.int .i64 19, .int .i64 fr, .int .i64 to, .int .i64 man, .int .i64 maq, .int .i64 mrg, .int .i64 mpt, .int .i64 mpr, .int .i64 mco] 81)) #[.slice none 0 0, .slice none 0 0, .int .i64 0] 87 (w.heap.size + 1) (by simp)).below hb1)
 have lm := HM.out.lt
 have lv := HV.out.lt
 have qm := HM.out.cell
 go_wp2_with fail
 clear qm
 refine (HFt.out _).mono ?_
 rintro e w2 ⟨rfl, hb2⟩
 have lp : w1.heap.size < w2.heap.size := by have := hb2.size; simp only [World.size_alloc] at this; omega
 have B2 : Below w.heap.size w w2 := below_then B1 (below_then (by go_grown) hb2)
 have HF := Lib.hid (fr_start (bs := [(w1.heap.size, #[.int .i64 an, .int .i64 aq, .int .i64 rg, .int .i64 sp, .int .i64 sd, .int .i64 ss, .int .i64 sh, .int .i64 nd, .int .i64 mpt]), (w.heap.size, #[.int .i64 19, .int .i64 fr, .int .i64 to, .int .i64 man, .int .i64 maq, .int .i64 mrg, .int .i64 mpt, .int .i64 mpr, .int .i64 mco]), (w.heap.size + 1, #[.slice none 0 0, .slice none 0 0, .int .i64 0])]) (w := w) (W := w2) B2 (by
   intro y hy
   simp only [List.mem_cons, List.not_mem_nil, or_false] at hy
   rcases hy with rfl | rfl | rfl
   · exact (Blk.fresh w1 _ _ _ rfl).below hb2
   · exact (HM.out.alloc _).below hb2
   · exact (HV.out.alloc _).below hb2) (by simp; omega) 87)
 have HM2 := Lib.hid ((HM.out.alloc (.cells #[.int .i64 an, .int .i64 aq, .int .i64 rg, .int .i64 sp, .int .i64 sd, .int .i64 ss, .int .i64 sh, .int .i64 nd, .int .i64 mpt] 205)).below hb2)
 have HV2 := Lib.hid ((HV.out.alloc (.cells #[.int .i64 an, .int .i64 aq, .int .i64 rg, .int .i64 sp, .int .i64 sd, .int .i64 ss, .int .i64 sh, .int .i64 nd, .int .i64 mpt] 205)).below hb2)
 have HP2 := Lib.hid ((Blk.fresh w1 #[.int .i64 an, .int .i64 aq, .int .i64 rg, .int .i64 sp, .int .i64 sd, .int .i64 ss, .int .i64 sh, .int .i64 nd, .int .i64 mpt] 205 _ rfl).below hb2)
 have lm2 : w.heap.size + 1 < w2.heap.size := by omega
 have lm3 : w.heap.size < w2.heap.size := by omega
 clear hb2
 have qm := HM2.out.cell
 have qp := HP2.out.cell
 go_wp2_with fail
 clear qm qp
 clear hb1
 refine (HPl.out _).mono ?_
 rintro e w3 ⟨rfl, hb3⟩
 have HF := Lib.hid (HF.out.below hb3)
 clear hb3
 have hlt := HF.out.lt
 dsimp only at hlt
 have qp := (HF.out.bl _ (.head _)).cell; have lp1 := (HF.out.bl _ (.head _)).lt; have qm := (HF.out.bl _ (.tail _ (.head _))).cell; have lm1 := (HF.out.bl _ (.tail _ (.head _))).lt
 have qv := (HF.out.bl _ (.tail _ (.tail _ (.head _)))).cell; have fv := (HF.out.bl _ (.tail _ (.tail _ (.head _)))).free; have lv1 := (HF.out.bl _ (.tail _ (.tail _ (.head _)))).lt
 dsimp only at qp lp1 qm lm1 qv fv lv1
 go_wp2_with fail
 clear hlt qp qm lp1 lm1 qv fv lv1
 refine (HRf.out _).mono ?_
 rintro e w4 ⟨rfl, rfl⟩
 have hlt := HF.out.lt
 dsimp only at hlt
 have qp := (HF.out.bl _ (.head _)).cell; have lp1 := (HF.out.bl _ (.head _)).lt; have qm := (HF.out.bl _ (.tail _ (.head _))).cell; have lm1 := (HF.out.bl _ (.tail _ (.head _))).lt
 have qv := (HF.out.bl _ (.tail _ (.tail _ (.head _)))).cell; have fv := (HF.out.bl _ (.tail _ (.tail _ (.head _)))).free; have lv1 := (HF.out.bl _ (.tail _ (.tail _ (.head _)))).lt
 dsimp only at qp lp1 qm lm1 qv fv lv1
 go_wp2_with fail
 clear hlt qp qm lp1 lm1 qv fv lv1
 refine (HTu.out _).mono ?_
 rintro e w5 ⟨rfl, hb5⟩
 have HF := Lib.hid (HF.out.below hb5)
 clear hb5
 have hlt := HF.out.lt
 dsimp only at hlt
 have qp := (HF.out.bl _ (.head _)).cell; have lp1 := (HF.out.bl _ (.head _)).lt; have qm := (HF.out.bl _ (.tail _ (.head _))).cell; have lm1 := (HF.out.bl _ (.tail _ (.head _))).lt
 have qv := (HF.out.bl _ (.tail _ (.tail _ (.head _)))).cell; have fv := (HF.out.bl _ (.tail _ (.tail _ (.head _)))).free; have lv1 := (HF.out.bl _ (.tail _ (.tail _ (.head _)))).lt
 dsimp only at qp lp1 qm lm1 qv fv lv1
 go_wp2_with fail
 clear hlt qp qm lp1 lm1 qv fv lv1
 refine (HRe.out _ _ _ HF.out.q (by simp)).mono ?_
 rintro e w6 ⟨rfl, hs6⟩
 obtain ⟨fv6, mv6, hF6⟩ := HF.out.goes hs6
 have HF := Lib.hid hF6
 clear hs6 hF6
 obtain ⟨af, lf, cf, hfv⟩ := row_form3 HF.out.q.fs
 obtain ⟨am, lm', cm, hmv⟩ := row_form3 HF.out.q.ms
 dsimp only at hfv hmv
 subst hfv hmv
 have hlt := HF.out.lt
 dsimp only at hlt
 have qp := (HF.out.bl _ (.head _)).cell; have lp1 := (HF.out.bl _ (.head _)).lt; have qm := (HF.out.bl _ (.tail _ (.head _))).cell; have lm1 := (HF.out.bl _ (.tail _ (.head _))).lt
 have qv := (HF.out.bl _ (.tail _ (.tail _ (.head _)))).cell; have fv := (HF.out.bl _ (.tail _ (.tail _ (.head _)))).free; have lv1 := (HF.out.bl _ (.tail _ (.tail _ (.head _)))).lt
 dsimp only at qp lp1 qm lm1 qv fv lv1
 have q0 := HF.out.q.blk.cell
 dsimp only at q0
 go_wp2_with fail
 refine bodyPost_ret (v := .agg #[.slice af lf cf, .slice am lm' cm, .int .i64 0]) (by simp [results, Tryz.results39, go_sem, qv, fv]) rfl ⟨_, _, rfl, ?_⟩
 exact HF.out.ends (b := w.heap.size + 1) (C := #[.slice none 0 0, .slice none 0 0, .int .i64 0]) (by simp) (by omega) _ _ _
set_option maxRecDepth 100000 in
set_option maxHeartbeats 4000000 in
theorem tell_tt_15 (sb : Value) (p : SPart) (nd : Int) (m : SMsg) (w : World) (hFd : ∀ W, Below w.heap.size w W → Calls Tryz.prog 121 #[sb, .int .i64 m.pt] W (Makes (.tuple #[oneV p nd m.pt, .bool true]) W)) (hft : fitsB p nd m = true) (hk : m.k = 15) :
   Calls Tryz.prog 39 #[sb, msgV m] w (ResEnds ⟨[], [ans m 16 p.seat.s], 0⟩ w) := by
 have HFd := Lib.hid hFd
 have hFt := fun W => fits_of p nd m.pt m W
 rw [hft] at hFt
 have HFt := Lib.hid hFt
 have HAn := Lib.hid (fun W => answer_of m 16 p.seat.s W)
 have HSe := Lib.hid (fun Q r W h hl => send_of Q r (ans m 16 p.seat.s) W h hl)
 obtain ⟨an, aq, rg, ⟨sp, sd, ss, sh⟩⟩ := p
 obtain ⟨mk, fr, to, man, maq, mrg, mpt, mpr, mco⟩ := m
 dsimp only [oneV, msgV, msgA, seatV, factV, factC, fPlace, fTurn, ans, ResEnds] at *
 subst hk
 clear hFd hFt hft
 go_enter Tryz.func39, Tryz.ntmps39
 go_wp2_with fail
 refine (HFd.out _ (by go_grown)).mono ?_
 rintro e w1 ⟨rfl, hb1⟩
 have B1 : Below w.heap.size w w1 := below_then (by go_grown) hb1
 have HM := Lib.hid (((Blk.fresh w #[.int .i64 15, .int .i64 fr, .int .i64 to, .int .i64 man, .int .i64 maq, .int .i64 mrg, .int .i64 mpt, .int .i64 mpr, .int .i64 mco] 81 _ rfl).alloc (.cells #[.slice none 0 0, .slice none 0 0, .int .i64 0] 87)).below hb1)
 have HV := Lib.hid ((Blk.fresh (w.alloc (.cells #[.int .i64 15, .int .i64 fr, .int .i64 to, .int .i64 man, .int .i64 maq, .int .i64 mrg, .int .i64 mpt, .int .i64 mpr, .int .i64 mco] 81)) #[.slice none 0 0, .slice none 0 0, .int .i64 0] 87 (w.heap.size + 1) (by simp)).below hb1)
 have lm := HM.out.lt
 have lv := HV.out.lt
 have qm := HM.out.cell
 go_wp2_with fail
 clear qm
 refine (HFt.out _).mono ?_
 rintro e w2 ⟨rfl, hb2⟩
 have lp : w1.heap.size < w2.heap.size := by have := hb2.size; simp only [World.size_alloc] at this; omega
 have B2 : Below w.heap.size w w2 := below_then B1 (below_then (by go_grown) hb2)
 have HF := Lib.hid (fr_start (bs := [(w1.heap.size, #[.int .i64 an, .int .i64 aq, .int .i64 rg, .int .i64 sp, .int .i64 sd, .int .i64 ss, .int .i64 sh, .int .i64 nd, .int .i64 mpt]), (w.heap.size, #[.int .i64 15, .int .i64 fr, .int .i64 to, .int .i64 man, .int .i64 maq, .int .i64 mrg, .int .i64 mpt, .int .i64 mpr, .int .i64 mco]), (w.heap.size + 1, #[.slice none 0 0, .slice none 0 0, .int .i64 0])]) (w := w) (W := w2) B2 (by
   intro y hy
   simp only [List.mem_cons, List.not_mem_nil, or_false] at hy
   rcases hy with rfl | rfl | rfl
   · exact (Blk.fresh w1 _ _ _ rfl).below hb2
   · exact (HM.out.alloc _).below hb2
   · exact (HV.out.alloc _).below hb2) (by simp; omega) 87)
 have HM2 := Lib.hid ((HM.out.alloc (.cells #[.int .i64 an, .int .i64 aq, .int .i64 rg, .int .i64 sp, .int .i64 sd, .int .i64 ss, .int .i64 sh, .int .i64 nd, .int .i64 mpt] 205)).below hb2)
 have HV2 := Lib.hid ((HV.out.alloc (.cells #[.int .i64 an, .int .i64 aq, .int .i64 rg, .int .i64 sp, .int .i64 sd, .int .i64 ss, .int .i64 sh, .int .i64 nd, .int .i64 mpt] 205)).below hb2)
 have HP2 := Lib.hid ((Blk.fresh w1 #[.int .i64 an, .int .i64 aq, .int .i64 rg, .int .i64 sp, .int .i64 sd, .int .i64 ss, .int .i64 sh, .int .i64 nd, .int .i64 mpt] 205 _ rfl).below hb2)
 have lm2 : w.heap.size + 1 < w2.heap.size := by omega
 have lm3 : w.heap.size < w2.heap.size := by omega
 clear hb2
 have qm := HM2.out.cell
 have qp := HP2.out.cell
 go_wp2_with fail
 clear qm qp
 clear hb1
 refine (HAn.out _).mono ?_
 rintro e w3 ⟨rfl, hb3⟩
 have HF := Lib.hid (HF.out.below hb3)
 clear hb3
 have hlt := HF.out.lt
 dsimp only at hlt
 have qp := (HF.out.bl _ (.head _)).cell; have lp1 := (HF.out.bl _ (.head _)).lt; have qm := (HF.out.bl _ (.tail _ (.head _))).cell; have lm1 := (HF.out.bl _ (.tail _ (.head _))).lt
 have qv := (HF.out.bl _ (.tail _ (.tail _ (.head _)))).cell; have fv := (HF.out.bl _ (.tail _ (.tail _ (.head _)))).free; have lv1 := (HF.out.bl _ (.tail _ (.tail _ (.head _)))).lt
 dsimp only at qp lp1 qm lm1 qv fv lv1
 go_wp2_with fail
 clear hlt qp qm lp1 lm1 qv fv lv1
 refine (HSe.out _ _ _ HF.out.q (by simp)).mono ?_
 rintro e w4 ⟨rfl, hs4⟩
 obtain ⟨fv4, mv4, hF4⟩ := HF.out.goes hs4
 have HF := Lib.hid hF4
 clear hs4 hF4
 obtain ⟨af, lf, cf, hfv⟩ := row_form3 HF.out.q.fs
 obtain ⟨am, lm', cm, hmv⟩ := row_form3 HF.out.q.ms
 dsimp only at hfv hmv
 subst hfv hmv
 have hlt := HF.out.lt
 dsimp only at hlt
 have qp := (HF.out.bl _ (.head _)).cell; have lp1 := (HF.out.bl _ (.head _)).lt; have qm := (HF.out.bl _ (.tail _ (.head _))).cell; have lm1 := (HF.out.bl _ (.tail _ (.head _))).lt
 have qv := (HF.out.bl _ (.tail _ (.tail _ (.head _)))).cell; have fv := (HF.out.bl _ (.tail _ (.tail _ (.head _)))).free; have lv1 := (HF.out.bl _ (.tail _ (.tail _ (.head _)))).lt
 dsimp only at qp lp1 qm lm1 qv fv lv1
 have q0 := HF.out.q.blk.cell
 dsimp only at q0
 go_wp2_with fail
 refine bodyPost_ret (v := .agg #[.slice af lf cf, .slice am lm' cm, .int .i64 0]) (by simp [results, Tryz.results39, go_sem, qv, fv]) rfl ⟨_, _, rfl, ?_⟩
 exact HF.out.ends (b := w.heap.size + 1) (C := #[.slice none 0 0, .slice none 0 0, .int .i64 0]) (by simp) (by omega) _ _ _
set_option maxRecDepth 100000 in
set_option maxHeartbeats 4000000 in
theorem tell_tt_no (sb : Value) (p : SPart) (nd : Int) (m : SMsg) (w : World) (hFd : ∀ W, Below w.heap.size w W → Calls Tryz.prog 121 #[sb, .int .i64 m.pt] W (Makes (.tuple #[oneV p nd m.pt, .bool true]) W)) (hft : fitsB p nd m = true) (h18 : m.k ≠ 18) (h19 : m.k ≠ 19) (h15 : m.k ≠ 15) (hd : isDown m.k = false) :
   Calls Tryz.prog 39 #[sb, msgV m] w (ResEnds ⟨[], [], 0⟩ w) := by
 have HFd := Lib.hid hFd
 have hFt := fun W => fits_of p nd m.pt m W
 rw [hft] at hFt
 have HFt := Lib.hid hFt
 have hDn := fun W => down_of m.k W
 rw [hd] at hDn
 have HDn := Lib.hid hDn
 clear hDn hd
 obtain ⟨an, aq, rg, ⟨sp, sd, ss, sh⟩⟩ := p
 obtain ⟨mk, fr, to, man, maq, mrg, mpt, mpr, mco⟩ := m
 dsimp only [oneV, msgV, msgA, seatV, factV, factC, fPlace, fTurn, ans, ResEnds] at *
 skip
 have e18 : (mk == 18) = false := by simpa using h18
 have e19 : (mk == 19) = false := by simpa using h19
 have e15 : (mk == 15) = false := by simpa using h15
 clear h18 h19 h15
 clear hFd hFt hft
 go_enter Tryz.func39, Tryz.ntmps39
 go_wp2_with fail
 refine (HFd.out _ (by go_grown)).mono ?_
 rintro e w1 ⟨rfl, hb1⟩
 have B1 : Below w.heap.size w w1 := below_then (by go_grown) hb1
 have HM := Lib.hid (((Blk.fresh w #[.int .i64 mk, .int .i64 fr, .int .i64 to, .int .i64 man, .int .i64 maq, .int .i64 mrg, .int .i64 mpt, .int .i64 mpr, .int .i64 mco] 81 _ rfl).alloc (.cells #[.slice none 0 0, .slice none 0 0, .int .i64 0] 87)).below hb1)
 have HV := Lib.hid ((Blk.fresh (w.alloc (.cells #[.int .i64 mk, .int .i64 fr, .int .i64 to, .int .i64 man, .int .i64 maq, .int .i64 mrg, .int .i64 mpt, .int .i64 mpr, .int .i64 mco] 81)) #[.slice none 0 0, .slice none 0 0, .int .i64 0] 87 (w.heap.size + 1) (by simp)).below hb1)
 have lm := HM.out.lt
 have lv := HV.out.lt
 have qm := HM.out.cell
 go_wp2_with fail
 clear qm
 refine (HFt.out _).mono ?_
 rintro e w2 ⟨rfl, hb2⟩
 have lp : w1.heap.size < w2.heap.size := by have := hb2.size; simp only [World.size_alloc] at this; omega
 have B2 : Below w.heap.size w w2 := below_then B1 (below_then (by go_grown) hb2)
 have HF := Lib.hid (fr_start (bs := [(w1.heap.size, #[.int .i64 an, .int .i64 aq, .int .i64 rg, .int .i64 sp, .int .i64 sd, .int .i64 ss, .int .i64 sh, .int .i64 nd, .int .i64 mpt]), (w.heap.size, #[.int .i64 mk, .int .i64 fr, .int .i64 to, .int .i64 man, .int .i64 maq, .int .i64 mrg, .int .i64 mpt, .int .i64 mpr, .int .i64 mco]), (w.heap.size + 1, #[.slice none 0 0, .slice none 0 0, .int .i64 0])]) (w := w) (W := w2) B2 (by
   intro y hy
   simp only [List.mem_cons, List.not_mem_nil, or_false] at hy
   rcases hy with rfl | rfl | rfl
   · exact (Blk.fresh w1 _ _ _ rfl).below hb2
   · exact (HM.out.alloc _).below hb2
   · exact (HV.out.alloc _).below hb2) (by simp; omega) 87)
 have HM2 := Lib.hid ((HM.out.alloc (.cells #[.int .i64 an, .int .i64 aq, .int .i64 rg, .int .i64 sp, .int .i64 sd, .int .i64 ss, .int .i64 sh, .int .i64 nd, .int .i64 mpt] 205)).below hb2)
 have HV2 := Lib.hid ((HV.out.alloc (.cells #[.int .i64 an, .int .i64 aq, .int .i64 rg, .int .i64 sp, .int .i64 sd, .int .i64 ss, .int .i64 sh, .int .i64 nd, .int .i64 mpt] 205)).below hb2)
 have HP2 := Lib.hid ((Blk.fresh w1 #[.int .i64 an, .int .i64 aq, .int .i64 rg, .int .i64 sp, .int .i64 sd, .int .i64 ss, .int .i64 sh, .int .i64 nd, .int .i64 mpt] 205 _ rfl).below hb2)
 have lm2 : w.heap.size + 1 < w2.heap.size := by omega
 have lm3 : w.heap.size < w2.heap.size := by omega
 clear hb2
 have qm := HM2.out.cell
 have qp := HP2.out.cell
 go_wp2_with fail
 clear qm qp
 clear hb1
 refine (HDn.out _).mono ?_
 rintro e w3 ⟨rfl, rfl⟩
 have qm := HM2.out.cell; have qv := HV2.out.cell; have fv := HV2.out.free
 have qp := HP2.out.cell
 go_wp2_with fail
 clear qm qv fv qp
 refine (HDn.out _).mono ?_
 rintro e w4 ⟨rfl, rfl⟩
 have qm := HM2.out.cell; have qv := HV2.out.cell; have fv := HV2.out.free
 have qp := HP2.out.cell
 go_wp2_with fail
 have lvx : w.heap.size + 1 < w2.heap.size + 1 := by omega
 refine bodyPost_ret (v := .agg #[.slice none 0 0, .slice none 0 0, .int .i64 0]) (by simp [results, Tryz.results39, go_sem, qv, fv, lm2, Nat.ne_of_lt lm2, lvx, Nat.ne_of_lt lvx]) rfl ⟨_, _, rfl, World.ownsRow_nil _ _ _ _, World.ownsRow_nil _ _ _ _, by go_grown⟩
set_option maxRecDepth 100000 in
set_option maxHeartbeats 4000000 in
theorem tell_tt_dn (sb : Value) (p : SPart) (nd : Int) (m : SMsg) (w : World) (hFd : ∀ W, Below w.heap.size w W → Calls Tryz.prog 121 #[sb, .int .i64 m.pt] W (Makes (.tuple #[oneV p nd m.pt, .bool true]) W)) (hft : fitsB p nd m = true) (r : SRes) (h18 : m.k ≠ 18) (h19 : m.k ≠ 19) (h15 : m.k ≠ 15) (hd : isDown m.k = true) (hD : ∀ W, Below w.heap.size w W → Calls Tryz.prog 131 #[oneV p nd m.pt, msgV m] W (ResEnds r W)) :
   Calls Tryz.prog 39 #[sb, msgV m] w (ResEnds r w) := by
 have HFd := Lib.hid hFd
 have hFt := fun W => fits_of p nd m.pt m W
 rw [hft] at hFt
 have HFt := Lib.hid hFt
 have HDo := Lib.hid hD
 have hDn := fun W => down_of m.k W
 rw [hd] at hDn
 have HDn := Lib.hid hDn
 clear hDn hd
 obtain ⟨an, aq, rg, ⟨sp, sd, ss, sh⟩⟩ := p
 obtain ⟨mk, fr, to, man, maq, mrg, mpt, mpr, mco⟩ := m
 dsimp only [oneV, msgV, msgA, seatV, factV, factC, fPlace, fTurn, ans, ResEnds] at *
 skip
 clear hD
 have e18 : (mk == 18) = false := by simpa using h18
 have e19 : (mk == 19) = false := by simpa using h19
 have e15 : (mk == 15) = false := by simpa using h15
 clear h18 h19 h15
 clear hFd hFt hft
 go_enter Tryz.func39, Tryz.ntmps39
 go_wp2_with fail
 refine (HFd.out _ (by go_grown)).mono ?_
 rintro e w1 ⟨rfl, hb1⟩
 have B1 : Below w.heap.size w w1 := below_then (by go_grown) hb1
 have HM := Lib.hid (((Blk.fresh w #[.int .i64 mk, .int .i64 fr, .int .i64 to, .int .i64 man, .int .i64 maq, .int .i64 mrg, .int .i64 mpt, .int .i64 mpr, .int .i64 mco] 81 _ rfl).alloc (.cells #[.slice none 0 0, .slice none 0 0, .int .i64 0] 87)).below hb1)
 have HV := Lib.hid ((Blk.fresh (w.alloc (.cells #[.int .i64 mk, .int .i64 fr, .int .i64 to, .int .i64 man, .int .i64 maq, .int .i64 mrg, .int .i64 mpt, .int .i64 mpr, .int .i64 mco] 81)) #[.slice none 0 0, .slice none 0 0, .int .i64 0] 87 (w.heap.size + 1) (by simp)).below hb1)
 have lm := HM.out.lt
 have lv := HV.out.lt
 have qm := HM.out.cell
 go_wp2_with fail
 clear qm
 refine (HFt.out _).mono ?_
 rintro e w2 ⟨rfl, hb2⟩
 have lp : w1.heap.size < w2.heap.size := by have := hb2.size; simp only [World.size_alloc] at this; omega
 have B2 : Below w.heap.size w w2 := below_then B1 (below_then (by go_grown) hb2)
 have HF := Lib.hid (fr_start (bs := [(w1.heap.size, #[.int .i64 an, .int .i64 aq, .int .i64 rg, .int .i64 sp, .int .i64 sd, .int .i64 ss, .int .i64 sh, .int .i64 nd, .int .i64 mpt]), (w.heap.size, #[.int .i64 mk, .int .i64 fr, .int .i64 to, .int .i64 man, .int .i64 maq, .int .i64 mrg, .int .i64 mpt, .int .i64 mpr, .int .i64 mco]), (w.heap.size + 1, #[.slice none 0 0, .slice none 0 0, .int .i64 0])]) (w := w) (W := w2) B2 (by
   intro y hy
   simp only [List.mem_cons, List.not_mem_nil, or_false] at hy
   rcases hy with rfl | rfl | rfl
   · exact (Blk.fresh w1 _ _ _ rfl).below hb2
   · exact (HM.out.alloc _).below hb2
   · exact (HV.out.alloc _).below hb2) (by simp; omega) 87)
 have HM2 := Lib.hid ((HM.out.alloc (.cells #[.int .i64 an, .int .i64 aq, .int .i64 rg, .int .i64 sp, .int .i64 sd, .int .i64 ss, .int .i64 sh, .int .i64 nd, .int .i64 mpt] 205)).below hb2)
 have HV2 := Lib.hid ((HV.out.alloc (.cells #[.int .i64 an, .int .i64 aq, .int .i64 rg, .int .i64 sp, .int .i64 sd, .int .i64 ss, .int .i64 sh, .int .i64 nd, .int .i64 mpt] 205)).below hb2)
 have HP2 := Lib.hid ((Blk.fresh w1 #[.int .i64 an, .int .i64 aq, .int .i64 rg, .int .i64 sp, .int .i64 sd, .int .i64 ss, .int .i64 sh, .int .i64 nd, .int .i64 mpt] 205 _ rfl).below hb2)
 have lm2 : w.heap.size + 1 < w2.heap.size := by omega
 have lm3 : w.heap.size < w2.heap.size := by omega
 clear hb2
 have qm := HM2.out.cell
 have qp := HP2.out.cell
 go_wp2_with fail
 clear qm qp
 clear hb1
 refine (HDn.out _).mono ?_
 rintro e w3 ⟨rfl, rfl⟩
 have qm := HM2.out.cell; have qv := HV2.out.cell; have fv := HV2.out.free
 have qp := HP2.out.cell
 go_wp2_with fail
 clear qm qv fv qp
 refine (HDn.out _).mono ?_
 rintro e w4 ⟨rfl, rfl⟩
 have qm := HM2.out.cell; have qv := HV2.out.cell; have fv := HV2.out.free
 have qp := HP2.out.cell
 go_wp2_with fail
 clear qm qv fv qp
 refine (HDo.out _ HF.out.be).mono ?_
 rintro e w5 ⟨fvR, mvR, rfl, ho1, ho2, hbR⟩
 have HE := Lib.hid (ends_call (b := w.heap.size + 1) HF.out.be ho1 ho2 hbR (by omega) (HF.out.bl _ (.tail _ (.tail _ (.head _)))).lt)
 have qv := ((HF.out.bl _ (.tail _ (.tail _ (.head _)))).below hbR).cell; have fv := ((HF.out.bl _ (.tail _ (.tail _ (.head _)))).below hbR).free
 have lv2 := ((HF.out.bl _ (.tail _ (.tail _ (.head _)))).below hbR).lt
 dsimp only at qv fv lv2
 obtain ⟨af, lf, cf, hfv⟩ := row_form3 ho1
 obtain ⟨am, lm', cm, hmv⟩ := row_form3 ho2
 subst hfv hmv
 clear ho1 ho2 hbR
 go_wp2_with fail
 refine bodyPost_ret (v := .agg #[.slice af lf cf, .slice am lm' cm, .int .i64 r.wk]) (by simp [results, Tryz.results39, go_sem, qv, fv]) rfl ⟨_, _, rfl, ?_⟩
 exact HE.out _ _ _
end Go.Proofs.YtlkajejbfojkeaaGreatDoor

namespace Go.Proofs.YtlkajejbfojkeaaGreatDoor
open Go.RowKit Go.Shelf
attribute [local go_sem] store_float

def sameF (p f : SFact) : Bool := decide (fplain p.ex = fplain f.ex) && (p.k == f.k && (p.an == f.an && (p.aq == f.aq && (p.rg == f.rg && (p.nd == f.nd && (p.pt == f.pt && (p.pr == f.pr && (p.oc == f.oc && (p.dp == f.dp && (p.pa == f.pa && (p.st == f.st && (p.hw == f.hw && (p.de == f.de)))))))))))))
set_option maxRecDepth 100000 in
set_option maxHeartbeats 4000000 in
theorem factRight_go (f p : SFact) (bk : Bool) (hx : F64 f.ex) (hp : F64 p.ex) (ea : Int → Addr) (w : World) (h : EnvS ea w) (hP : ∀ W, EnvS ea W → Calls Tryz.prog 187 #[factV f] W (Makes (.tuple #[factV p, .bool bk]) W)) :
   Calls Tryz.prog 83 #[factV f] w (Makes (.bool (bk && sameF p f && (forder p.ex f.ex == 0))) w) := by
 have hS : ∀ W, Calls Tryz.prog 188 #[factV p, factV f] W (Makes (.bool (sameF p f)) W) := fun W => factsSame_of _ _ _ _ _ _ _ _ _ _ _ _ _ _ _ _ _ _ _ _ _ _ _ _ _ _ p.ex f.ex hp hx W
 have hO := fun W => forder_of p.ex f.ex hp hx W
 generalize sameF p f = bs at *
 generalize forder p.ex f.ex = o at *
 obtain ⟨k, an, aq, rg, nd, pt, pr, oc, dp, pa, st, hw, de, ex⟩ := f
 obtain ⟨k', an', aq', rg', nd', pt', pr', oc', dp', pa', st', hw', de', ex'⟩ := p
 dsimp only [factV, factC] at *
 have HK := Lib.hid (Blk.fresh w #[.int .i64 k, .int .i64 an, .int .i64 aq, .int .i64 rg, .int .i64 nd, .int .i64 pt, .int .i64 pr, .int .i64 oc, .int .i64 dp, .int .i64 pa, .int .i64 st, .int .i64 hw, .int .i64 de, .float .f64 ex] 39 _ rfl)
 have HB := Lib.hid ((Below.refl w.heap.size w).alloc (Nat.le_refl _) (.cells #[.int .i64 k, .int .i64 an, .int .i64 aq, .int .i64 rg, .int .i64 nd, .int .i64 pt, .int .i64 pr, .int .i64 oc, .int .i64 dp, .int .i64 pa, .int .i64 st, .int .i64 hw, .int .i64 de, .float .f64 ex] 39))
 have HP := Lib.hid (hP _ (h.below HB.out)); have HS := Lib.hid hS; have HO := Lib.hid hO
 clear h hP hS hO hx hp
 go_enter Tryz.func83, Tryz.ntmps83
 go_wp2_with fail
 refine HP.out.mono ?_
 rintro e w1 ⟨rfl, hb1⟩
 have HB1 := Lib.hid (below_then HB.out hb1)
 have HK1 := Lib.hid (HK.out.below hb1)
 have HK2 := Lib.hid (HK1.out.alloc (.cells #[.int .i64 k', .int .i64 an', .int .i64 aq', .int .i64 rg', .int .i64 nd', .int .i64 pt', .int .i64 pr', .int .i64 oc', .int .i64 dp', .int .i64 pa', .int .i64 st', .int .i64 hw', .int .i64 de', .float .f64 ex'] 39))
 have HC2 := Lib.hid (Blk.fresh w1 #[.int .i64 k', .int .i64 an', .int .i64 aq', .int .i64 rg', .int .i64 nd', .int .i64 pt', .int .i64 pr', .int .i64 oc', .int .i64 dp', .int .i64 pa', .int .i64 st', .int .i64 hw', .int .i64 de', .float .f64 ex'] 39 _ rfl)
 have HB2 := Lib.hid (HB1.out.alloc HB1.out.size (.cells #[.int .i64 k', .int .i64 an', .int .i64 aq', .int .i64 rg', .int .i64 nd', .int .i64 pt', .int .i64 pr', .int .i64 oc', .int .i64 dp', .int .i64 pa', .int .i64 st', .int .i64 hw', .int .i64 de', .float .f64 ex'] 39))
 clear hb1
 cases bk with
 | false =>
   go_wp2_with fail
   go_ret
   exact ⟨ret_bool (by simp), HB2.out⟩
 | true =>
   obtain ⟨q, f⟩ := HK2.out.out; obtain ⟨q1, f1⟩ := HC2.out.out
   go_wp2_with fail
   refine (HS.out _).mono ?_
   rintro e w2 ⟨rfl, hb2⟩
   have HB3 := Lib.hid (below_then HB2.out hb2)
   clear q f q1 f1
   obtain ⟨q, f⟩ := (HK2.out.below hb2).out; obtain ⟨q1, f1⟩ := (HC2.out.below hb2).out
   clear hb2
   cases bs with
   | false =>
     go_wp2_with fail
     go_ret
     exact ⟨ret_bool (by simp), HB3.out⟩
   | true =>
     go_wp2_with fail
     refine (HO.out _).mono ?_
     rintro e w3 ⟨rfl, rfl⟩
     go_wp2_with fail
     go_ret
     exact ⟨ret_bool (by simp), HB3.out⟩
end Go.Proofs.YtlkajejbfojkeaaGreatDoor

namespace Go.Proofs.YtlkajejbfojkeaaGreatDoor
open Go.RowKit Go.Shelf

theorem forder_zero (x : Nat) : (forder 0 x == 0) = decide (x = 0) := by
 have h0 : fplace 0 = 0 := by decide +kernel
 unfold forder
 rw [h0]
 unfold fplace
 by_cases hn : fnan x = true
 · rw [if_pos hn]
   have hx : x ≠ 0 := by rintro rfl; revert hn; decide +kernel
   simp [hx]
 · rw [if_neg hn]
   by_cases hl : x < 9223372036854775808
   · rw [if_pos hl]
     by_cases hx : x = 0
     · subst hx; simp
     · have : ¬ ((x : Int) < 0) := by omega
       have h2 : (0 : Int) < (x : Int) := by omega
       rw [if_pos h2]; simp [hx]
   · rw [if_neg hl]
     have hx : x ≠ 0 := by omega
     have h1 : ¬ ((0 : Int) < -1 - ((x : Int) - 9223372036854775808)) := by omega
     have h2 : -1 - ((x : Int) - 9223372036854775808) < 0 := by omega
     rw [if_neg h1, if_pos h2]; simp [hx]
theorem forder_refl (x : Nat) : (forder x x == 0) = true := by simp [forder]
theorem fpl_same (f : SFact) : (fpk f && sameF (fpl f) f && (forder (fpl f).ex f.ex == 0)) = fok f := by
 obtain ⟨k, an, aq, rg, nd, pt, pr, oc, dp, pa, st, hw, de, ex⟩ := f
 by_cases h1 : k = 1
 · subst h1
   simp only [fpk, fpl, sameF, fok, if_true, forder_refl, Bool.and_true]
   rw [Bool.eq_iff_iff]
   simp
   omega
 have hz := forder_zero ex
 by_cases h2 : k = 2
 · subst h2
   by_cases hex : ex = 0
   · subst hex
     simp only [fpk, fpl, sameF, fok, if_true, forder_refl, Bool.and_true, show ¬ ((2 : Int) = 1) by decide, if_false]
     generalize idOk an aq = b1
     generalize stOk st hw = b2
     rw [Bool.eq_iff_iff]
     cases b1 <;> cases b2 <;> simp <;> omega
   · have hd : decide (ex = 0) = false := decide_eq_false hex
     rw [hd] at hz
     simp only [fpk, fpl, sameF, fok, if_true, Bool.and_true, show ¬ ((2 : Int) = 1) by decide, if_false, hz, Bool.and_false]
     simp [hex]
 by_cases h3 : k = 3
 · subst h3
   by_cases hex : ex = 0
   · subst hex
     simp only [fpk, fpl, sameF, fok, if_true, forder_refl, Bool.and_true, show ¬ ((3 : Int) = 1) by decide, if_false, show ¬ ((3 : Int) = 2) by decide]
     generalize idOk an aq = b1
     generalize stOk st hw = b2
     rw [Bool.eq_iff_iff]
     cases b1 <;> cases b2 <;> simp <;> omega
   · have hd : decide (ex = 0) = false := decide_eq_false hex
     rw [hd] at hz
     simp only [fpk, fpl, sameF, fok, if_true, Bool.and_true, show ¬ ((3 : Int) = 1) by decide, if_false, show ¬ ((3 : Int) = 2) by decide, hz, Bool.and_false]
     simp [hex]
 by_cases h4 : k = 4
 · subst h4
   by_cases hex : ex = 0
   · subst hex
     simp only [fpk, fpl, sameF, fok, if_true, forder_refl, Bool.and_true, show ¬ ((4 : Int) = 1) by decide, if_false, show ¬ ((4 : Int) = 2) by decide, show ¬ ((4 : Int) = 3) by decide]
     generalize idOk an aq = b1
     generalize stOk st hw = b2
     rw [Bool.eq_iff_iff]
     cases b1 <;> cases b2 <;> simp <;> omega
   · have hd : decide (ex = 0) = false := decide_eq_false hex
     rw [hd] at hz
     simp only [fpk, fpl, sameF, fok, if_true, Bool.and_true, show ¬ ((4 : Int) = 1) by decide, if_false, show ¬ ((4 : Int) = 2) by decide, show ¬ ((4 : Int) = 3) by decide, hz, Bool.and_false]
     simp [hex]
 by_cases h5 : k = 5
 · subst h5
   by_cases hex : ex = 0
   · subst hex
     simp only [fpk, fpl, sameF, fok, if_true, forder_refl, Bool.and_true, show ¬ ((5 : Int) = 1) by decide, if_false, show ¬ ((5 : Int) = 2) by decide, show ¬ ((5 : Int) = 3) by decide, show ¬ ((5 : Int) = 4) by decide]
     generalize idOk an aq = b1
     generalize stOk st hw = b2
     rw [Bool.eq_iff_iff]
     cases b1 <;> cases b2 <;> simp <;> omega
   · have hd : decide (ex = 0) = false := decide_eq_false hex
     rw [hd] at hz
     simp only [fpk, fpl, sameF, fok, if_true, Bool.and_true, show ¬ ((5 : Int) = 1) by decide, if_false, show ¬ ((5 : Int) = 2) by decide, show ¬ ((5 : Int) = 3) by decide, show ¬ ((5 : Int) = 4) by decide, hz, Bool.and_false]
     simp [hex]
 by_cases h6 : k = 6
 · subst h6
   by_cases hex : ex = 0
   · subst hex
     simp only [fpk, fpl, sameF, fok, if_true, forder_refl, Bool.and_true, show ¬ ((6 : Int) = 1) by decide, if_false, show ¬ ((6 : Int) = 2) by decide, show ¬ ((6 : Int) = 3) by decide, show ¬ ((6 : Int) = 4) by decide, show ¬ ((6 : Int) = 5) by decide]
     generalize idOk an aq = b1
     generalize stOk st hw = b2
     rw [Bool.eq_iff_iff]
     cases b1 <;> cases b2 <;> simp <;> omega
   · have hd : decide (ex = 0) = false := decide_eq_false hex
     rw [hd] at hz
     simp only [fpk, fpl, sameF, fok, if_true, Bool.and_true, show ¬ ((6 : Int) = 1) by decide, if_false, show ¬ ((6 : Int) = 2) by decide, show ¬ ((6 : Int) = 3) by decide, show ¬ ((6 : Int) = 4) by decide, show ¬ ((6 : Int) = 5) by decide, hz, Bool.and_false]
     simp [hex]
 by_cases h7 : k = 7
 · subst h7
   by_cases hex : ex = 0
   · subst hex
     simp only [fpk, fpl, sameF, fok, if_true, forder_refl, Bool.and_true, show ¬ ((7 : Int) = 1) by decide, if_false, show ¬ ((7 : Int) = 2) by decide, show ¬ ((7 : Int) = 3) by decide, show ¬ ((7 : Int) = 4) by decide, show ¬ ((7 : Int) = 5) by decide, show ¬ ((7 : Int) = 6) by decide]
     generalize idOk an aq = b1
     generalize stOk st hw = b2
     rw [Bool.eq_iff_iff]
     cases b1 <;> cases b2 <;> simp <;> omega
   · have hd : decide (ex = 0) = false := decide_eq_false hex
     rw [hd] at hz
     simp only [fpk, fpl, sameF, fok, if_true, Bool.and_true, show ¬ ((7 : Int) = 1) by decide, if_false, show ¬ ((7 : Int) = 2) by decide, show ¬ ((7 : Int) = 3) by decide, show ¬ ((7 : Int) = 4) by decide, show ¬ ((7 : Int) = 5) by decide, show ¬ ((7 : Int) = 6) by decide, hz, Bool.and_false]
     simp [hex]
 by_cases h8 : k = 8
 · subst h8
   by_cases hex : ex = 0
   · subst hex
     simp only [fpk, fpl, sameF, fok, if_true, forder_refl, Bool.and_true, show ¬ ((8 : Int) = 1) by decide, if_false, show ¬ ((8 : Int) = 2) by decide, show ¬ ((8 : Int) = 3) by decide, show ¬ ((8 : Int) = 4) by decide, show ¬ ((8 : Int) = 5) by decide, show ¬ ((8 : Int) = 6) by decide, show ¬ ((8 : Int) = 7) by decide]
     generalize idOk an aq = b1
     generalize stOk st hw = b2
     rw [Bool.eq_iff_iff]
     cases b1 <;> cases b2 <;> simp <;> omega
   · have hd : decide (ex = 0) = false := decide_eq_false hex
     rw [hd] at hz
     simp only [fpk, fpl, sameF, fok, if_true, Bool.and_true, show ¬ ((8 : Int) = 1) by decide, if_false, show ¬ ((8 : Int) = 2) by decide, show ¬ ((8 : Int) = 3) by decide, show ¬ ((8 : Int) = 4) by decide, show ¬ ((8 : Int) = 5) by decide, show ¬ ((8 : Int) = 6) by decide, show ¬ ((8 : Int) = 7) by decide, hz, Bool.and_false]
     simp [hex]
 by_cases hex : ex = 0
 all_goals simp [fpk, fok, h1, h2, h3, h4, h5, h6, h7, h8]
theorem factRight_of (f : SFact) (hx : F64 f.ex) (ea : Int → Addr) (w : World) (h : EnvS ea w) : Calls Tryz.prog 83 #[factV f] w (Makes (.bool (fok f)) w) := by
 have hp : F64 (fpl f).ex := by
   unfold fpl
   repeat' split
   all_goals first | exact hx | exact f64_zero
 rw [← fpl_same f]
 exact factRight_go f (fpl f) (fpk f) hx hp ea w h (fun W hW => plainF_of f hx ea W hW)
end Go.Proofs.YtlkajejbfojkeaaGreatDoor
