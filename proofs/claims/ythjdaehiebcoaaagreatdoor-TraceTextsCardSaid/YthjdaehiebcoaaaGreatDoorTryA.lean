/- catch.Try over the closures that give a text or a number: ids.Node, trace.Line, ids.ToNode. -/
import Derived.Test.YthjdaehiebcoaaaGreatDoorRows
import Derived.WalkKit
import Derived.WalkSpells
import Derived.WalkLawsBesides
import Derived.BigQuiet
import Derived.Deep.QuietTactic
import Derived.StillTailTactics
import Derived.Handy
import Derived.Lib.Hide
import Derived.Test.YthjdaehiebcoaaaGreatDoorToldB
import Derived.Recover
import Derived.Defers
set_option linter.unusedSimpArgs false
set_option linter.unusedVariables false
namespace Go.Proofs.YthjdaehiebcoaaaGreatDoor
open Go.RowKit

theorem catch_idle_s (d x e : Addr) (w : World) (hd : w.cell? d = some (.bool true)) :
    CallsD Tryz.prog 65 #[.pointer (some d), .pointer (some x), .pointer (some e)] .returning w fun en u' w' => en = .returned (.tuple #[]) ∧ u' = .returning ∧ w' = w := by
  refine callsD_of_wpS Tryz.func65 rfl fun c₀ cs hu => ?_
  apply wpS_seq
  apply wpS_region
  simp [wpOpsS, go_sem, recoverD, hu, Tryz.ntmps65, Exit.thenS]
  apply wpS_seq
  apply wpS_region
  simp [wpOpsS, go_sem, hd, Exit.thenS]
  refine wpS_cond (t := false) (by simp [Act.eval, Array.replicate]) ?_
  simp only [Bool.false_eq_true, if_false]
  refine wpS_of_wp (wp_skip ?_)
  cases c₀
  simp_all [bodyPostS, results, Tryz.results65]
set_option maxHeartbeats 1000000 in
theorem catch_took_s (D X E : Nat) (v0 : Value) (n : Int) (hn : 1 ≤ n ∧ n ≤ 14) (ea : Int → Addr) (older : List PanicEntry) (w : World) (hd : Blk w D #[.bool false]) (hx : Blk w X #[v0]) (hz : Blk w E #[.nilIface]) (hne : X ≠ E) (he : Errs ea w) :
    CallsD Tryz.prog 65 #[.pointer (some ⟨D, 0, none⟩), .pointer (some ⟨X, 0, none⟩), .pointer (some ⟨E, 0, none⟩)] (.panicking ({ v := errV (ea n), recovered := false } :: older)) w fun en u' w' =>
      en = .returned (.tuple #[]) ∧ u' = .panicking ({ v := errV (ea n), recovered := true } :: older) ∧ ∃ w1, Below w.heap.size w w1 ∧ w' = (w1.setCell ⟨X, 0, none⟩ (.string ⟨#[]⟩)).setCell ⟨E, 0, none⟩ (errV (ea n)) := by
  have HT := Lib.hid (fun W hW => told_of n hn ea W hW)
  have HE := Lib.hid he
  have hd0 : w.cell? ⟨D, 0, none⟩ = some (.bool false) := hd.cell 0
  have HX := Lib.hid hx; have HZ := Lib.hid hz
  have hne2 : E ≠ X := fun e => hne e.symm
  clear he hd hx hz hn
  refine callsD_of_wpS Tryz.func65 rfl fun c₀ cs hu => ?_
  apply wpS_seq
  apply wpS_region
  simp [wpOpsS, go_sem, recoverD, hu, Tryz.ntmps65, Exit.thenS]
  apply wpS_seq
  apply wpS_region
  simp [wpOpsS, go_sem, hd0, Exit.thenS]
  refine wpS_cond (t := true) (by simp [Act.eval, Array.replicate]) ?_
  simp only [if_true]
  refine wpS_of_wp ?_
  go_wp2_with (go_at_call 50; refine (HT.out _ HE.out).mono ?_; rintro e w1 ⟨rfl, hb1⟩; have HX1 := HX.out.below hb1; have HZ1 := HZ.out.below hb1; have x0 : w1.cell? ⟨X, 0, none⟩ = some v0 := HX1.cell 0; have x1 := HX1.free 0; have z0 : w1.cell? ⟨E, 0, none⟩ = some .nilIface := HZ1.cell 0; have z1 := HZ1.free 0; clear HX1 HZ1)
  simp [bodyPostS, results, Tryz.results65]
  exact ⟨w1, hb1, rfl⟩
theorem catch_idle_i (d x e : Addr) (w : World) (hd : w.cell? d = some (.bool true)) :
    CallsD Tryz.prog 78 #[.pointer (some d), .pointer (some x), .pointer (some e)] .returning w fun en u' w' => en = .returned (.tuple #[]) ∧ u' = .returning ∧ w' = w := by
  refine callsD_of_wpS Tryz.func78 rfl fun c₀ cs hu => ?_
  apply wpS_seq
  apply wpS_region
  simp [wpOpsS, go_sem, recoverD, hu, Tryz.ntmps78, Exit.thenS]
  apply wpS_seq
  apply wpS_region
  simp [wpOpsS, go_sem, hd, Exit.thenS]
  refine wpS_cond (t := false) (by simp [Act.eval, Array.replicate]) ?_
  simp only [Bool.false_eq_true, if_false]
  refine wpS_of_wp (wp_skip ?_)
  cases c₀
  simp_all [bodyPostS, results, Tryz.results78]
set_option maxHeartbeats 1000000 in
theorem catch_took_i (D X E : Nat) (v0 : Value) (n : Int) (hn : 1 ≤ n ∧ n ≤ 14) (ea : Int → Addr) (older : List PanicEntry) (w : World) (hd : Blk w D #[.bool false]) (hx : Blk w X #[v0]) (hz : Blk w E #[.nilIface]) (hne : X ≠ E) (he : Errs ea w) :
    CallsD Tryz.prog 78 #[.pointer (some ⟨D, 0, none⟩), .pointer (some ⟨X, 0, none⟩), .pointer (some ⟨E, 0, none⟩)] (.panicking ({ v := errV (ea n), recovered := false } :: older)) w fun en u' w' =>
      en = .returned (.tuple #[]) ∧ u' = .panicking ({ v := errV (ea n), recovered := true } :: older) ∧ ∃ w1, Below w.heap.size w w1 ∧ w' = (w1.setCell ⟨X, 0, none⟩ (.int .i64 0)).setCell ⟨E, 0, none⟩ (errV (ea n)) := by
  have HT := Lib.hid (fun W hW => told_of n hn ea W hW)
  have HE := Lib.hid he
  have hd0 : w.cell? ⟨D, 0, none⟩ = some (.bool false) := hd.cell 0
  have HX := Lib.hid hx; have HZ := Lib.hid hz
  have hne2 : E ≠ X := fun e => hne e.symm
  clear he hd hx hz hn
  refine callsD_of_wpS Tryz.func78 rfl fun c₀ cs hu => ?_
  apply wpS_seq
  apply wpS_region
  simp [wpOpsS, go_sem, recoverD, hu, Tryz.ntmps78, Exit.thenS]
  apply wpS_seq
  apply wpS_region
  simp [wpOpsS, go_sem, hd0, Exit.thenS]
  refine wpS_cond (t := true) (by simp [Act.eval, Array.replicate]) ?_
  simp only [if_true]
  refine wpS_of_wp ?_
  go_wp2_with (go_at_call 50; refine (HT.out _ HE.out).mono ?_; rintro e w1 ⟨rfl, hb1⟩; have HX1 := HX.out.below hb1; have HZ1 := HZ.out.below hb1; have x0 : w1.cell? ⟨X, 0, none⟩ = some v0 := HX1.cell 0; have x1 := HX1.free 0; have z0 : w1.cell? ⟨E, 0, none⟩ = some .nilIface := HZ1.cell 0; have z1 := HZ1.free 0; clear HX1 HZ1)
  simp [bodyPostS, results, Tryz.results78]
  exact ⟨w1, hb1, rfl⟩
set_option maxHeartbeats 1000000 in
theorem try_gives_node (p : Addr) (s : ByteArray) (w : World) (h : ∀ W, Below w.heap.size w W → Calls Tryz.prog 84 #[.pointer (some p)] W (Makes (.string s) W)) :
    Calls Tryz.prog 36 #[.func (.func 84) #[] #[.pointer (some p)]] w (Makes (.tuple #[.string s, .nilIface]) w) := by
  have hmf : ∀ (fn : Fn) (first cap : Array Value) (w : World), (Instr.makeFunc fn first cap).run Tryz.prog w = .ok (.func fn first cap) w := fun _ _ _ _ => rfl
  have H := Lib.hid h
  clear h
  go_enter_defers Tryz.func36, Tryz.ntmps36
  go_wp2_with fail
  refine (H.out _ (by go_grown)).mono ?_
  rintro e w1 ⟨rfl, hb1⟩
  have HX := (((Blk.fresh w #[.string ⟨#[]⟩] 9 _ rfl).below (by go_grown)).below hb1 : Blk w1 w.heap.size _)
  have HE := (((Blk.fresh (w.alloc (.cells #[.string ⟨#[]⟩] 9)) #[.nilIface] 26 (w.heap.size + 1) (by simp)).below (by go_grown)).below hb1 : Blk w1 (w.heap.size + 1) _)
  have HD := ((Blk.fresh ((w.alloc (.cells #[.string ⟨#[]⟩] 9)).alloc (.cells #[.nilIface] 26)) #[.bool false] 4 (w.heap.size + 1 + 1) (by simp)).below hb1 : Blk w1 (w.heap.size + 1 + 1) _)
  have x0 : w1.cell? ⟨w.heap.size, 0, none⟩ = some (.string ⟨#[]⟩) := HX.cell 0
  have x1 := HX.free 0
  have e0 : w1.cell? ⟨w.heap.size + 1, 0, none⟩ = some .nilIface := HE.cell 0
  have e1 := HE.free 0
  have d0 : w1.cell? ⟨w.heap.size + 1 + 1, 0, none⟩ = some (.bool false) := HD.cell 0
  have d1 := HD.free 0
  clear HX HE HD
  have HB : Below w.heap.size w w1 := below_then (by go_grown) hb1
  go_wp2_with fail
  refine leaves_cons (f := 65) (args := #[.pointer (some ⟨w.heap.size + 1 + 1, 0, none⟩), .pointer (some ⟨w.heap.size, 0, none⟩), .pointer (some ⟨w.heap.size + 1, 0, none⟩)]) (by simp) (by simp [go_sem]) ?_
  refine (catch_idle_s _ _ _ _ (by simp [go_sem, d0, x0, e0])).mono ?_
  rintro e u' w'' ⟨rfl, rfl, rfl⟩
  simp [Leaves, settle, results, Tryz.results36, go_sem, d0, x0, e0, d1, x1, e1]
  exact ⟨rfl, (((HB.setCell (p := ⟨w.heap.size, 0, none⟩) (Nat.le_refl _) _).setCell (p := ⟨w.heap.size + 1 + 1, 0, none⟩) (by dsimp only; omega) _).setCell (p := ⟨w.heap.size, 0, none⟩) (Nat.le_refl _) _).setCell (p := ⟨w.heap.size + 1, 0, none⟩) (by dsimp only; omega) _⟩
set_option maxHeartbeats 1000000 in
theorem try_dies_node (p : Addr) (n : Int) (hn : 1 ≤ n ∧ n ≤ 14) (ea : Int → Addr) (w : World) (he : Errs ea w) (h : ∀ W, Below w.heap.size w W → Calls Tryz.prog 84 #[.pointer (some p)] W (Fails (errV (ea n)) W)) :
    Calls Tryz.prog 36 #[.func (.func 84) #[] #[.pointer (some p)]] w (Makes (.tuple #[.string ⟨#[]⟩, errV (ea n)]) w) := by
  have hmf : ∀ (fn : Fn) (first cap : Array Value) (w : World), (Instr.makeFunc fn first cap).run Tryz.prog w = .ok (.func fn first cap) w := fun _ _ _ _ => rfl
  have H := Lib.hid h
  have HR := Lib.hid he
  clear h he
  go_enter_defers Tryz.func36, Tryz.ntmps36
  go_wp2_with fail
  refine (H.out _ (by go_grown)).mono ?_
  rintro e w1 ⟨rfl, hb1⟩
  have HB : Below w.heap.size w w1 := below_then (by go_grown) hb1
  have HX := (((Blk.fresh w #[.string ⟨#[]⟩] 9 _ rfl).below (by go_grown)).below hb1 : Blk w1 w.heap.size _)
  have HE := (((Blk.fresh (w.alloc (.cells #[.string ⟨#[]⟩] 9)) #[.nilIface] 26 (w.heap.size + 1) (by simp)).below (by go_grown)).below hb1 : Blk w1 (w.heap.size + 1) _)
  have HD := ((Blk.fresh ((w.alloc (.cells #[.string ⟨#[]⟩] 9)).alloc (.cells #[.nilIface] 26)) #[.bool false] 4 (w.heap.size + 1 + 1) (by simp)).below hb1 : Blk w1 (w.heap.size + 1 + 1) _)
  have HER := HR.out.below HB
  refine leaves_cons (f := 65) (args := #[.pointer (some ⟨w.heap.size + 1 + 1, 0, none⟩), .pointer (some ⟨w.heap.size, 0, none⟩), .pointer (some ⟨w.heap.size + 1, 0, none⟩)]) (by simp) (by simp [go_sem]) ?_
  refine (catch_took_s _ _ _ _ n hn ea _ _ HD HX HE (by omega) HER).mono ?_
  rintro e u' w'' ⟨rfl, rfl, w2, hb2, rfl⟩
  have x0 : w1.cell? ⟨w.heap.size, 0, none⟩ = some (.string ⟨#[]⟩) := HX.cell 0
  have hx2 := HX.below hb2
  have he2 := HE.below hb2
  have x2 : w2.cell? ⟨w.heap.size, 0, none⟩ = some (.string ⟨#[]⟩) := hx2.cell 0
  have e2 : w2.cell? ⟨w.heap.size + 1, 0, none⟩ = some .nilIface := he2.cell 0
  have x3 := hx2.free 0
  have e3 := he2.free 0
  simp [Leaves, settle, results, Tryz.results36, go_sem, x2, e2, x3, e3]
  exact ⟨rfl, ((HB.trans (hb2.mono HB.size)).setCell (p := ⟨w.heap.size, 0, none⟩) (Nat.le_refl _) _).setCell (p := ⟨w.heap.size + 1, 0, none⟩) (by dsimp only; omega) _⟩
set_option maxHeartbeats 1000000 in
theorem try_gives_line (p : Addr) (s : ByteArray) (w : World) (h : ∀ W, Below w.heap.size w W → Calls Tryz.prog 43 #[.pointer (some p)] W (Makes (.string s) W)) :
    Calls Tryz.prog 36 #[.func (.func 43) #[] #[.pointer (some p)]] w (Makes (.tuple #[.string s, .nilIface]) w) := by
  have hmf : ∀ (fn : Fn) (first cap : Array Value) (w : World), (Instr.makeFunc fn first cap).run Tryz.prog w = .ok (.func fn first cap) w := fun _ _ _ _ => rfl
  have H := Lib.hid h
  clear h
  go_enter_defers Tryz.func36, Tryz.ntmps36
  go_wp2_with fail
  refine (H.out _ (by go_grown)).mono ?_
  rintro e w1 ⟨rfl, hb1⟩
  have HX := (((Blk.fresh w #[.string ⟨#[]⟩] 9 _ rfl).below (by go_grown)).below hb1 : Blk w1 w.heap.size _)
  have HE := (((Blk.fresh (w.alloc (.cells #[.string ⟨#[]⟩] 9)) #[.nilIface] 26 (w.heap.size + 1) (by simp)).below (by go_grown)).below hb1 : Blk w1 (w.heap.size + 1) _)
  have HD := ((Blk.fresh ((w.alloc (.cells #[.string ⟨#[]⟩] 9)).alloc (.cells #[.nilIface] 26)) #[.bool false] 4 (w.heap.size + 1 + 1) (by simp)).below hb1 : Blk w1 (w.heap.size + 1 + 1) _)
  have x0 : w1.cell? ⟨w.heap.size, 0, none⟩ = some (.string ⟨#[]⟩) := HX.cell 0
  have x1 := HX.free 0
  have e0 : w1.cell? ⟨w.heap.size + 1, 0, none⟩ = some .nilIface := HE.cell 0
  have e1 := HE.free 0
  have d0 : w1.cell? ⟨w.heap.size + 1 + 1, 0, none⟩ = some (.bool false) := HD.cell 0
  have d1 := HD.free 0
  clear HX HE HD
  have HB : Below w.heap.size w w1 := below_then (by go_grown) hb1
  go_wp2_with fail
  refine leaves_cons (f := 65) (args := #[.pointer (some ⟨w.heap.size + 1 + 1, 0, none⟩), .pointer (some ⟨w.heap.size, 0, none⟩), .pointer (some ⟨w.heap.size + 1, 0, none⟩)]) (by simp) (by simp [go_sem]) ?_
  refine (catch_idle_s _ _ _ _ (by simp [go_sem, d0, x0, e0])).mono ?_
  rintro e u' w'' ⟨rfl, rfl, rfl⟩
  simp [Leaves, settle, results, Tryz.results36, go_sem, d0, x0, e0, d1, x1, e1]
  exact ⟨rfl, (((HB.setCell (p := ⟨w.heap.size, 0, none⟩) (Nat.le_refl _) _).setCell (p := ⟨w.heap.size + 1 + 1, 0, none⟩) (by dsimp only; omega) _).setCell (p := ⟨w.heap.size, 0, none⟩) (Nat.le_refl _) _).setCell (p := ⟨w.heap.size + 1, 0, none⟩) (by dsimp only; omega) _⟩
set_option maxHeartbeats 1000000 in
theorem try_dies_line (p : Addr) (n : Int) (hn : 1 ≤ n ∧ n ≤ 14) (ea : Int → Addr) (w : World) (he : Errs ea w) (h : ∀ W, Below w.heap.size w W → Calls Tryz.prog 43 #[.pointer (some p)] W (Fails (errV (ea n)) W)) :
    Calls Tryz.prog 36 #[.func (.func 43) #[] #[.pointer (some p)]] w (Makes (.tuple #[.string ⟨#[]⟩, errV (ea n)]) w) := by
  have hmf : ∀ (fn : Fn) (first cap : Array Value) (w : World), (Instr.makeFunc fn first cap).run Tryz.prog w = .ok (.func fn first cap) w := fun _ _ _ _ => rfl
  have H := Lib.hid h
  have HR := Lib.hid he
  clear h he
  go_enter_defers Tryz.func36, Tryz.ntmps36
  go_wp2_with fail
  refine (H.out _ (by go_grown)).mono ?_
  rintro e w1 ⟨rfl, hb1⟩
  have HB : Below w.heap.size w w1 := below_then (by go_grown) hb1
  have HX := (((Blk.fresh w #[.string ⟨#[]⟩] 9 _ rfl).below (by go_grown)).below hb1 : Blk w1 w.heap.size _)
  have HE := (((Blk.fresh (w.alloc (.cells #[.string ⟨#[]⟩] 9)) #[.nilIface] 26 (w.heap.size + 1) (by simp)).below (by go_grown)).below hb1 : Blk w1 (w.heap.size + 1) _)
  have HD := ((Blk.fresh ((w.alloc (.cells #[.string ⟨#[]⟩] 9)).alloc (.cells #[.nilIface] 26)) #[.bool false] 4 (w.heap.size + 1 + 1) (by simp)).below hb1 : Blk w1 (w.heap.size + 1 + 1) _)
  have HER := HR.out.below HB
  refine leaves_cons (f := 65) (args := #[.pointer (some ⟨w.heap.size + 1 + 1, 0, none⟩), .pointer (some ⟨w.heap.size, 0, none⟩), .pointer (some ⟨w.heap.size + 1, 0, none⟩)]) (by simp) (by simp [go_sem]) ?_
  refine (catch_took_s _ _ _ _ n hn ea _ _ HD HX HE (by omega) HER).mono ?_
  rintro e u' w'' ⟨rfl, rfl, w2, hb2, rfl⟩
  have x0 : w1.cell? ⟨w.heap.size, 0, none⟩ = some (.string ⟨#[]⟩) := HX.cell 0
  have hx2 := HX.below hb2
  have he2 := HE.below hb2
  have x2 : w2.cell? ⟨w.heap.size, 0, none⟩ = some (.string ⟨#[]⟩) := hx2.cell 0
  have e2 : w2.cell? ⟨w.heap.size + 1, 0, none⟩ = some .nilIface := he2.cell 0
  have x3 := hx2.free 0
  have e3 := he2.free 0
  simp [Leaves, settle, results, Tryz.results36, go_sem, x2, e2, x3, e3]
  exact ⟨rfl, ((HB.trans (hb2.mono HB.size)).setCell (p := ⟨w.heap.size, 0, none⟩) (Nat.le_refl _) _).setCell (p := ⟨w.heap.size + 1, 0, none⟩) (by dsimp only; omega) _⟩
set_option maxHeartbeats 1000000 in
theorem try_gives_tonode (p : Addr) (k : Int) (w : World) (h : ∀ W, Below w.heap.size w W → Calls Tryz.prog 53 #[.pointer (some p)] W (Makes (.int .i64 k) W)) :
    Calls Tryz.prog 52 #[.func (.func 53) #[] #[.pointer (some p)]] w (Makes (.tuple #[.int .i64 k, .nilIface]) w) := by
  have hmf : ∀ (fn : Fn) (first cap : Array Value) (w : World), (Instr.makeFunc fn first cap).run Tryz.prog w = .ok (.func fn first cap) w := fun _ _ _ _ => rfl
  have H := Lib.hid h
  clear h
  go_enter_defers Tryz.func52, Tryz.ntmps52
  go_wp2_with fail
  refine (H.out _ (by go_grown)).mono ?_
  rintro e w1 ⟨rfl, hb1⟩
  have HX := (((Blk.fresh w #[.int .i64 0] 3 _ rfl).below (by go_grown)).below hb1 : Blk w1 w.heap.size _)
  have HE := (((Blk.fresh (w.alloc (.cells #[.int .i64 0] 3)) #[.nilIface] 26 (w.heap.size + 1) (by simp)).below (by go_grown)).below hb1 : Blk w1 (w.heap.size + 1) _)
  have HD := ((Blk.fresh ((w.alloc (.cells #[.int .i64 0] 3)).alloc (.cells #[.nilIface] 26)) #[.bool false] 4 (w.heap.size + 1 + 1) (by simp)).below hb1 : Blk w1 (w.heap.size + 1 + 1) _)
  have x0 : w1.cell? ⟨w.heap.size, 0, none⟩ = some (.int .i64 0) := HX.cell 0
  have x1 := HX.free 0
  have e0 : w1.cell? ⟨w.heap.size + 1, 0, none⟩ = some .nilIface := HE.cell 0
  have e1 := HE.free 0
  have d0 : w1.cell? ⟨w.heap.size + 1 + 1, 0, none⟩ = some (.bool false) := HD.cell 0
  have d1 := HD.free 0
  clear HX HE HD
  have HB : Below w.heap.size w w1 := below_then (by go_grown) hb1
  go_wp2_with fail
  refine leaves_cons (f := 78) (args := #[.pointer (some ⟨w.heap.size + 1 + 1, 0, none⟩), .pointer (some ⟨w.heap.size, 0, none⟩), .pointer (some ⟨w.heap.size + 1, 0, none⟩)]) (by simp) (by simp [go_sem]) ?_
  refine (catch_idle_i _ _ _ _ (by simp [go_sem, d0, x0, e0])).mono ?_
  rintro e u' w'' ⟨rfl, rfl, rfl⟩
  simp [Leaves, settle, results, Tryz.results52, go_sem, d0, x0, e0, d1, x1, e1]
  exact ⟨rfl, (((HB.setCell (p := ⟨w.heap.size, 0, none⟩) (Nat.le_refl _) _).setCell (p := ⟨w.heap.size + 1 + 1, 0, none⟩) (by dsimp only; omega) _).setCell (p := ⟨w.heap.size, 0, none⟩) (Nat.le_refl _) _).setCell (p := ⟨w.heap.size + 1, 0, none⟩) (by dsimp only; omega) _⟩
set_option maxHeartbeats 1000000 in
theorem try_dies_tonode (p : Addr) (n : Int) (hn : 1 ≤ n ∧ n ≤ 14) (ea : Int → Addr) (w : World) (he : Errs ea w) (h : ∀ W, Below w.heap.size w W → Calls Tryz.prog 53 #[.pointer (some p)] W (Fails (errV (ea n)) W)) :
    Calls Tryz.prog 52 #[.func (.func 53) #[] #[.pointer (some p)]] w (Makes (.tuple #[.int .i64 0, errV (ea n)]) w) := by
  have hmf : ∀ (fn : Fn) (first cap : Array Value) (w : World), (Instr.makeFunc fn first cap).run Tryz.prog w = .ok (.func fn first cap) w := fun _ _ _ _ => rfl
  have H := Lib.hid h
  have HR := Lib.hid he
  clear h he
  go_enter_defers Tryz.func52, Tryz.ntmps52
  go_wp2_with fail
  refine (H.out _ (by go_grown)).mono ?_
  rintro e w1 ⟨rfl, hb1⟩
  have HB : Below w.heap.size w w1 := below_then (by go_grown) hb1
  have HX := (((Blk.fresh w #[.int .i64 0] 3 _ rfl).below (by go_grown)).below hb1 : Blk w1 w.heap.size _)
  have HE := (((Blk.fresh (w.alloc (.cells #[.int .i64 0] 3)) #[.nilIface] 26 (w.heap.size + 1) (by simp)).below (by go_grown)).below hb1 : Blk w1 (w.heap.size + 1) _)
  have HD := ((Blk.fresh ((w.alloc (.cells #[.int .i64 0] 3)).alloc (.cells #[.nilIface] 26)) #[.bool false] 4 (w.heap.size + 1 + 1) (by simp)).below hb1 : Blk w1 (w.heap.size + 1 + 1) _)
  have HER := HR.out.below HB
  refine leaves_cons (f := 78) (args := #[.pointer (some ⟨w.heap.size + 1 + 1, 0, none⟩), .pointer (some ⟨w.heap.size, 0, none⟩), .pointer (some ⟨w.heap.size + 1, 0, none⟩)]) (by simp) (by simp [go_sem]) ?_
  refine (catch_took_i _ _ _ _ n hn ea _ _ HD HX HE (by omega) HER).mono ?_
  rintro e u' w'' ⟨rfl, rfl, w2, hb2, rfl⟩
  have x0 : w1.cell? ⟨w.heap.size, 0, none⟩ = some (.int .i64 0) := HX.cell 0
  have hx2 := HX.below hb2
  have he2 := HE.below hb2
  have x2 : w2.cell? ⟨w.heap.size, 0, none⟩ = some (.int .i64 0) := hx2.cell 0
  have e2 : w2.cell? ⟨w.heap.size + 1, 0, none⟩ = some .nilIface := he2.cell 0
  have x3 := hx2.free 0
  have e3 := he2.free 0
  simp [Leaves, settle, results, Tryz.results52, go_sem, x2, e2, x3, e3]
  exact ⟨rfl, ((HB.trans (hb2.mono HB.size)).setCell (p := ⟨w.heap.size, 0, none⟩) (Nat.le_refl _) _).setCell (p := ⟨w.heap.size + 1, 0, none⟩) (by dsimp only; omega) _⟩
end Go.Proofs.YthjdaehiebcoaaaGreatDoor
