/- catch.Try over the closure that gives an event: trace.Parse. -/
import Derived.Test.YthjdaehiebcoaaaGreatDoorRows
import Derived.WalkKit
import Derived.WalkSpells
import Derived.WalkLawsBesides
import Derived.BigQuiet
import Derived.Deep.QuietTactic
import Derived.StillTailTactics
import Derived.Handy
import Derived.Lib.Hide
import Derived.Test.YthjdaehiebcoaaaGreatDoorToldB
import Derived.Recover
import Derived.Defers
import Derived.Deep.RegionWith
set_option linter.unusedSimpArgs false
set_option linter.unusedVariables false
namespace Go.Proofs.YthjdaehiebcoaaaGreatDoor
open Go.RowKit

abbrev ev0C : Array Value := #[.int .i64 0, .string ⟨#[]⟩, .int .i64 0, .string ⟨#[]⟩, .string ⟨#[]⟩]
theorem catch_idle_e (d x e : Addr) (w : World) (hd : w.cell? d = some (.bool true)) :
    CallsD Tryz.prog 49 #[.pointer (some d), .pointer (some x), .pointer (some e)] .returning w fun en u' w' => en = .returned (.tuple #[]) ∧ u' = .returning ∧ w' = w := by
  refine callsD_of_wpS Tryz.func49 rfl fun c₀ cs hu => ?_
  apply wpS_seq
  apply wpS_region
  simp [wpOpsS, go_sem, recoverD, hu, Tryz.ntmps49, Exit.thenS]
  apply wpS_seq
  apply wpS_region
  simp [wpOpsS, go_sem, hd, Exit.thenS]
  refine wpS_cond (t := false) (by simp [Act.eval, Array.replicate]) ?_
  simp only [Bool.false_eq_true, if_false]
  refine wpS_of_wp (wp_skip ?_)
  cases c₀
  simp_all [bodyPostS, results, Tryz.results49]
theorem Blk.put {w : World} {b : Nat} {C : Array Value} (h : Blk w b C) (i : Nat) (hi : i < C.size) (v : Value) : Blk (w.setCell ⟨b, i, none⟩ v) b (C.set i v hi) := by
  refine ⟨by simpa using h.lt, fun j => ?_, fun j => by rw [World.frozen?_setCell]; exact h.free j⟩
  by_cases hj : j = i
  · subst hj
    have h1 : w.cell? ⟨b, j, none⟩ = some C[j] := by rw [h.cell]; exact Array.getElem?_eq_getElem hi
    rw [World.cell?_setCell_same (h := h1), Array.getElem?_set_self]
  · rw [World.cell?_setCell_other (h := by intro e; injection e with _ e2; exact hj e2.symm), h.cell, Array.getElem?_set_ne]
    exact fun e => hj e.symm
/-- an event's cells, stored one behind the other -/
abbrev set5 (w : World) (X : Nat) (a : Int) (b : ByteArray) (c : Int) (d f : ByteArray) : World := ((((w.setCell ⟨X, 0, none⟩ (.int .i64 a)).setCell ⟨X, 1, none⟩ (.string b)).setCell ⟨X, 2, none⟩ (.int .i64 c)).setCell ⟨X, 3, none⟩ (.string d)).setCell ⟨X, 4, none⟩ (.string f)
theorem Blk.set5 {w : World} {X : Nat} {C : Array Value} (h : Blk w X C) (hC : C.size = 5) (a : Int) (b : ByteArray) (c : Int) (d f : ByteArray) : Blk (set5 w X a b c d f) X #[.int .i64 a, .string b, .int .i64 c, .string d, .string f] := by
  have h1 := h.put 0 (by omega) (.int .i64 a)
  have h2 := h1.put 1 (by simp; omega) (.string b)
  have h3 := h2.put 2 (by simp; omega) (.int .i64 c)
  have h4 := h3.put 3 (by simp; omega) (.string d)
  have h5 := h4.put 4 (by simp; omega) (.string f)
  have e : ∀ (C : Array Value) (hC : C.size = 5), (((((C.set 0 (.int .i64 a) (by omega)).set 1 (.string b) (by simp; omega)).set 2 (.int .i64 c) (by simp; omega)).set 3 (.string d) (by simp; omega)).set 4 (.string f) (by simp; omega)) = #[.int .i64 a, .string b, .int .i64 c, .string d, .string f] := by
    intro C hC
    match C, hC with
    | ⟨[_, _, _, _, _]⟩, _ => rfl
  rw [e C hC] at h5
  exact h5
theorem Blk.set5_other {w : World} {X g : Nat} {C : Array Value} (h : Blk w g C) (hne : X ≠ g) (a : Int) (b : ByteArray) (c : Int) (d f : ByteArray) : Blk (Go.Proofs.YthjdaehiebcoaaaGreatDoor.set5 w X a b c d f) g C :=
  ((((h.other hne _).other hne _).other hne _).other hne _).other hne _
theorem set5_below {w w' : World} {m X : Nat} (h : Below m w w') (hm : m ≤ X) (a : Int) (b : ByteArray) (c : Int) (d f : ByteArray) : Below m w (set5 w' X a b c d f) :=
  ((((h.setCell hm _).setCell hm _).setCell hm _).setCell hm _).setCell hm _
set_option maxRecDepth 100000 in
set_option maxHeartbeats 1000000 in
theorem catch_took_e (D X E : Nat) (n : Int) (hn : 1 ≤ n ∧ n ≤ 14) (ea : Int → Addr) (older : List PanicEntry) (w : World) (hd : Blk w D #[.bool false]) (hx : Blk w X ev0C) (hz : Blk w E #[.nilIface]) (hne : X < E) (he : Errs ea w) :
    CallsD Tryz.prog 49 #[.pointer (some ⟨D, 0, none⟩), .pointer (some ⟨X, 0, none⟩), .pointer (some ⟨E, 0, none⟩)] (.panicking ({ v := errV (ea n), recovered := false } :: older)) w fun en u' w' =>
      en = .returned (.tuple #[]) ∧ u' = .panicking ({ v := errV (ea n), recovered := true } :: older) ∧ Below X w w' ∧ Blk w' X ev0C ∧ Blk w' E #[errV (ea n)] := by
  have HT := Lib.hid (fun W hW => told_of n hn ea W hW)
  have HE := Lib.hid he
  have hd0 : w.cell? ⟨D, 0, none⟩ = some (.bool false) := hd.cell 0
  have HX := Lib.hid hx; have HZ := Lib.hid hz
  have hne2 : E ≠ X := by omega
  have hne3 : X ≠ E := by omega
  have hXl := hx.lt
  clear he hd hx hz hn
  refine callsD_of_wpS Tryz.func49 rfl fun c₀ cs hu => ?_
  apply wpS_seq
  apply wpS_region
  simp [wpOpsS, go_sem, recoverD, hu, Tryz.ntmps49, Exit.thenS]
  apply wpS_seq
  apply wpS_region
  simp [wpOpsS, go_sem, hd0, Exit.thenS]
  refine wpS_cond (t := true) (by simp [Act.eval, Array.replicate]) ?_
  simp only [if_true]
  refine wpS_of_wp ?_
  go_wp2_with fail
  go_region_with (first | (go_at_call 50; refine (HT.out _ (HE.out.below (by go_grown))).mono ?_; rintro e w1 ⟨rfl, hb1⟩; have HX1 := Lib.hid ((HX.out.alloc _).drew.below hb1); have HZ1 := Lib.hid ((HZ.out.alloc _).drew.below hb1); have HV1 := Lib.hid ((Blk.fresh w _ _ _ rfl).drew.below hb1); have B1 : Below w.heap.size w w1 := below_then (by go_grown) hb1; have hz1 := hb1.size; have x0 : w1.cell? ⟨X, 0, none⟩ = some (.int .i64 0) := HX1.out.cell 0; have x1 : w1.cell? ⟨X, 1, none⟩ = some (.string ⟨#[]⟩) := HX1.out.cell 1; have x2 : w1.cell? ⟨X, 2, none⟩ = some (.int .i64 0) := HX1.out.cell 2; have x3 : w1.cell? ⟨X, 3, none⟩ = some (.string ⟨#[]⟩) := HX1.out.cell 3; have x4 : w1.cell? ⟨X, 4, none⟩ = some (.string ⟨#[]⟩) := HX1.out.cell 4; have x5 := HX1.out.free; have z0 : w1.cell? ⟨E, 0, none⟩ = some .nilIface := HZ1.out.cell 0; have z1 := HZ1.out.free; have v0 : w1.cell? ⟨w.heap.size, 0, none⟩ = some (.int .i64 0) := HV1.out.cell 0; have v1 : w1.cell? ⟨w.heap.size, 1, none⟩ = some (.string ⟨#[]⟩) := HV1.out.cell 1; have v2 : w1.cell? ⟨w.heap.size, 2, none⟩ = some (.int .i64 0) := HV1.out.cell 2; have v3 : w1.cell? ⟨w.heap.size, 3, none⟩ = some (.string ⟨#[]⟩) := HV1.out.cell 3; have v4 : w1.cell? ⟨w.heap.size, 4, none⟩ = some (.string ⟨#[]⟩) := HV1.out.cell 4; have v5 := HV1.out.free))
  all_goals
    have KX := (HX1.out.set5 rfl 0 ⟨#[]⟩ 0 ⟨#[]⟩ ⟨#[]⟩).other (p := ⟨E, 0, none⟩) (by dsimp only; omega) (errV (ea n))
    have KE := (HZ1.out.set5_other (X := X) (by omega) 0 ⟨#[]⟩ 0 ⟨#[]⟩ ⟨#[]⟩).put 0 (by simp) (errV (ea n))
    have KB := (set5_below (X := X) (m := X) (B1.mono (by omega)) (Nat.le_refl _) 0 ⟨#[]⟩ 0 ⟨#[]⟩ ⟨#[]⟩).setCell (p := ⟨E, 0, none⟩) (by dsimp only; omega) (errV (ea n))
    dsimp only [set5] at KX KE KB
    generalize ((((((w1.setCell ⟨X, 0, none⟩ (.int .i64 0)).setCell ⟨X, 1, none⟩ (.string ⟨#[]⟩)).setCell ⟨X, 2, none⟩ (.int .i64 0)).setCell ⟨X, 3, none⟩ (.string ⟨#[]⟩)).setCell ⟨X, 4, none⟩ (.string ⟨#[]⟩)).setCell ⟨E, 0, none⟩ (errV (ea n))) = ws at *
    clear x0 x1 x2 x3 x4 x5 z0 z1 v0 v1 v2 v3 v4 v5
    show bodyPostS _ _ _ _ _ _ _ _ _
    simp [bodyPostS, results, Tryz.results49]
    exact ⟨KB, KX, KE⟩
set_option maxHeartbeats 1000000 in
theorem try_gives_e (p : Addr) (a c : Int) (b d f : ByteArray) (w : World) (h : ∀ W, Below w.heap.size w W → Calls Tryz.prog 18 #[.pointer (some p)] W (Makes (.agg #[.int .i64 a, .string b, .int .i64 c, .string d, .string f]) W)) :
    Calls Tryz.prog 17 #[.func (.func 18) #[] #[.pointer (some p)]] w (Makes (.tuple #[.agg #[.int .i64 a, .string b, .int .i64 c, .string d, .string f], .nilIface]) w) := by
  have hmf : ∀ (fn : Fn) (first cap : Array Value) (w : World), (Instr.makeFunc fn first cap).run Tryz.prog w = .ok (.func fn first cap) w := fun _ _ _ _ => rfl
  have H := Lib.hid h
  clear h
  go_enter_defers Tryz.func17, Tryz.ntmps17
  go_wp2_with fail
  refine (H.out _ (by go_grown)).mono ?_
  rintro e w1 ⟨rfl, hb1⟩
  have hx := (((Blk.fresh w ev0C 24 _ rfl).below (by go_grown)).below hb1 : Blk w1 w.heap.size _)
  have he := (((Blk.fresh (w.alloc (.cells ev0C 24)) #[.nilIface] 26 (w.heap.size + 1) (by simp)).below (by go_grown)).below hb1 : Blk w1 (w.heap.size + 1) _)
  have hd := ((Blk.fresh ((w.alloc (.cells ev0C 24)).alloc (.cells #[.nilIface] 26)) #[.bool false] 4 (w.heap.size + 1 + 1) (by simp)).below hb1 : Blk w1 (w.heap.size + 1 + 1) _)
  have x0 : w1.cell? ⟨w.heap.size, 0, none⟩ = some (.int .i64 0) := hx.cell 0
  have x1 : w1.cell? ⟨w.heap.size, 1, none⟩ = some (.string ⟨#[]⟩) := hx.cell 1
  have x2 : w1.cell? ⟨w.heap.size, 2, none⟩ = some (.int .i64 0) := hx.cell 2
  have x3 : w1.cell? ⟨w.heap.size, 3, none⟩ = some (.string ⟨#[]⟩) := hx.cell 3
  have x4 : w1.cell? ⟨w.heap.size, 4, none⟩ = some (.string ⟨#[]⟩) := hx.cell 4
  have x5 := hx.free
  have e0 : w1.cell? ⟨w.heap.size + 1, 0, none⟩ = some .nilIface := he.cell 0
  have e1 := he.free 0
  have d0 : w1.cell? ⟨w.heap.size + 1 + 1, 0, none⟩ = some (.bool false) := hd.cell 0
  have d1 := hd.free 0
  have HB : Below w.heap.size w w1 := below_then (by go_grown) hb1
  have KX := Lib.hid ((((hx.set5 rfl a b c d f).other (p := ⟨w.heap.size + 1 + 1, 0, none⟩) (by dsimp only; omega) (.bool true)).set5 rfl a b c d f).other (p := ⟨w.heap.size + 1, 0, none⟩) (by dsimp only; omega) .nilIface)
  have KE := Lib.hid ((((he.set5_other (X := w.heap.size) (by omega) a b c d f).other (p := ⟨w.heap.size + 1 + 1, 0, none⟩) (by dsimp only; omega) (.bool true)).set5_other (X := w.heap.size) (by omega) a b c d f).put 0 (by simp) .nilIface)
  have KB := Lib.hid ((set5_below ((set5_below HB (Nat.le_refl _) a b c d f).setCell (p := ⟨w.heap.size + 1 + 1, 0, none⟩) (by dsimp only; omega) (.bool true)) (Nat.le_refl _) a b c d f).setCell (p := ⟨w.heap.size + 1, 0, none⟩) (by dsimp only; omega) .nilIface)
  clear hx he hd
  go_wp2_with fail
  refine leaves_cons (f := 49) (args := #[.pointer (some ⟨w.heap.size + 1 + 1, 0, none⟩), .pointer (some ⟨w.heap.size, 0, none⟩), .pointer (some ⟨w.heap.size + 1, 0, none⟩)]) (by simp) (by simp [go_sem]) ?_
  refine (catch_idle_e _ _ _ _ (by simp [go_sem, d0, x0, x1, x2, x3, x4, e0])).mono ?_
  rintro e u' w'' ⟨rfl, rfl, rfl⟩
  clear x0 x1 x2 x3 x4 x5 e0 e1 d0 d1
  dsimp only [set5] at KX KE KB
  generalize ((((((((((((w1.setCell ⟨w.heap.size, 0, none⟩ (.int .i64 a)).setCell ⟨w.heap.size, 1, none⟩ (.string b)).setCell ⟨w.heap.size, 2, none⟩ (.int .i64 c)).setCell ⟨w.heap.size, 3, none⟩ (.string d)).setCell ⟨w.heap.size, 4, none⟩ (.string f)).setCell ⟨w.heap.size + 1 + 1, 0, none⟩ (.bool true)).setCell ⟨w.heap.size, 0, none⟩ (.int .i64 a)).setCell ⟨w.heap.size, 1, none⟩ (.string b)).setCell ⟨w.heap.size, 2, none⟩ (.int .i64 c)).setCell ⟨w.heap.size, 3, none⟩ (.string d)).setCell ⟨w.heap.size, 4, none⟩ (.string f)).setCell ⟨w.heap.size + 1, 0, none⟩ .nilIface) = ws at *
  have k0 := KX.out.cell
  have k1 := KX.out.free
  have k2 := KE.out.cell
  have k3 := KE.out.free
  simp [Leaves, settle, results, Tryz.results17, go_sem, k0, k1, k2, k3]
  exact ⟨rfl, KB.out⟩
set_option maxHeartbeats 1000000 in
theorem try_dies_e (p : Addr) (n : Int) (hn : 1 ≤ n ∧ n ≤ 14) (ea : Int → Addr) (w : World) (he : Errs ea w) (h : ∀ W, Below w.heap.size w W → Calls Tryz.prog 18 #[.pointer (some p)] W (Fails (errV (ea n)) W)) :
    Calls Tryz.prog 17 #[.func (.func 18) #[] #[.pointer (some p)]] w (Makes (.tuple #[.agg #[.int .i64 0, .string ⟨#[]⟩, .int .i64 0, .string ⟨#[]⟩, .string ⟨#[]⟩], errV (ea n)]) w) := by
  have hmf : ∀ (fn : Fn) (first cap : Array Value) (w : World), (Instr.makeFunc fn first cap).run Tryz.prog w = .ok (.func fn first cap) w := fun _ _ _ _ => rfl
  have H := Lib.hid h
  have HR := Lib.hid he
  clear h he
  go_enter_defers Tryz.func17, Tryz.ntmps17
  go_wp2_with fail
  refine (H.out _ (by go_grown)).mono ?_
  rintro e w1 ⟨rfl, hb1⟩
  have HB : Below w.heap.size w w1 := below_then (by go_grown) hb1
  have HX := (((Blk.fresh w ev0C 24 _ rfl).below (by go_grown)).below hb1 : Blk w1 w.heap.size _)
  have HE := (((Blk.fresh (w.alloc (.cells ev0C 24)) #[.nilIface] 26 (w.heap.size + 1) (by simp)).below (by go_grown)).below hb1 : Blk w1 (w.heap.size + 1) _)
  have HD := ((Blk.fresh ((w.alloc (.cells ev0C 24)).alloc (.cells #[.nilIface] 26)) #[.bool false] 4 (w.heap.size + 1 + 1) (by simp)).below hb1 : Blk w1 (w.heap.size + 1 + 1) _)
  have HER := HR.out.below HB
  refine leaves_cons (f := 49) (args := #[.pointer (some ⟨w.heap.size + 1 + 1, 0, none⟩), .pointer (some ⟨w.heap.size, 0, none⟩), .pointer (some ⟨w.heap.size + 1, 0, none⟩)]) (by simp) (by simp [go_sem]) ?_
  refine (catch_took_e _ _ _ n hn ea _ _ HD HX HE (by omega) HER).mono ?_
  rintro e u' w'' ⟨rfl, rfl, hb2, hx2, he2⟩
  have k0 := hx2.cell
  have k1 := hx2.free
  have k2 := he2.cell
  have k3 := he2.free
  simp [Leaves, settle, results, Tryz.results17, go_sem, k0, k1, k2, k3]
  exact ⟨rfl, HB.trans hb2⟩
end Go.Proofs.YthjdaehiebcoaaaGreatDoor
