/- catch.Check, catch.Must of events, strings.Lines, catch.Try over the closure that gives events; events in a slice. -/
import Derived.Test.YthjdaehiebcoaaaGreatDoorRows
import Derived.WalkKit
import Derived.WalkSpells
import Derived.WalkLawsBesides
import Derived.BigQuiet
import Derived.Deep.QuietTactic
import Derived.StillTailTactics
import Derived.Handy
import Derived.Lib.Hide
import Derived.Test.YthjdaehiebcoaaaGreatDoorTrcI
import Derived.Test.YthjdaehiebcoaaaGreatDoorToldB
import Derived.Recover
import Derived.Defers
import Derived.OwnWalk
import Derived.Laws.OwnMore
import Derived.Deep.AppendLies
import Derived.Test.YthjdaehiebcoaaaGreatDoorRefP
set_option linter.unusedSimpArgs false
set_option linter.unusedVariables false
namespace Go.Proofs.YthjdaehiebcoaaaGreatDoor
open Go.RowKit

def evCells (e : Ev) : List Value := [.int .i64 e.step, .string (bs e.what), .int .i64 e.node, .string (bs e.first), .string (bs e.second)]
def evRow (l : List Ev) : List Value := l.flatMap evCells
theorem evRow_length (l : List Ev) : (evRow l).length = l.length * 5 := by
  induction l with
  | nil => rfl
  | cons e l ih => rw [evRow, List.flatMap_cons, List.length_append, ← evRow, ih, List.length_cons]; simp [evCells]; omega
theorem evRow_snoc (l : List Ev) (e : Ev) : evRow (l ++ [e]) = evRow l ++ evCells e := by
  unfold evRow
  rw [List.flatMap_append]
  simp
theorem infoEv : (Tryz.prog.info? 24).map (fun i => (i.zero, i.size, i.bytes)) = some (some (.agg #[.int .i64 0, .string ⟨#[]⟩, .int .i64 0, .string ⟨#[]⟩, .string ⟨#[]⟩]), 5, 64) := by kernel_rfl
/-- events in a slice of the call's own -/
def OwnV (B : Nat) (v : Value) (es : List Ev) (w : World) : Prop := w.ownsRow B 24 5 v es.length (evRow es)
theorem OwnV.mono {B B' : Nat} {v : Value} {es : List Ev} {w : World} (h : OwnV B v es w) (hB : B' ≤ B) : OwnV B' v es w := by
  refine ⟨h.1, ?_⟩
  rcases h.2 with hn | ⟨g, cap, cur, rfl, hb, r⟩
  · exact .inl hn
  · exact .inr ⟨g, cap, cur, rfl, by omega, r⟩
theorem OwnV.heap {B : Nat} {v : Value} {es : List Ev} {w w' : World} (h : OwnV B v es w) (he : ∀ k, v.ownBlock = some k → w'.heap[k]? = w.heap[k]?) : OwnV B v es w' := by
  refine ⟨h.1, ?_⟩
  rcases h.2 with hn | ⟨g, cap, cur, rfl, hb, hc, r⟩
  · exact .inl hn
  · exact .inr ⟨g, cap, cur, rfl, hb, (he g rfl).trans hc, r⟩
theorem OwnV.lt {B : Nat} {v : Value} {es : List Ev} {w : World} (h : OwnV B v es w) : ∀ k, v.ownBlock = some k → B ≤ k ∧ k < w.heap.size := World.ownsRow.lt h
theorem OwnV.below {B : Nat} {v : Value} {es : List Ev} {w w' : World} (h : OwnV B v es w) (hb : Below w.heap.size w w') : OwnV B v es w' := h.heap fun k hk => hb.block k (h.lt k hk).2
theorem OwnV.store {B : Nat} {v : Value} {es : List Ev} {w : World} (h : OwnV B v es w) {b : Nat} (hb : b < B) (i : Nat) (x : Value) : OwnV B v es (w.setCell ⟨b, i, none⟩ x) :=
  h.heap fun k hk => Below.heap_setCell w ⟨b, i, none⟩ x k (by have := (h.lt k hk).1; intro e; have e' : k = b := e; omega)
theorem OwnV.slice {B : Nat} {v : Value} {es : List Ev} {w : World} (h : OwnV B v es w) : ∃ a cap, v = .slice a es.length cap := row_slice h
/-- events, and no error -/
def MakesV (es : List Ev) (w : World) (e : Ending) (w' : World) : Prop := ∃ v, e = .returned v ∧ OwnV w.heap.size v es w' ∧ Below w.heap.size w w'
def MakesVN (es : List Ev) (w : World) (e : Ending) (w' : World) : Prop := ∃ v, e = .returned (.tuple #[v, .nilIface]) ∧ OwnV w.heap.size v es w' ∧ Below w.heap.size w w'
theorem check_ok (w : World) : Calls Tryz.prog 63 #[.nilIface] w (Gives (.tuple #[]) w) := by
  go_enter Tryz.func63, Tryz.ntmps63
  go_wp2_with fail
  exact bodyPost_end (results_none rfl _ _ _) rfl ⟨rfl, rfl⟩
theorem check_no (a : Addr) (w : World) : Calls Tryz.prog 63 #[errV a] w (fun e w' => e = .panicked [{ v := errV a, recovered := false }] ∧ w = w') := by
  go_enter Tryz.func63, Tryz.ntmps63
  go_wp2_with fail
  exact ⟨rfl, rfl, rfl⟩
theorem must_ok (e : Ev) (w : World) : Calls Tryz.prog 34 #[evV e, .nilIface] w (Makes (evV e) w) := by
  obtain ⟨step, what, node, first, second⟩ := e
  dsimp only [evV, evC]
  go_enter Tryz.func34, Tryz.ntmps34
  go_wp2_with fail
  refine (check_ok _).mono ?_
  rintro e w1 ⟨rfl, rfl⟩
  go_wp2_with fail
  exact bodyPost_ret (v := .agg #[.int .i64 step, .string (bs what), .int .i64 node, .string (bs first), .string (bs second)]) (by simp [results, Tryz.results34, go_sem]) rfl ⟨rfl, by go_grown⟩
theorem must_no (e : Ev) (a : Addr) (w : World) : Calls Tryz.prog 34 #[evV e, errV a] w (Fails (errV a) w) := by
  obtain ⟨step, what, node, first, second⟩ := e
  dsimp only [evV, evC]
  go_enter Tryz.func34, Tryz.ntmps34
  go_wp2_with fail
  refine (check_no _ _).mono ?_
  rintro e w1 ⟨rfl, rfl⟩
  exact ⟨rfl, rfl, by go_grown⟩
theorem linesSeq_of (s : Str) (w : World) : Calls Tryz.prog 33 #[.string (bs s)] w (fun e w' => e = .returned (.func (.func 61) #[] #[.pointer (some ⟨w.heap.size, 0, none⟩)]) ∧ w' = w.alloc (.cells #[.string (bs s)] 9)) := by
  have hmf : ∀ (fn : Fn) (first cap : Array Value) (w : World), (Instr.makeFunc fn first cap).run Tryz.prog w = .ok (.func fn first cap) w := fun _ _ _ _ => rfl
  go_enter Tryz.func33, Tryz.ntmps33
  go_wp2_with fail
  go_ret
  exact ⟨rfl, rfl⟩
theorem catch_idle_v (d x e : Addr) (w : World) (hd : w.cell? d = some (.bool true)) :
    CallsD Tryz.prog 60 #[.pointer (some d), .pointer (some x), .pointer (some e)] .returning w fun en u' w' => en = .returned (.tuple #[]) ∧ u' = .returning ∧ w' = w := by
  refine callsD_of_wpS Tryz.func60 rfl fun c₀ cs hu => ?_
  apply wpS_seq
  apply wpS_region
  simp [wpOpsS, go_sem, recoverD, hu, Tryz.ntmps60, Exit.thenS]
  apply wpS_seq
  apply wpS_region
  simp [wpOpsS, go_sem, hd, Exit.thenS]
  refine wpS_cond (t := false) (by simp [Act.eval, Array.replicate]) ?_
  simp only [Bool.false_eq_true, if_false]
  refine wpS_of_wp (wp_skip ?_)
  cases c₀
  simp_all [bodyPostS, results, Tryz.results60]
set_option maxHeartbeats 1000000 in
theorem catch_took_v (D X E : Nat) (v0 : Value) (n : Int) (hn : 1 ≤ n ∧ n ≤ 14) (ea : Int → Addr) (older : List PanicEntry) (w : World) (hd : Blk w D #[.bool false]) (hx : Blk w X #[v0]) (hz : Blk w E #[.nilIface]) (hne : X ≠ E) (he : Errs ea w) :
    CallsD Tryz.prog 60 #[.pointer (some ⟨D, 0, none⟩), .pointer (some ⟨X, 0, none⟩), .pointer (some ⟨E, 0, none⟩)] (.panicking ({ v := errV (ea n), recovered := false } :: older)) w fun en u' w' =>
      en = .returned (.tuple #[]) ∧ u' = .panicking ({ v := errV (ea n), recovered := true } :: older) ∧ ∃ w1, Below w.heap.size w w1 ∧ w' = (w1.setCell ⟨X, 0, none⟩ (.slice none 0 0)).setCell ⟨E, 0, none⟩ (errV (ea n)) := by
  have HT := Lib.hid (fun W hW => told_of n hn ea W hW)
  have HE := Lib.hid he
  have hd0 : w.cell? ⟨D, 0, none⟩ = some (.bool false) := hd.cell 0
  have HX := Lib.hid hx; have HZ := Lib.hid hz
  have hne2 : E ≠ X := fun e => hne e.symm
  clear he hd hx hz hn
  refine callsD_of_wpS Tryz.func60 rfl fun c₀ cs hu => ?_
  apply wpS_seq
  apply wpS_region
  simp [wpOpsS, go_sem, recoverD, hu, Tryz.ntmps60, Exit.thenS]
  apply wpS_seq
  apply wpS_region
  simp [wpOpsS, go_sem, hd0, Exit.thenS]
  refine wpS_cond (t := true) (by simp [Act.eval, Array.replicate]) ?_
  simp only [if_true]
  refine wpS_of_wp ?_
  go_wp2_with (go_at_call 50; refine (HT.out _ HE.out).mono ?_; rintro e w1 ⟨rfl, hb1⟩; have HX1 := HX.out.below hb1; have HZ1 := HZ.out.below hb1; have x0 : w1.cell? ⟨X, 0, none⟩ = some v0 := HX1.cell 0; have x1 := HX1.free 0; have z0 : w1.cell? ⟨E, 0, none⟩ = some .nilIface := HZ1.cell 0; have z1 := HZ1.free 0; clear HX1 HZ1)
  simp [bodyPostS, results, Tryz.results60]
  exact ⟨w1, hb1, rfl⟩
set_option maxHeartbeats 1000000 in
theorem try_dies_read (p : Addr) (n : Int) (hn : 1 ≤ n ∧ n ≤ 14) (ea : Int → Addr) (w : World) (he : Errs ea w) (h : ∀ W, Below w.heap.size w W → Calls Tryz.prog 32 #[.pointer (some p)] W (Fails (errV (ea n)) W)) :
    Calls Tryz.prog 31 #[.func (.func 32) #[] #[.pointer (some p)]] w (Makes (.tuple #[.slice none 0 0, errV (ea n)]) w) := by
  have hmf : ∀ (fn : Fn) (first cap : Array Value) (w : World), (Instr.makeFunc fn first cap).run Tryz.prog w = .ok (.func fn first cap) w := fun _ _ _ _ => rfl
  have H := Lib.hid h
  have HR := Lib.hid he
  clear h he
  go_enter_defers Tryz.func31, Tryz.ntmps31
  go_wp2_with fail
  refine (H.out _ (by go_grown)).mono ?_
  rintro e w1 ⟨rfl, hb1⟩
  have HB : Below w.heap.size w w1 := below_then (by go_grown) hb1
  have HX := (((Blk.fresh w #[.slice none 0 0] 33 _ rfl).below (by go_grown)).below hb1 : Blk w1 w.heap.size _)
  have HE := (((Blk.fresh (w.alloc (.cells #[.slice none 0 0] 33)) #[.nilIface] 26 (w.heap.size + 1) (by simp)).below (by go_grown)).below hb1 : Blk w1 (w.heap.size + 1) _)
  have HD := ((Blk.fresh ((w.alloc (.cells #[.slice none 0 0] 33)).alloc (.cells #[.nilIface] 26)) #[.bool false] 4 (w.heap.size + 1 + 1) (by simp)).below hb1 : Blk w1 (w.heap.size + 1 + 1) _)
  have HER := HR.out.below HB
  refine leaves_cons (f := 60) (args := #[.pointer (some ⟨w.heap.size + 1 + 1, 0, none⟩), .pointer (some ⟨w.heap.size, 0, none⟩), .pointer (some ⟨w.heap.size + 1, 0, none⟩)]) (by simp) (by simp [go_sem]) ?_
  refine (catch_took_v _ _ _ _ n hn ea _ _ HD HX HE (by omega) HER).mono ?_
  rintro e u' w'' ⟨rfl, rfl, w2, hb2, rfl⟩
  have x0 : w1.cell? ⟨w.heap.size, 0, none⟩ = some (.slice none 0 0) := HX.cell 0
  have hx2 := HX.below hb2
  have he2 := HE.below hb2
  have x2 : w2.cell? ⟨w.heap.size, 0, none⟩ = some (.slice none 0 0) := hx2.cell 0
  have e2 : w2.cell? ⟨w.heap.size + 1, 0, none⟩ = some .nilIface := he2.cell 0
  have x3 := hx2.free 0
  have e3 := he2.free 0
  simp [Leaves, settle, results, Tryz.results31, go_sem, x2, e2, x3, e3]
  exact ⟨rfl, ((HB.trans (hb2.mono HB.size)).setCell (p := ⟨w.heap.size, 0, none⟩) (Nat.le_refl _) _).setCell (p := ⟨w.heap.size + 1, 0, none⟩) (by dsimp only; omega) _⟩
set_option maxHeartbeats 1000000 in
theorem try_gives_read (p : Addr) (es : List Ev) (w : World) (h : ∀ W, Below w.heap.size w W → Calls Tryz.prog 32 #[.pointer (some p)] W (MakesV es W)) :
    Calls Tryz.prog 31 #[.func (.func 32) #[] #[.pointer (some p)]] w (MakesVN es w) := by
  have hmf : ∀ (fn : Fn) (first cap : Array Value) (w : World), (Instr.makeFunc fn first cap).run Tryz.prog w = .ok (.func fn first cap) w := fun _ _ _ _ => rfl
  have H := Lib.hid h
  clear h
  go_enter_defers Tryz.func31, Tryz.ntmps31
  go_wp2_with fail
  refine (H.out _ (by go_grown)).mono ?_
  rintro e w1 ⟨v, rfl, hown, hb1⟩
  obtain ⟨av, cv, rfl⟩ := hown.slice
  have hown3 : OwnV (w.heap.size + 3) (.slice av es.length cv) es w1 := hown.mono (by simp)
  have HOWN := Lib.hid hown3
  clear hown hown3
  have HX := (((Blk.fresh w #[.slice none 0 0] 33 _ rfl).below (by go_grown)).below hb1 : Blk w1 w.heap.size _)
  have HE := (((Blk.fresh (w.alloc (.cells #[.slice none 0 0] 33)) #[.nilIface] 26 (w.heap.size + 1) (by simp)).below (by go_grown)).below hb1 : Blk w1 (w.heap.size + 1) _)
  have HD := ((Blk.fresh ((w.alloc (.cells #[.slice none 0 0] 33)).alloc (.cells #[.nilIface] 26)) #[.bool false] 4 (w.heap.size + 1 + 1) (by simp)).below hb1 : Blk w1 (w.heap.size + 1 + 1) _)
  have x0 : w1.cell? ⟨w.heap.size, 0, none⟩ = some (.slice none 0 0) := HX.cell 0
  have x1 := HX.free 0
  have e0 : w1.cell? ⟨w.heap.size + 1, 0, none⟩ = some .nilIface := HE.cell 0
  have e1 := HE.free 0
  have d0 : w1.cell? ⟨w.heap.size + 1 + 1, 0, none⟩ = some (.bool false) := HD.cell 0
  have d1 := HD.free 0
  clear HX HE HD
  have HB : Below w.heap.size w w1 := below_then (by go_grown) hb1
  go_wp2_with fail
  refine leaves_cons (f := 60) (args := #[.pointer (some ⟨w.heap.size + 1 + 1, 0, none⟩), .pointer (some ⟨w.heap.size, 0, none⟩), .pointer (some ⟨w.heap.size + 1, 0, none⟩)]) (by simp) (by simp [go_sem]) ?_
  refine (catch_idle_v _ _ _ _ (by simp [go_sem, d0, x0, e0])).mono ?_
  rintro e u' w'' ⟨rfl, rfl, rfl⟩
  simp [Leaves, settle, results, Tryz.results31, go_sem, d0, x0, e0, d1, x1, e1]
  exact ⟨_, rfl, (((((HOWN.out.store (b := w.heap.size) (by omega) 0 _).store (b := w.heap.size + 1 + 1) (by omega) 0 _).store (b := w.heap.size) (by omega) 0 _).store (b := w.heap.size + 1) (by omega) 0 _).mono (by omega)), (((HB.setCell (p := ⟨w.heap.size, 0, none⟩) (Nat.le_refl _) _).setCell (p := ⟨w.heap.size + 1 + 1, 0, none⟩) (by dsimp only; omega) _).setCell (p := ⟨w.heap.size, 0, none⟩) (Nat.le_refl _) _).setCell (p := ⟨w.heap.size + 1, 0, none⟩) (by dsimp only; omega) _⟩
end Go.Proofs.YthjdaehiebcoaaaGreatDoor
