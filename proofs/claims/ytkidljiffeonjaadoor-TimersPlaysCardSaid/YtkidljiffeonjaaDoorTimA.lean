/- The clock of package timers in memory: its block, its map's elements; New, Now, Len, Tick. -/
import Derived.Test.YtkidljiffeonjaaDoorRows
import Derived.WalkKit
import Derived.WalkSpells
import Derived.WalkLawsBesides
import Derived.BigQuiet
import Derived.Deep.QuietTactic
import Derived.StillTailTactics
import Derived.Handy
import Derived.Lib.Hide
import Derived.Test.YtkidljiffeonjaaDoorFlF
import Derived.Test.YtkidljiffeonjaaDoorBlk
import Derived.Maps.OwnSet
import Derived.Maps.OwnOps
set_option linter.unusedSimpArgs false
set_option linter.unusedVariables false
namespace Go.Proofs.YtkidljiffeonjaaDoor
open Go.RowKit Go.Maps

theorem store_float {P : Program} {w : World} {a : Addr} {m : Mode} (k : FloatKind) (x : Nat) : (store a (.float k x) m).run P w = stored P w a (.float k x) m := run_store P w a _ m rfl
attribute [local go_sem] store_float
structure MTimer where
  key : ByteArray
  at_ : Nat
  times : Int
  base : Nat
  most : Nat
abbrev timerV (t : MTimer) : Value := .agg #[.string t.key, .float .f64 t.at_, .int .i64 t.times, .float .f64 t.base, .float .f64 t.most]
def timerD {H : Type} (t : MTimer) : DataW H := .agg [.lit (.string t.key.data.toList), .lit (.float .f64 t.at_), .lit (.int .i64 t.times), .lit (.float .f64 t.base), .lit (.float .f64 t.most)]
/-- how an element of the clock's map reads -/
def strOf : Value → Option ByteArray
  | .string k => some k
  | _ => none
def fltOf : Value → Option Nat
  | .float .f64 a => some a
  | _ => none
def intgOf : Value → Option Int
  | .int .i64 a => some a
  | _ => none
def timR {H : Type} (v : Value) : Option (DataW H × List MemPlace) :=
  match v with
  | .agg cs =>
    match cs.toList with
    | [x0, x1, x2, x3, x4] => (strOf x0).bind fun k => (fltOf x1).bind fun a => (intgOf x2).bind fun n => (fltOf x3).bind fun b => (fltOf x4).bind fun m => some (timerD ⟨k, a, n, b, m⟩, [])
    | _ => none
  | _ => none
theorem timR_mk {H : Type} (t : MTimer) : timR (H := H) (timerV t) = some (timerD t, []) := rfl
theorem bytes_inj {a b : ByteArray} (h : a.data.toList = b.data.toList) : a = b := by
  cases a; cases b
  simp only [ByteArray.mk.injEq]
  exact Array.toList_inj.1 h
theorem strOf_some {v : Value} {k : ByteArray} (h : strOf v = some k) : v = .string k := by
  cases v <;> simp [strOf] at h
  rw [h]
theorem fltOf_some {v : Value} {k : Nat} (h : fltOf v = some k) : v = .float .f64 k := by
  cases v with
  | float q x => cases q <;> simp [fltOf] at h; rw [h]
  | _ => simp [fltOf] at h
theorem intgOf_some {v : Value} {k : Int} (h : intgOf v = some k) : v = .int .i64 k := by
  cases v with
  | int q x => cases q <;> simp [intgOf] at h; rw [h]
  | _ => simp [intgOf] at h
theorem timR_inv {H : Type} {v : Value} {t : MTimer} {ps : List MemPlace} (h : timR (H := H) v = some (timerD t, ps)) : v = timerV t := by
  cases v with
  | agg cs =>
    obtain ⟨l⟩ := cs
    simp only [timR] at h
    match l, h with
    | [x0, x1, x2, x3, x4], h =>
      simp only [Option.bind_eq_some_iff] at h
      obtain ⟨k, e0, a, e1, n, e2, b, e3, m, e4, h⟩ := h
      rw [strOf_some e0, fltOf_some e1, intgOf_some e2, fltOf_some e3, fltOf_some e4]
      simp only [timerD, Option.some.injEq, Prod.mk.injEq, DataW.agg.injEq, List.cons.injEq, DataW.lit.injEq, Lit.string.injEq, Lit.float.injEq, Lit.int.injEq, and_true, true_and] at h
      obtain ⟨⟨h1, h2, h3, h4, h5⟩, _⟩ := h
      rw [bytes_inj h1, h2, h3, h4, h5]
  | _ => simp [timR] at h
/-- a clock at c: its time, its map in block b -/
structure ClockIn (c b n : Nat) (now : Nat) (D : DataW Unit) (w : World) : Prop where
  blk : Blk w c #[.float .f64 now, .map (some b)]
  own : w.ownsMap Tryd.prog 9 timR b n D
  top : now ≤ 9218868437227405312
  ne : b ≠ c

theorem now_of (c b n now : Nat) (D : DataW Unit) (w : World) (h : ClockIn c b n now D w) : Calls Tryd.prog 37 #[.pointer (some ⟨c, 0, none⟩)] w (Gives (.float .f64 now) w) := by
  have h0 : w.cell? ⟨c, 0, none⟩ = some (.float .f64 now) := h.blk.cell 0
  clear h
  go_enter Tryd.func37, Tryd.ntmps37
  go_wp2
  go_ret
  exact ⟨rfl, rfl⟩
theorem tick_yes (c b n now y : Nat) (D : DataW Unit) (w : World) (h : ClockIn c b n now D w) (hy : F64 y) (dy : fdelay y = true) : Calls Tryd.prog 34 #[.pointer (some ⟨c, 0, none⟩), flV y] w fun e w' => e = .returned .nilIface ∧ w' = w.setCell ⟨c, 0, none⟩ (.float .f64 (fsum now (fplain y))) := by
  obtain ⟨f1, d1, e1⟩ := delay_of_le now h.top
  have hL := fun W => later_yes now y f1 hy d1 dy W
  rw [e1] at hL
  have HL := Lib.hid hL
  generalize fsum now (fplain y) = r at *
  have h0 : w.cell? ⟨c, 0, none⟩ = some (.float .f64 now) := h.blk.cell 0
  have h1 := h.blk.free 0
  clear h hL hy dy f1 d1 e1
  go_enter Tryd.func34, Tryd.ntmps34
  go_wp2_with fail
  refine (HL.out _).mono ?_; rintro e w1 ⟨rfl, rfl⟩
  go_wp2_with fail
  go_ret
  exact ⟨rfl, rfl⟩
theorem tick_no (c b n now y : Nat) (D : DataW Unit) (a : Addr) (w : World) (h : ClockIn c b n now D w) (hy : F64 y) (dy : fdelay y = false) (he : ErrIs w 0 a) : Calls Tryd.prog 34 #[.pointer (some ⟨c, 0, none⟩), flV y] w (Makes (errV a) w) := by
  obtain ⟨f1, d1, _⟩ := delay_of_le now h.top
  have HL := Lib.hid (fun W hW => later_no now y f1 hy d1 dy a W hW)
  have HE := Lib.hid he
  have h0 : w.cell? ⟨c, 0, none⟩ = some (.float .f64 now) := h.blk.cell 0
  clear h hy dy f1 d1 he
  go_enter Tryd.func34, Tryd.ntmps34
  go_wp2_with fail
  refine (HL.out _ HE.out).mono ?_; rintro e w1 ⟨rfl, hb1⟩
  go_wp2_with fail
  go_ret
  exact ⟨rfl, hb1⟩
theorem ClockIn.ticked {c b n now : Nat} {D : DataW Unit} {w : World} (h : ClockIn c b n now D w) (r : Nat) (hr : r ≤ 9218868437227405312) (hk : (w.setCell ⟨c, 0, none⟩ (.float .f64 r)).ownsMap Tryd.prog 9 timR b n D) (hb : Blk (w.setCell ⟨c, 0, none⟩ (.float .f64 r)) c #[.float .f64 r, .map (some b)]) : ClockIn c b n r D (w.setCell ⟨c, 0, none⟩ (.float .f64 r)) := ⟨hb, hk, hr, h.ne⟩
end Go.Proofs.YtkidljiffeonjaaDoor
