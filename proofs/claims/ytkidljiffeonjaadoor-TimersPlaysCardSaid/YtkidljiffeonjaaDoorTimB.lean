/- The clock of package timers in memory: Len, At; a timer looked up. -/
import Derived.Test.YtkidljiffeonjaaDoorRows
import Derived.WalkKit
import Derived.WalkSpells
import Derived.WalkLawsBesides
import Derived.BigQuiet
import Derived.Deep.QuietTactic
import Derived.StillTailTactics
import Derived.Handy
import Derived.Lib.Hide
import Derived.Test.YtkidljiffeonjaaDoorTimA
import Derived.StringKeys
set_option linter.unusedSimpArgs false
set_option linter.unusedVariables false
namespace Go.Proofs.YtkidljiffeonjaaDoor
open Go.RowKit Go.Maps
attribute [local go_sem] store_float

theorem grown_set (W : World) (b i : Nat) (v : Value) : W.grownBy (W.setCell ⟨b, i, none⟩ v) (some b) :=
  ⟨rfl, rfl, rfl, by simp, fun k _ hk => Below.heap_setCell W ⟨b, i, none⟩ v k (fun e => hk (congrArg some e))⟩
theorem ClockIn.tick {c b n now : Nat} {D : DataW Unit} {w : World} (h : ClockIn c b n now D w) (r : Nat) (hr : r ≤ 9218868437227405312) : ClockIn c b n r D (w.setCell ⟨c, 0, none⟩ (.float .f64 r)) := by
  refine ⟨?_, h.own.kept (grown_set w c 0 _) (fun e => h.ne (by injection e)), hr, h.ne⟩
  refine ⟨by simpa using h.blk.lt, fun j => ?_, fun j => by rw [World.frozen?_setCell]; exact h.blk.free j⟩
  by_cases hj : j = 0
  · subst hj
    have h1 : w.cell? ⟨c, 0, none⟩ = some (.float .f64 now) := h.blk.cell 0
    rw [World.cell?_setCell_same (h := h1)]
    rfl
  · rw [World.cell?_setCell_other (h := by intro e; injection e with _ e2; exact hj e2.symm), h.blk.cell]
    match j, hj with
    | j + 1, _ => rfl
def timer0 : MTimer := ⟨ByteArray.empty, 0, 0, 0, 0⟩
theorem zeroTimer (w : World) : (zeroValue 135).run Tryd.prog w = .ok (timerV timer0) w := by kernel_rfl
theorem lookup_timer {w : World} {ops : Array Oper} {rest : List Oper} {o : Oper} {a : Act} {Q : Exit → Act → World → Prop} (hg : o.guard = none) (m x : Operand) (hop : o.op = Op.lookup 131 m x true) (b n : Nat) (D : DataW Unit)
    (hm : a.eval m = .map (some b)) (hown : w.ownsMap Tryd.prog 9 timR b n D) (key : Value) (kl : Lit) (hx : a.eval x = key) (hkey : keyOf Tryd.prog 9 key = some kl) (t : MTimer) (hat : D.atKey kl (timerD timer0) = timerD t)
    (hK : wpList Tryd.prog ops Q rest (a.put o.dst (.tuple #[timerV t, .bool (Maps.has D kl)])) w) : wpList Tryd.prog ops Q (o :: rest) a w := by
  refine wpList_lookup_own_ok (w := w) hg m x 131 hop 9 135 (string_keyed Tryd.underlying9) Tryd.underlying131 timR (zeroTimer w) (timerD timer0) [] (timR_mk timer0) b n D hm hown key kl hx hkey (fun v ps h => ?_)
  rw [hat] at h
  rw [timR_inv h]
  exact hK
set_option maxRecDepth 100000 in
theorem len_of (c b n now : Nat) (D : DataW Unit) (w : World) (h : ClockIn c b n now D w) : Calls Tryd.prog 33 #[.pointer (some ⟨c, 0, none⟩)] w (Gives (.int .i64 (Maps.size D)) w) := by
  have h0 : w.cell? ⟨c, 1, none⟩ = some (.map (some b)) := h.blk.cell 1
  have HO := Lib.hid h.own
  clear h
  go_enter Tryd.func33, Tryd.ntmps33
  go_wp2_with (at_len; refine wpList_len_own _ rfl _ 131 rfl 9 135 Tryd.underlying131 timR b n D rfl HO.out ?_)
  go_ret
  exact ⟨rfl, rfl⟩
set_option maxRecDepth 100000 in
theorem at_of (c b n now : Nat) (D : DataW Unit) (key : ByteArray) (t : MTimer) (g : Bool) (w : World) (h : ClockIn c b n now D w) (hk : key.size ≤ maxLen) (hat : D.atKey (.string key.data.toList) (timerD timer0) = timerD t) (hg : Maps.has D (.string key.data.toList) = g) :
    Calls Tryd.prog 36 #[.pointer (some ⟨c, 0, none⟩), .string key] w (Makes (.tuple #[.float .f64 t.at_, .int .i64 t.times, .bool g]) w) := by
  have h0 : w.cell? ⟨c, 1, none⟩ = some (.map (some b)) := h.blk.cell 1
  have HO := Lib.hid h.own
  clear h
  go_enter Tryd.func36, Tryd.ntmps36
  go_wp2_with (at_lookup; go_loud (refine lookup_timer rfl _ _ rfl b n D rfl HO.out (.string key) _ rfl (Go.WideMaps.keyOf_string_mk Tryd.underlying9 hk) t hat ?_))
  go_region
  all_goals go_wp2
  all_goals exact bodyPost_ret (v := .tuple #[.float .f64 t.at_, .int .i64 t.times, .bool g]) (by simp [results, Tryd.results36, go_sem, hg]) rfl ⟨rfl, by go_grown⟩
end Go.Proofs.YtkidljiffeonjaaDoor
