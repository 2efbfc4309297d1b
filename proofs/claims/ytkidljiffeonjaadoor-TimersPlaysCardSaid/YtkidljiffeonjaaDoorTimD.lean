/- The clock of package timers: New, Tick, Len, Set, Again, Drop. -/
import Derived.Test.YtkidljiffeonjaaDoorRows
import Derived.WalkKit
import Derived.WalkSpells
import Derived.WalkLawsBesides
import Derived.BigQuiet
import Derived.Deep.QuietTactic
import Derived.StillTailTactics
import Derived.Handy
import Derived.Lib.Hide
import Derived.Test.YtkidljiffeonjaaDoorTimC
set_option linter.unusedSimpArgs false
set_option linter.unusedVariables false
namespace Go.Proofs.YtkidljiffeonjaaDoor
open Go.RowKit Go.Maps
attribute [local go_sem] store_float

theorem ClockAt.find {c b now : Nat} {L : List MTimer} {w : World} (h : ClockAt c b now L w) (k : ByteArray) : ∃ D, ClockIn c b L.length now D w ∧ Clk D L ∧ D.atKey (.string k.data.toList) (timerD timer0) = timerD ((tfind L k).getD timer0) ∧ Maps.has D (.string k.data.toList) = (tfind L k).isSome := by
  obtain ⟨D, h1, h2⟩ := h.ex
  refine ⟨D, h2, h1, ?_, h1.has k⟩
  rw [h1.at_]
  cases tfind L k <;> rfl
/-- New -/
def ClockNew (w : World) (e : Ending) (w' : World) : Prop := ∃ c b, e = .returned (.pointer (some ⟨c, 0, none⟩)) ∧ ClockAt c b 0 [] w' ∧ Below w.heap.size w w' ∧ w.heap.size ≤ c ∧ w.heap.size ≤ b
set_option maxRecDepth 100000 in
theorem new_of (w : World) : Calls Tryd.prog 31 #[] w (ClockNew w) := by
  have hmm := @run_makeMap Tryd.prog
  go_enter Tryd.func31, Tryd.ntmps31
  go_wp2_with fail
  go_ret
  have hM := World.ownsMap_made (H := Unit) w Tryd.prog 9 timR
  refine ⟨w.heap.size + 1, w.heap.size, rfl, ⟨⟨_, Clk.new, ⟨?_, hM.alloc _, by omega, by omega⟩⟩, by simp⟩, by go_grown, by omega, Nat.le_refl _⟩
  exact Blk.fresh _ _ _ _ (by simp)
set_option maxRecDepth 100000 in
theorem drop_of (c b now : Nat) (L : List MTimer) (k : ByteArray) (w : World) (h : ClockAt c b now L w) (hk : k.size ≤ maxLen) :
    Calls Tryd.prog 40 #[.pointer (some ⟨c, 0, none⟩), .string k] w fun e w' => e = .returned (.bool (tfind L k).isSome) ∧ ClockAt c b now (tdel L k) w' ∧ Two c b w w' := by
  obtain ⟨D, hC, hD, hat, hg⟩ := h.find k
  have hG := Lib.hid h.good
  clear h
  have h1 : w.cell? ⟨c, 1, none⟩ = some (.map (some b)) := hC.blk.cell 1
  have hcl := hC.blk.lt
  have HO := Lib.hid hC.own
  have HC := Lib.hid hC
  have HD := Lib.hid hD
  have Hat := Lib.hid hat
  have Hg := Lib.hid hg
  clear hC hD hat hg
  go_enter Tryd.func40, Tryd.ntmps40
  go_wp2_with (first
    | (at_lookup; refine lookup_timer rfl _ _ rfl b L.length D rfl HO.out (.string k) _ rfl (Go.WideMaps.keyOf_string_mk Tryd.underlying9 hk) _ Hat.out ?_)
    | (at_delete; refine wpList_delete_own _ rfl _ _ 131 9 rfl 135 (string_keyed Tryd.underlying9) Tryd.underlying131 timR b L.length D rfl (HO.out.alloc _) (.string k) _ rfl (Go.WideMaps.keyOf_string_mk Tryd.underlying9 hk) ?_; intro w2 hown2 hturn2; have HW := Lib.hid hown2; have HT := Lib.hid hturn2.grown; clear hown2 hturn2))
  go_ret
  exact ⟨by rw [Hg.out]; rfl, ⟨⟨_, HD.out.del k, HC.out.put (by go_grown) (own_tight HW.out _ (HD.out.del k).size) HT.out⟩, fun t ht => hG.out t (tdel_mem ht)⟩, (Two.of_below (by go_grown)).trans (Two.grown HT.out)⟩

theorem tick_at (c b now y : Nat) (L : List MTimer) (w : World) (h : ClockAt c b now L w) (hy : F64 y) (dy : fdelay y = true) : Calls Tryd.prog 34 #[.pointer (some ⟨c, 0, none⟩), flV y] w fun e w' => e = .returned .nilIface ∧ ClockAt c b (fsum now (fplain y)) L w' ∧ Two c b w w' := by
  obtain ⟨D, hD, hC⟩ := h.ex
  refine (tick_yes c b _ now y D w hC hy dy).mono ?_
  rintro e w1 ⟨rfl, rfl⟩
  refine ⟨rfl, ⟨⟨D, hD, hC.tick _ (fsum_some now _ hC.top (plain_le y dy)).2⟩, h.good⟩, rfl, rfl, rfl, by simp, fun k _ hc _ => Below.heap_setCell w ⟨c, 0, none⟩ _ k hc⟩
theorem tick_bad (c b now y : Nat) (L : List MTimer) (a : Addr) (w : World) (h : ClockAt c b now L w) (hy : F64 y) (dy : fdelay y = false) (he : ErrIs w 0 a) : Calls Tryd.prog 34 #[.pointer (some ⟨c, 0, none⟩), flV y] w (Makes (errV a) w) := by
  obtain ⟨D, hD, hC⟩ := h.ex
  exact tick_no c b _ now y D a w hC hy dy he
theorem now_at (c b now : Nat) (L : List MTimer) (w : World) (h : ClockAt c b now L w) : Calls Tryd.prog 37 #[.pointer (some ⟨c, 0, none⟩)] w (Gives (.float .f64 now) w) := by
  obtain ⟨D, hD, hC⟩ := h.ex
  exact now_of c b _ now D w hC
theorem len_at (c b now : Nat) (L : List MTimer) (w : World) (h : ClockAt c b now L w) : Calls Tryd.prog 33 #[.pointer (some ⟨c, 0, none⟩)] w (Gives (.int .i64 (L.length : Nat)) w) := by
  obtain ⟨D, hD, hC⟩ := h.ex
  have := len_of c b _ now D w hC
  rwa [hD.size] at this
theorem at_at (c b now : Nat) (L : List MTimer) (k : ByteArray) (w : World) (h : ClockAt c b now L w) (hk : k.size ≤ maxLen) :
    Calls Tryd.prog 36 #[.pointer (some ⟨c, 0, none⟩), .string k] w (Makes (.tuple #[.float .f64 ((tfind L k).getD timer0).at_, .int .i64 ((tfind L k).getD timer0).times, .bool (tfind L k).isSome]) w) := by
  obtain ⟨D, hC, hD, hat, hg⟩ := h.find k
  exact at_of c b _ now D k _ _ w hC hk hat hg
set_option maxRecDepth 100000 in
theorem again_none (c b now : Nat) (L : List MTimer) (k : ByteArray) (a : Addr) (w : World) (h : ClockAt c b now L w) (hk : k.size ≤ maxLen) (hf : tfind L k = none) (he : ErrIs w 7 a) :
    Calls Tryd.prog 39 #[.pointer (some ⟨c, 0, none⟩), .string k] w (Makes (errV a) w) := by
  obtain ⟨D, hC, hD, hat, hg⟩ := h.find k
  rw [hf] at hg hat
  have h1 : w.cell? ⟨c, 1, none⟩ = some (.map (some b)) := hC.blk.cell 1
  have hE := fun o => he.below ((Below.refl w.heap.size w).alloc (Nat.le_refl _) o)
  unfold ErrIs at hE he
  have HO := Lib.hid hC.own
  have Hat := Lib.hid hat
  clear hC hD h hat
  go_enter Tryd.func39, Tryd.ntmps39
  go_wp2_with (at_lookup; refine lookup_timer rfl _ _ rfl b L.length D rfl HO.out (.string k) _ rfl (Go.WideMaps.keyOf_string_mk Tryd.underlying9 hk) timer0 Hat.out ?_; rw [hg])
  go_ret
  exact ⟨rfl, by go_grown⟩
end Go.Proofs.YtkidljiffeonjaaDoor
