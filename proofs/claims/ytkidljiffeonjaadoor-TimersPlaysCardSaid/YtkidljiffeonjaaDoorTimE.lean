/- The clock of package timers: Again, Set. -/
import Derived.Test.YtkidljiffeonjaaDoorRows
import Derived.WalkKit
import Derived.WalkSpells
import Derived.WalkLawsBesides
import Derived.BigQuiet
import Derived.Deep.QuietTactic
import Derived.StillTailTactics
import Derived.Handy
import Derived.Lib.Hide
import Derived.Test.YtkidljiffeonjaaDoorTimD
set_option linter.unusedSimpArgs false
set_option linter.unusedVariables false
namespace Go.Proofs.YtkidljiffeonjaaDoor
open Go.RowKit Go.Maps
attribute [local go_sem] store_float

def tnext (t : MTimer) : Nat := min (t.times.toNat + 1) 1000000
def tagain (now : Nat) (t : MTimer) : MTimer := ⟨t.key, tat now t.base t.most (tnext t), (tnext t : Nat), t.base, t.most⟩
def tnew (now : Nat) (k : ByteArray) (b m : Nat) : MTimer := ⟨k, tat now b m 0, 0, b, m⟩
theorem run_min_int (ts : Array TypeId) (t : TypeId) (a b : Int) (w : World) : (Builtin.min_ ts t #[.int .i64 a, .int .i64 b]).run Tryd.prog w = .ok (.int .i64 (min a b)) w := by
  by_cases h : a ≤ b
  · rw [Int.min_eq_left h]
    by_cases h' : a < b
    · simp [Builtin.min_, Builtin.min2, Result.andThen, asBool, h']
      intro h2; omega
    · have : a = b := by omega
      subst this
      simp [Builtin.min_, Builtin.min2, Result.andThen, asBool]
  · rw [Int.min_eq_right (by omega)]
    simp [Builtin.min_, Builtin.min2, Result.andThen, asBool, show ¬ a < b by omega]
    intro h2; omega
set_option maxRecDepth 100000 in
set_option maxHeartbeats 1000000 in
theorem again_yes (c b now : Nat) (L : List MTimer) (k : ByteArray) (t : MTimer) (w : World) (h : ClockAt c b now L w) (hl : L.length < maxLen) (hk : k.size ≤ maxLen) (hf : tfind L k = some t) :
    Calls Tryd.prog 39 #[.pointer (some ⟨c, 0, none⟩), .string k] w fun e w' => e = .returned .nilIface ∧ ClockAt c b now (tput L (tagain now t)) w' ∧ Two c b w w' := by
  obtain ⟨hm, rfl⟩ := tfind_some hf
  have hg0 := h.good t hm
  have HP := Lib.hid (fun W (hW : ClockAt c b now L W) => put_of c b now L t.key t.at_ t.base t.most (tnext t) W hW hl hk (Nat.min_le_right _ _) hg0.fb hg0.db hg0.fm hg0.dm)
  have HA := Lib.hid h
  obtain ⟨D, hC, hD, hat, hg⟩ := h.find t.key
  rw [hf] at hg hat
  have h1 : w.cell? ⟨c, 1, none⟩ = some (.map (some b)) := hC.blk.cell 1
  have HO := Lib.hid hC.own
  have Hat := Lib.hid hat
  have ht0 := hg0.t0
  have ht1 := hg0.t1
  have hw : wrap64 (t.times + 1) = t.times + 1 := by unfold wrap64; omega
  have hn : min (t.times + 1) 1000000 = ((tnext t : Nat) : Int) := by unfold tnext; omega
  have hmin := fun ts T (W : World) => run_min_int ts T (t.times + 1) 1000000 W
  rw [hn] at hmin
  unfold tagain
  generalize tnext t = n at *
  clear hC hD h hat hg0 hm hf hn
  go_enter Tryd.func39, Tryd.ntmps39
  go_wp2_with (at_lookup; refine lookup_timer rfl _ _ rfl b L.length D rfl HO.out (.string t.key) _ rfl (Go.WideMaps.keyOf_string_mk Tryd.underlying9 hk) t Hat.out ?_; rw [hg])
  have hB := (Below.refl w.heap.size w).alloc (Nat.le_refl _) (.cells #[.string t.key, .float .f64 t.at_, .int .i64 (n : Int), .float .f64 t.base, .float .f64 t.most] 135)
  refine (HP.out _ (HA.out.below hB)).mono ?_
  rintro e w1 ⟨rfl, hc1, h21⟩
  have H1 := Lib.hid hc1
  have H2 := Lib.hid h21
  clear hc1 h21
  go_wp2_with fail
  go_ret
  exact ⟨rfl, H1.out, (Two.of_below hB).trans H2.out⟩
/-! ### Set -/
set_option maxRecDepth 100000 in
set_option maxHeartbeats 1000000 in
theorem set_bad1 (c : Nat) (k : ByteArray) (x y : Nat) (a : Addr) (w : World) (hx : F64 x) (hy : F64 y) (dx : fdelay x = false) (he : ErrIs w 0 a) :
    Calls Tryd.prog 32 #[.pointer (some ⟨c, 0, none⟩), .string k, flV x, flV y] w (Makes (errV a) w) := by
  have HE := Lib.hid he
  cases dy : fdelay y
  · have H1 := Lib.hid (fun W hW => delay_no x hx dx a W hW)
    have H2 := Lib.hid (fun W hW => delay_no y hy dy a W hW)
    clear hx hy dx he dy
    go_enter Tryd.func32, Tryd.ntmps32
    go_wp2_with fail
    refine (H1.out _ HE.out).mono ?_; rintro e w1 ⟨rfl, hb1⟩
    go_wp2_with fail
    refine (H2.out _ (HE.out.below hb1)).mono ?_; rintro e w2 ⟨rfl, hb2⟩
    have hB := below_then hb1 hb2
    have he := HE.out.below hB
    unfold ErrIs at he
    go_wp2_with fail
    go_ret
    exact ⟨rfl, hB⟩
  · have H1 := Lib.hid (fun W hW => delay_no x hx dx a W hW)
    have H2 := Lib.hid (fun W => delay_yes y hy dy W)
    clear hx hy dx he dy
    go_enter Tryd.func32, Tryd.ntmps32
    go_wp2_with fail
    refine (H1.out _ HE.out).mono ?_; rintro e w1 ⟨rfl, hb1⟩
    go_wp2_with fail
    refine (H2.out _).mono ?_; rintro e w2 ⟨rfl, rfl⟩
    have he := HE.out.below hb1
    unfold ErrIs at he
    go_wp2_with fail
    go_ret
    exact ⟨rfl, hb1⟩
set_option maxRecDepth 100000 in
set_option maxHeartbeats 1000000 in
theorem set_bad2 (c : Nat) (k : ByteArray) (x y : Nat) (a : Addr) (w : World) (hx : F64 x) (hy : F64 y) (dx : fdelay x = true) (dy : fdelay y = false) (he : ErrIs w 0 a) :
    Calls Tryd.prog 32 #[.pointer (some ⟨c, 0, none⟩), .string k, flV x, flV y] w (Makes (errV a) w) := by
  have HE := Lib.hid he
  have H1 := Lib.hid (fun W => delay_yes x hx dx W)
  have H2 := Lib.hid (fun W hW => delay_no y hy dy a W hW)
  clear hx hy dx he dy
  go_enter Tryd.func32, Tryd.ntmps32
  go_wp2_with fail
  refine (H1.out _).mono ?_; rintro e w1 ⟨rfl, rfl⟩
  go_wp2_with fail
  refine (H2.out _ HE.out).mono ?_; rintro e w2 ⟨rfl, hb2⟩
  have he := HE.out.below hb2
  unfold ErrIs at he
  go_wp2_with fail
  go_ret
  exact ⟨rfl, hb2⟩
set_option maxRecDepth 100000 in
set_option maxHeartbeats 1000000 in
theorem set_full (c b now : Nat) (L : List MTimer) (k : ByteArray) (x y : Nat) (a : Addr) (w : World) (h : ClockAt c b now L w) (hk : k.size ≤ maxLen) (hf : tfind L k = none) (hl : 64 ≤ L.length) (hx : F64 x) (hy : F64 y) (dx : fdelay x = true) (dy : fdelay y = true) (he : ErrIs w 5 a) :
    Calls Tryd.prog 32 #[.pointer (some ⟨c, 0, none⟩), .string k, flV x, flV y] w (Makes (errV a) w) := by
  have hE := fun o => he.below ((Below.refl w.heap.size w).alloc (Nat.le_refl _) o)
  unfold ErrIs at hE
  have H1 := Lib.hid (fun W => delay_yes x hx dx W)
  have H2 := Lib.hid (fun W => delay_yes y hy dy W)
  obtain ⟨D, hC, hD, hat, hg⟩ := h.find k
  rw [hf] at hg hat
  have h1 : w.cell? ⟨c, 1, none⟩ = some (.map (some b)) := hC.blk.cell 1
  have h2 := fun o => (hC.blk.alloc o).cell 1
  have hs := hD.size
  have hge : ((L.length : Nat) : Int) ≥ 64 := by omega
  have hlen := fun o ty => (hC.own.alloc o).len Tryd.underlying131 ty
  rw [hs] at hlen
  have HO := Lib.hid hC.own
  have Hat := Lib.hid hat
  clear hC hD h hat hx hy dx dy he hf
  go_enter Tryd.func32, Tryd.ntmps32
  go_wp2_with fail
  refine (H1.out _).mono ?_; rintro e w1 ⟨rfl, rfl⟩
  go_wp2_with fail
  refine (H2.out _).mono ?_; rintro e w1 ⟨rfl, rfl⟩
  go_wp2_with (first
    | (at_lookup; refine lookup_timer rfl _ _ rfl b L.length D rfl HO.out (.string k) _ rfl (Go.WideMaps.keyOf_string_mk Tryd.underlying9 hk) timer0 Hat.out ?_; rw [hg]))
  go_ret
  exact ⟨rfl, by go_grown⟩
end Go.Proofs.YtkidljiffeonjaaDoor
