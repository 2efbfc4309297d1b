/- The clock of package timers: Set where there is room. -/
import Derived.Test.YtkidljiffeonjaaDoorRows
import Derived.WalkKit
import Derived.WalkSpells
import Derived.WalkLawsBesides
import Derived.BigQuiet
import Derived.Deep.QuietTactic
import Derived.StillTailTactics
import Derived.Handy
import Derived.Lib.Hide
import Derived.Test.YtkidljiffeonjaaDoorTimE
set_option linter.unusedSimpArgs false
set_option linter.unusedVariables false
namespace Go.Proofs.YtkidljiffeonjaaDoor
open Go.RowKit Go.Maps
attribute [local go_sem] store_float

set_option maxRecDepth 100000 in
set_option maxHeartbeats 1000000 in
theorem set_there (c b now : Nat) (L : List MTimer) (k : ByteArray) (x y : Nat) (t : MTimer) (w : World) (h : ClockAt c b now L w) (hk : k.size ≤ maxLen) (hf : tfind L k = some t) (hl : L.length < maxLen) (hx : F64 x) (hy : F64 y) (dx : fdelay x = true) (dy : fdelay y = true) :
    Calls Tryd.prog 32 #[.pointer (some ⟨c, 0, none⟩), .string k, flV x, flV y] w fun e w' => e = .returned .nilIface ∧ ClockAt c b now (tput L (tnew now k x y)) w' ∧ Two c b w w' := by
  have H1 := Lib.hid (fun W => delay_yes x hx dx W)
  have H2 := Lib.hid (fun W => delay_yes y hy dy W)
  have HP := Lib.hid (fun W (hW : ClockAt c b now L W) => put_of c b now L k 0 x y 0 W hW hl hk (Nat.zero_le _) hx dx hy dy)
  have HA := Lib.hid h
  obtain ⟨D, hC, hD, hat, hg⟩ := h.find k
  rw [hf] at hg hat
  have h1 : w.cell? ⟨c, 1, none⟩ = some (.map (some b)) := hC.blk.cell 1
  have HO := Lib.hid hC.own
  have Hat := Lib.hid hat
  unfold tnew
  clear hC hD h hat hx hy dx dy hf
  go_enter Tryd.func32, Tryd.ntmps32
  go_wp2_with fail
  refine (H1.out _).mono ?_; rintro e w1 ⟨rfl, rfl⟩
  go_wp2_with fail
  refine (H2.out _).mono ?_; rintro e w1 ⟨rfl, rfl⟩
  go_wp2_with (at_lookup; refine lookup_timer rfl _ _ rfl b L.length D rfl HO.out (.string k) _ rfl (Go.WideMaps.keyOf_string_mk Tryd.underlying9 hk) t Hat.out ?_; rw [hg])
  have hB := (Below.refl w.heap.size w).alloc (Nat.le_refl _) (.cells #[.string t.key, .float .f64 t.at_, .int .i64 t.times, .float .f64 t.base, .float .f64 t.most] 135)
  refine (HP.out _ (HA.out.below hB)).mono ?_
  rintro e w1 ⟨rfl, hc1, h21⟩
  have H1 := Lib.hid hc1
  have H2 := Lib.hid h21
  clear hc1 h21
  go_wp2_with fail
  go_ret
  exact ⟨rfl, H1.out, (Two.of_below hB).trans H2.out⟩
set_option maxRecDepth 100000 in
set_option maxHeartbeats 1000000 in
theorem set_room (c b now : Nat) (L : List MTimer) (k : ByteArray) (x y : Nat) (w : World) (h : ClockAt c b now L w) (hk : k.size ≤ maxLen) (hf : tfind L k = none) (hl : L.length < 64) (hx : F64 x) (hy : F64 y) (dx : fdelay x = true) (dy : fdelay y = true) :
    Calls Tryd.prog 32 #[.pointer (some ⟨c, 0, none⟩), .string k, flV x, flV y] w fun e w' => e = .returned .nilIface ∧ ClockAt c b now (tput L (tnew now k x y)) w' ∧ Two c b w w' := by
  have H1 := Lib.hid (fun W => delay_yes x hx dx W)
  have H2 := Lib.hid (fun W => delay_yes y hy dy W)
  have HP := Lib.hid (fun W (hW : ClockAt c b now L W) => put_of c b now L k 0 x y 0 W hW (by unfold maxLen; omega) hk (Nat.zero_le _) hx dx hy dy)
  have HA := Lib.hid h
  obtain ⟨D, hC, hD, hat, hg⟩ := h.find k
  rw [hf] at hg hat
  have h1 : w.cell? ⟨c, 1, none⟩ = some (.map (some b)) := hC.blk.cell 1
  have h2 := fun o => (hC.blk.alloc o).cell 1
  have hs := hD.size
  have hge : ¬ ((L.length : Nat) : Int) ≥ 64 := by omega
  have hlen := fun o ty => (hC.own.alloc o).len Tryd.underlying131 ty
  rw [hs] at hlen
  have HO := Lib.hid hC.own
  have Hat := Lib.hid hat
  unfold tnew
  clear hC hD h hat hx hy dx dy hf hs hl
  go_enter Tryd.func32, Tryd.ntmps32
  go_wp2_with fail
  refine (H1.out _).mono ?_; rintro e w1 ⟨rfl, rfl⟩
  go_wp2_with fail
  refine (H2.out _).mono ?_; rintro e w1 ⟨rfl, rfl⟩
  go_wp2_with (at_lookup; refine lookup_timer rfl _ _ rfl b L.length D rfl HO.out (.string k) _ rfl (Go.WideMaps.keyOf_string_mk Tryd.underlying9 hk) timer0 Hat.out ?_; rw [hg])
  have hB := (Below.refl w.heap.size w).alloc (Nat.le_refl _) (.cells #[.string timer0.key, .float .f64 timer0.at_, .int .i64 timer0.times, .float .f64 timer0.base, .float .f64 timer0.most] 135)
  refine (HP.out _ (HA.out.below hB)).mono ?_
  rintro e w1 ⟨rfl, hc1, h21⟩
  have H1 := Lib.hid hc1
  have H2 := Lib.hid h21
  clear hc1 h21
  go_wp2_with fail
  go_ret
  exact ⟨rfl, H1.out, (Two.of_below hB).trans H2.out⟩
end Go.Proofs.YtkidljiffeonjaaDoor
