/- The laws' own functions of moves: one op on a pair. -/
import Derived.Test.YtkanakhlmmpapaaDoorRows
import Derived.WalkKit
import Derived.WalkSpells
import Derived.WalkLawsBesides
import Derived.BigQuiet
import Derived.Deep.QuietTactic
import Derived.StillTailTactics
import Derived.Handy
import Derived.Lib.Hide
import Derived.Test.YtkanakhlmmpapaaDoorMovM
set_option linter.unusedSimpArgs false
set_option linter.unusedVariables false
namespace Go.Proofs.YtkanakhlmmpapaaDoor
open Go.RowKit

abbrev opV (o : MOp) : Value := .agg #[.int .i64 o.what, .int .i64 o.side, .int .i64 o.kind, .int .i64 o.at_, .bool o.copies]
theorem PairGoes.alloc {B g : Nat} {v : Value} {P : MPair} {w w' : World} (h : PairGoes B g v P w w') (o : Obj) : PairGoes B g v P w (w'.alloc o) := h.then_below ((Below.refl _ _).alloc (Nat.le_refl _) o)

set_option maxRecDepth 100000 in
set_option maxHeartbeats 1600000 in
theorem ldo_of (B g : Nat) (v : Value) (P : MPair) (o : MOp) (ea : Int → Addr) (w : World) (hE : Err5 ea w) (h : PairIn B g v P w) (hO : Ok P) (hB : B ≤ w.heap.size) :
    Calls Tryd.prog 11 #[.pointer (some ⟨g, 0, none⟩), opV o] w fun e w' => e = .returned (effV (lDo P o).2) ∧ PairGoes B g v (lDo P o).1 w w' := by
  obtain ⟨wh, sd, kd, at_, cp⟩ := o
  have hb0 : Below w.heap.size w ((w.alloc (.cells #[.int .i64 wh, .int .i64 sd, .int .i64 kd, .int .i64 at_, .bool cp] 30)).alloc (.cells zeroCells8 34)) := ((Below.refl _ _).alloc (Nat.le_refl _) _).alloc (by simp) _
  have hP0 := h.rel hb0
  have hE0 := hE.below hb0
  have hgl := h.blk.lt
  have hO0 := Blk.fresh (w.alloc (.cells #[.int .i64 wh, .int .i64 sd, .int .i64 kd, .int .i64 at_, .bool cp] 30)) zeroCells8 34 (w.heap.size + 1) (by simp)
  have hvb : ∀ m, w.heap.size ≤ m → v.ownBlock ≠ some m := fun m hm e => by have := (h.own.lt m e).2; omega
  have hl : P.fl.length ≤ 1000 := by have := hO.len; omega
  have hBs : B ≤ ((w.alloc (.cells #[.int .i64 wh, .int .i64 sd, .int .i64 kd, .int .i64 at_, .bool cp] 30)).alloc (.cells zeroCells8 34)).heap.size := by simp; omega
  have hsz0 : w.heap.size + 1 < ((w.alloc (.cells #[.int .i64 wh, .int .i64 sd, .int .i64 kd, .int .i64 at_, .bool cp] 30)).alloc (.cells zeroCells8 34)).heap.size := by simp
  unfold lDo
  dsimp only [opV]
  by_cases h1 : wh = 1
  · subst h1
    rw [if_pos rfl]
    dsimp only [eff0, seat0, effV]
    have hC := pdo_of B g v P sd kd ea _ hE0 hP0 hl hBs
    obtain ⟨r, hr⟩ : ∃ r, r = errOf ea (mPDo P sd kd).2 := ⟨_, rfl⟩
    rw [← hr] at hC
    clear hr
    obtain ⟨Q, hQ⟩ : ∃ Q, Q = (mPDo P sd kd).1 := ⟨_, rfl⟩
    rw [← hQ] at hC ⊢
    have HC := Lib.hid hC; have HB0 := Lib.hid hb0; have HO0 := Lib.hid hO0; have HVB := Lib.hid hvb; have HSZ := Lib.hid hsz0
    clear hC hb0 hO0 hvb hQ hP0 hE0 hE h hO hl hsz0 hBs
    go_enter Tryd.func11, Tryd.ntmps11
    go_wp2_with fail
    refine (HC.out).mono ?_
    rintro e w1 ⟨rfl, hg1⟩
    have HG := Lib.hid hg1
    obtain ⟨v1, _, hbs1, hfr1⟩ := hg1
    have hbo := HO0.out.beside hbs1 (by omega) (HVB.out _ (by omega))
    have q2 := hbo.cell; have f2 := hbo.free; have hlt2 := hbo.lt
    clear hbo hbs1 hfr1
    go_wp2_with fail
    refine bodyPost_ret (v := .agg #[.int .i64 0, .int .i64 0, .int .i64 0, .int .i64 0, .int .i64 0, .int .i64 0, .int .i64 0, .bool false]) (by simp [results, Tryd.results11, go_sem, q2, f2]) rfl ⟨rfl, ?_⟩
    exact PairGoes.res (e := eff0) (Beside.of_below HB0.out g v) HG.out (by omega) HSZ.out (by omega) (HVB.out _ (by omega))
  rw [if_neg h1]
  by_cases h2 : wh = 2
  · subst h2
    rw [if_pos rfl]
    dsimp only [eff0, seat0, effV]
    have hC := pagain_of B g v P sd ea _ hE0 hP0 hl hBs
    obtain ⟨r, hr⟩ : ∃ r, r = Value.bool (mPAgain P sd).2 := ⟨_, rfl⟩
    rw [← hr] at hC
    clear hr
    obtain ⟨Q, hQ⟩ : ∃ Q, Q = (mPAgain P sd).1 := ⟨_, rfl⟩
    rw [← hQ] at hC ⊢
    have HC := Lib.hid hC; have HB0 := Lib.hid hb0; have HO0 := Lib.hid hO0; have HVB := Lib.hid hvb; have HSZ := Lib.hid hsz0
    clear hC hb0 hO0 hvb hQ hP0 hE0 hE h hO hl hsz0 hBs
    go_enter Tryd.func11, Tryd.ntmps11
    go_wp2_with fail
    refine (HC.out).mono ?_
    rintro e w1 ⟨rfl, hg1⟩
    have HG := Lib.hid hg1
    obtain ⟨v1, _, hbs1, hfr1⟩ := hg1
    have hbo := HO0.out.beside hbs1 (by omega) (HVB.out _ (by omega))
    have q2 := hbo.cell; have f2 := hbo.free; have hlt2 := hbo.lt
    clear hbo hbs1 hfr1
    go_wp2_with fail
    refine bodyPost_ret (v := .agg #[.int .i64 0, .int .i64 0, .int .i64 0, .int .i64 0, .int .i64 0, .int .i64 0, .int .i64 0, .bool false]) (by simp [results, Tryd.results11, go_sem, q2, f2]) rfl ⟨rfl, ?_⟩
    exact PairGoes.res (e := eff0) (Beside.of_below HB0.out g v) HG.out (by omega) HSZ.out (by omega) (HVB.out _ (by omega))
  rw [if_neg h2]
  by_cases h3 : wh = 3
  · subst h3
    rw [if_pos rfl]
    have hC := pdeliver_of B g v P at_ cp ea _ hE0 hP0 hO hBs
    obtain ⟨r, hr⟩ : ∃ r, r = errOf ea (mPDeliver P at_ cp).2.2 := ⟨_, rfl⟩
    obtain ⟨ef, hef⟩ : ∃ ef, ef = (mPDeliver P at_ cp).2.1 := ⟨_, rfl⟩
    rw [← hr] at hC
    simp only [← hef] at hC ⊢
    dsimp only [effV] at hC ⊢
    clear hr hef
    obtain ⟨Q, hQ⟩ : ∃ Q, Q = (mPDeliver P at_ cp).1 := ⟨_, rfl⟩
    rw [← hQ] at hC ⊢
    have HC := Lib.hid hC; have HB0 := Lib.hid hb0; have HO0 := Lib.hid hO0; have HVB := Lib.hid hvb; have HSZ := Lib.hid hsz0
    clear hC hb0 hO0 hvb hQ hP0 hE0 hE h hO hl hsz0 hBs h1 h2
    go_enter Tryd.func11, Tryd.ntmps11
    go_wp2_with fail
    refine (HC.out).mono ?_
    rintro e w1 ⟨rfl, hg1⟩
    have HG := Lib.hid hg1
    obtain ⟨v1, _, hbs1, hfr1⟩ := hg1
    have hbo := HO0.out.beside hbs1 (by omega) (HVB.out _ (by omega))
    have r2 := fun o => (hbo.alloc o).cell; have g2 := fun o => (hbo.alloc o).free
    clear hbo hbs1 hfr1
    go_wp2_with fail
    refine bodyPost_ret (v := .agg #[.int .i64 ef.seat.p, .int .i64 ef.seat.d, .int .i64 ef.seat.s, .int .i64 ef.seat.h, .int .i64 ef.send, .int .i64 ef.fault, .int .i64 ef.work, .bool ef.ch]) (by simp [results, Tryd.results11, go_sem, r2, g2]) rfl ⟨rfl, ?_⟩
    exact PairGoes.res (e := ef) (Beside.of_below HB0.out g v) (HG.out.alloc _) (by omega) HSZ.out (by omega) (HVB.out _ (by omega))
  rw [if_neg h3]
  by_cases h4 : wh = 4
  · subst h4
    rw [if_pos rfl]
    dsimp only [eff0, seat0, effV]
    have hC := pdrop_of B g v P at_ ea _ hE0 hP0 hl hBs
    obtain ⟨r, hr⟩ : ∃ r, r = errOf ea (mPDrop P at_).2 := ⟨_, rfl⟩
    rw [← hr] at hC
    clear hr
    obtain ⟨Q, hQ⟩ : ∃ Q, Q = (mPDrop P at_).1 := ⟨_, rfl⟩
    rw [← hQ] at hC ⊢
    have HC := Lib.hid hC; have HB0 := Lib.hid hb0; have HO0 := Lib.hid hO0; have HVB := Lib.hid hvb; have HSZ := Lib.hid hsz0
    clear hC hb0 hO0 hvb hQ hP0 hE0 hE h hO hl hsz0 hBs
    go_enter Tryd.func11, Tryd.ntmps11
    go_wp2_with fail
    refine (HC.out).mono ?_
    rintro e w1 ⟨rfl, hg1⟩
    have HG := Lib.hid hg1
    obtain ⟨v1, _, hbs1, hfr1⟩ := hg1
    have hbo := HO0.out.beside hbs1 (by omega) (HVB.out _ (by omega))
    have q2 := hbo.cell; have f2 := hbo.free; have hlt2 := hbo.lt
    clear hbo hbs1 hfr1
    go_wp2_with fail
    refine bodyPost_ret (v := .agg #[.int .i64 0, .int .i64 0, .int .i64 0, .int .i64 0, .int .i64 0, .int .i64 0, .int .i64 0, .bool false]) (by simp [results, Tryd.results11, go_sem, q2, f2]) rfl ⟨rfl, ?_⟩
    exact PairGoes.res (e := eff0) (Beside.of_below HB0.out g v) HG.out (by omega) HSZ.out (by omega) (HVB.out _ (by omega))
  rw [if_neg h4]
  dsimp only [eff0, seat0, effV]
  have t1 : (wh == 1) = false := by simpa using h1
  have t2 : (wh == 2) = false := by simpa using h2
  have t3 : (wh == 3) = false := by simpa using h3
  have t4 : (wh == 4) = false := by simpa using h4
  have HG := Lib.hid (PairGoes.same (v := v) h hb0)
  clear hb0 hO0 hvb hP0 hE0 hE h hO hl hsz0 hBs h1 h2 h3 h4
  go_enter Tryd.func11, Tryd.ntmps11
  go_wp2_with fail
  exact bodyPost_ret (v := .agg #[.int .i64 0, .int .i64 0, .int .i64 0, .int .i64 0, .int .i64 0, .int .i64 0, .int .i64 0, .bool false]) (by simp [results, Tryd.results11, go_sem]) rfl ⟨rfl, HG.out⟩
end Go.Proofs.YtkanakhlmmpapaaDoor
