/- The clock of package timers: put. -/
import Derived.Test.YtkidljiffeonjaaDoorRows
import Derived.WalkKit
import Derived.WalkSpells
import Derived.WalkLawsBesides
import Derived.BigQuiet
import Derived.Deep.QuietTactic
import Derived.StillTailTactics
import Derived.Handy
import Derived.Lib.Hide
import Derived.Test.YtkidljiffeonjaaDoorTimP
import Derived.Maps.OwnSet
import Derived.Deep.RegionWith
import Derived.Deep.CutRange
import Derived.Maps.AppendAt
set_option linter.unusedSimpArgs false
set_option linter.unusedVariables false
namespace Go.Proofs.YtkidljiffeonjaaDoor
open Go.RowKit Go.Maps
attribute [local go_sem] store_float

/-- nothing but blocks c and b has changed -/
structure Two (c b : Nat) (w w' : World) : Prop where
  os : w'.os = w.os
  tape : w'.tape = w.tape
  output : w'.output = w.output
  size : w.heap.size ≤ w'.heap.size
  block : ∀ k, k < w.heap.size → k ≠ c → k ≠ b → w'.heap[k]? = w.heap[k]?
theorem Two.of_below {c b : Nat} {w w' : World} (h : Below w.heap.size w w') : Two c b w w' := ⟨h.os, h.tape, h.output, h.size, fun k hk _ _ => h.block k hk⟩
theorem Two.trans {c b : Nat} {w w1 w2 : World} (h1 : Two c b w w1) (h2 : Two c b w1 w2) : Two c b w w2 :=
  ⟨h2.os.trans h1.os, h2.tape.trans h1.tape, h2.output.trans h1.output, Nat.le_trans h1.size h2.size, fun k hk hc hb => (h2.block k (Nat.lt_of_lt_of_le hk h1.size) hc hb).trans (h1.block k hk hc hb)⟩
theorem Two.below {c b B : Nat} {w w' : World} (h : Two c b w w') (hB : B ≤ w.heap.size) (hc : B ≤ c) (hb : B ≤ b) : Below B w w' := ⟨h.os, h.tape, h.output, h.size, fun k hk => h.block k (by omega) (by omega) (by omega)⟩
theorem Two.grown {c b : Nat} {w w' : World} (h : w.grownBy w' (some b)) : Two c b w w' := ⟨h.os, h.tape, h.output, h.size, fun k hk _ hb => h.block k hk (fun e => hb (by injection e))⟩

structure TGood (t : MTimer) : Prop where
  key : t.key.size ≤ maxLen
  at_ : t.at_ ≤ 9218868437227405312
  t0 : 0 ≤ t.times
  t1 : t.times ≤ 1000000
  fb : F64 t.base
  db : fdelay t.base = true
  fm : F64 t.most
  dm : fdelay t.most = true
/-- a clock at c, its map at b: the time, the timers -/
structure ClockAt (c b now : Nat) (L : List MTimer) (w : World) : Prop where
  ex : ∃ D, Clk D L ∧ ClockIn c b L.length now D w
  good : ∀ t ∈ L, TGood t

theorem own_tight {w : World} {P : Program} {k : TypeId} {R : Value → Option (DataW Unit × List MemPlace)} {b n : Nat} {D : DataW Unit} (h : w.ownsMap P k R b n D) (m : Nat) (hm : Maps.size D = m) : w.ownsMap P k R b m D := by
  obtain ⟨es, clock, hb, F, hs, rfl⟩ := h
  refine ⟨es, clock, hb, F, ?_, rfl⟩
  have e1 : Maps.size (DataW.map ((es.toList.map (Go.WideElems.rg P k R)).foldr DataW.insert [])) = es.size := by simp [Maps.size, length_sorted]
  omega
theorem ClockIn.below {c b n now : Nat} {D : DataW Unit} {w w' : World} (h : ClockIn c b n now D w) (hb : Below w.heap.size w w') : ClockIn c b n now D w' :=
  ⟨h.blk.below hb, h.own.kept ⟨hb.os, hb.tape, hb.output, hb.size, fun k hk _ => hb.block k hk⟩ (row := none) (by simp), h.top, h.ne⟩
theorem ClockAt.below {c b now : Nat} {L : List MTimer} {w w' : World} (h : ClockAt c b now L w) (hb : Below w.heap.size w w') : ClockAt c b now L w' := by
  obtain ⟨D, h1, h2⟩ := h.ex
  exact ⟨⟨D, h1, h2.below hb⟩, h.good⟩
theorem ClockIn.put {c b n m now : Nat} {D D' : DataW Unit} {w w1 w2 : World} (h : ClockIn c b n now D w) (hb : Below w.heap.size w w1) (ho : w2.ownsMap Tryd.prog 9 timR b m D') (hg : w1.grownBy w2 (some b)) : ClockIn c b m now D' w2 := by
  have h1 := h.blk.below hb
  have e := hg.block c h1.lt (fun e => h.ne (by injection e with e; exact e.symm))
  exact ⟨⟨Nat.lt_of_lt_of_le h1.lt hg.size, fun i => (World.cell?_of_block (a := ⟨c, i, none⟩) e).trans (h1.cell i), fun i => (World.frozen?_of_block (a := ⟨c, i, none⟩) e).trans (h1.free i)⟩, ho, h.top, h.ne⟩
theorem bko_le (x l n : Nat) (hx : x ≤ 9218868437227405312) (hl : l ≤ 9218868437227405312) : bko x l n ≤ 9218868437227405312 := by
  unfold bko; split
  · exact hl
  · exact itD_le _ _ hx
/-- the time at which a timer of this base, these times and this limit is due -/
def tat (now b m n : Nat) : Nat := fsum now (bko (fplain b) (fplain m) n)
theorem tat_le (now b m n : Nat) (hn : now ≤ 9218868437227405312) (db : fdelay b = true) (dm : fdelay m = true) : tat now b m n ≤ 9218868437227405312 :=
  (fsum_some now _ hn (bko_le _ _ n (plain_le b db) (plain_le m dm))).2
set_option maxRecDepth 100000 in
set_option maxHeartbeats 1000000 in
theorem put_of (c b now : Nat) (L : List MTimer) (k : ByteArray) (a0 bs m n : Nat) (w : World) (h : ClockAt c b now L w) (hl : L.length < maxLen) (hk : k.size ≤ maxLen) (hn : n ≤ 1000000) (fb : F64 bs) (db : fdelay bs = true) (fm : F64 m) (dm : fdelay m = true) :
    Calls Tryd.prog 72 #[.pointer (some ⟨c, 0, none⟩), timerV ⟨k, a0, (n : Int), bs, m⟩] w fun e w' => e = .returned .nilIface ∧ ClockAt c b now (tput L ⟨k, tat now bs m n, n, bs, m⟩) w' ∧ Two c b w w' := by
  obtain ⟨D, hD, hC⟩ := h.ex
  have hG := Lib.hid h.good
  clear h
  have HB := Lib.hid (fun W => backoff_of bs m n fb fm db dm hn W)
  obtain ⟨f1, d1, e1⟩ := delay_of_le now hC.top
  obtain ⟨f2, d2, e2⟩ := delay_of_le _ (bko_le _ _ n (plain_le bs db) (plain_le m dm))
  have hL := fun W => later_yes now _ f1 f2 d1 d2 W
  rw [e1, e2] at hL
  have hle := tat_le now bs m n hC.top db dm
  unfold tat at hle
  have HL := Lib.hid hL
  have HT := Lib.hid hle
  unfold tat
  generalize bko (fplain bs) (fplain m) n = d at *
  generalize fsum now d = r at *
  have h0 : w.cell? ⟨c, 0, none⟩ = some (.float .f64 now) := hC.blk.cell 0
  have h1 : w.cell? ⟨c, 1, none⟩ = some (.map (some b)) := hC.blk.cell 1
  have hcl := hC.blk.lt
  have HO := Lib.hid hC.own
  have HC := Lib.hid hC
  have HD := Lib.hid hD
  clear hD hC hL f1 d1 e1 f2 d2 e2 hle
  go_enter Tryd.func72, Tryd.ntmps72
  go_wp2_with fail
  refine (HB.out _).mono ?_; rintro e w1 ⟨rfl, rfl⟩
  go_wp2_with fail
  refine (HL.out _).mono ?_; rintro e w1 ⟨rfl, rfl⟩
  go_wp2_with fail
  have HOa := Lib.hid (HO.out.alloc (.cells #[.string k, .float .f64 r, .int .i64 (n : Int), .float .f64 bs, .float .f64 m] 135))
  obtain ⟨w2, hrun, hown2, hgrow2⟩ := HOa.out.drew.update (t := 131) (e := 135) (string_keyed Tryd.underlying9) Tryd.underlying131 hl (key := .string k) (val := timerV ⟨k, r, n, bs, m⟩) (Go.WideMaps.keyOf_string_mk Tryd.underlying9 hk) (timR_mk ⟨k, r, n, bs, m⟩)
  have HW := Lib.hid hown2
  have HGr := Lib.hid hgrow2
  clear hown2 hgrow2
  go_region
  go_wp2_with fail
  go_ret
  exact ⟨rfl, ⟨⟨_, HD.out.put ⟨k, r, n, bs, m⟩, HC.out.put (by go_grown) (own_tight HW.out _ (HD.out.put ⟨k, r, n, bs, m⟩).size) HGr.out⟩, fun t ht => (tput_mem ht).elim (fun e => e ▸ ⟨hk, HT.out, Int.natCast_nonneg n, by show (n : Int) ≤ 1000000; omega, fb, db, fm, dm⟩) (hG.out t)⟩, (Two.of_below (by go_grown)).trans (Two.grown HGr.out)⟩
end Go.Proofs.YtkidljiffeonjaaDoor
