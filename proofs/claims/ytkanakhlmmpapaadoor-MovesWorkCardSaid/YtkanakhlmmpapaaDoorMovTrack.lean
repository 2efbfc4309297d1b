/- Plain functions: what an application was told to do, tracked beside the pair. No program in sight. -/
import Derived.Test.YtkanakhlmmpapaaDoorMovStep
set_option linter.unusedVariables false
set_option linter.unusedSimpArgs false
namespace Go.Proofs.YtkanakhlmmpapaaDoor

/-- a row of a pair, whether it was completed, and the kinds of work that were asked -/
def trackedL : List (GRow × Bool × List Int) := [
  (⟨⟨1, 1, 1, 0⟩, ⟨1, 2, 1, 0⟩, []⟩, false, []),
  (⟨⟨1, 1, 1, 0⟩, ⟨1, 2, 5, 0⟩, [(1, 3)]⟩, true, []),
  (⟨⟨1, 1, 1, 0⟩, ⟨1, 2, 8, 0⟩, [(1, 4)]⟩, false, []),
  (⟨⟨1, 1, 1, 0⟩, ⟨1, 2, 12, 0⟩, [(1, 5)]⟩, false, []),
  (⟨⟨1, 1, 1, 0⟩, ⟨1, 2, 13, 0⟩, [(1, 1)]⟩, false, []),
  (⟨⟨1, 1, 2, 0⟩, ⟨1, 2, 1, 0⟩, [(2, 10)]⟩, false, []),
  (⟨⟨1, 1, 2, 0⟩, ⟨1, 2, 2, 0⟩, [(2, 10)]⟩, false, [10]),
  (⟨⟨1, 1, 2, 0⟩, ⟨1, 2, 5, 0⟩, [(1, 3), (2, 10)]⟩, true, []),
  (⟨⟨1, 1, 2, 0⟩, ⟨1, 2, 8, 0⟩, [(1, 4), (2, 10)]⟩, false, []),
  (⟨⟨1, 1, 2, 0⟩, ⟨1, 2, 9, 0⟩, [(1, 4), (2, 10)]⟩, false, [10]),
  (⟨⟨1, 1, 2, 0⟩, ⟨1, 2, 12, 0⟩, [(1, 5), (2, 10)]⟩, false, []),
  (⟨⟨1, 1, 2, 0⟩, ⟨1, 2, 13, 0⟩, [(1, 1), (2, 10)]⟩, false, []),
  (⟨⟨1, 1, 2, 0⟩, ⟨1, 2, 14, 6⟩, [(1, 6), (2, 10)]⟩, false, [10]),
  (⟨⟨1, 1, 5, 0⟩, ⟨1, 2, 5, 0⟩, [(1, 3), (2, 10)]⟩, true, []),
  (⟨⟨1, 1, 6, 0⟩, ⟨1, 2, 5, 0⟩, [(1, 3), (2, 9), (2, 10)]⟩, true, []),
  (⟨⟨1, 1, 6, 0⟩, ⟨1, 2, 6, 0⟩, [(1, 3), (2, 9), (2, 10)]⟩, true, [9]),
  (⟨⟨1, 1, 6, 0⟩, ⟨1, 2, 14, 7⟩, [(1, 3), (1, 6), (1, 7), (2, 9), (2, 10)]⟩, true, [9]),
  (⟨⟨1, 1, 7, 0⟩, ⟨1, 2, 5, 0⟩, [(1, 3), (2, 10), (2, 11)]⟩, true, []),
  (⟨⟨1, 1, 7, 0⟩, ⟨1, 2, 7, 0⟩, [(1, 3), (2, 10), (2, 11)]⟩, true, [11]),
  (⟨⟨1, 1, 7, 0⟩, ⟨1, 2, 11, 0⟩, [(1, 3), (1, 4), (2, 10), (2, 11)]⟩, true, [11]),
  (⟨⟨1, 1, 7, 0⟩, ⟨1, 2, 14, 8⟩, [(1, 3), (1, 6), (1, 8), (2, 10), (2, 11)]⟩, true, [11]),
  (⟨⟨1, 1, 14, 1⟩, ⟨1, 2, 13, 0⟩, [(1, 1), (2, 10), (2, 13)]⟩, false, []),
  (⟨⟨1, 1, 14, 1⟩, ⟨1, 2, 14, 1⟩, [(1, 1), (1, 6), (2, 10), (2, 13)]⟩, false, []),
  (⟨⟨1, 1, 14, 4⟩, ⟨1, 2, 8, 0⟩, [(1, 4), (2, 10), (2, 12)]⟩, false, []),
  (⟨⟨1, 1, 14, 4⟩, ⟨1, 2, 9, 0⟩, [(1, 4), (2, 10), (2, 12)]⟩, false, [10]),
  (⟨⟨1, 1, 14, 4⟩, ⟨1, 2, 11, 0⟩, [(1, 3), (1, 4), (2, 10), (2, 11), (2, 12)]⟩, true, [11]),
  (⟨⟨1, 1, 14, 4⟩, ⟨1, 2, 14, 4⟩, [(1, 4), (1, 6), (2, 10), (2, 12)]⟩, false, []),
  (⟨⟨1, 1, 14, 4⟩, ⟨1, 2, 14, 4⟩, [(1, 4), (1, 6), (2, 10), (2, 12)]⟩, false, [10]),
  (⟨⟨1, 1, 14, 4⟩, ⟨1, 2, 14, 4⟩, [(1, 3), (1, 4), (1, 6), (1, 8), (2, 10), (2, 11), (2, 12)]⟩, true, [11]),
  (⟨⟨1, 1, 14, 5⟩, ⟨1, 2, 12, 0⟩, [(1, 5), (2, 10), (2, 14)]⟩, false, []),
  (⟨⟨1, 1, 14, 5⟩, ⟨1, 2, 14, 5⟩, [(1, 5), (1, 6), (2, 10), (2, 14)]⟩, false, []),
  (⟨⟨1, 1, 14, 6⟩, ⟨1, 2, 14, 6⟩, [(1, 6), (2, 10)]⟩, false, [10]),
  (⟨⟨1, 1, 14, 7⟩, ⟨1, 2, 14, 7⟩, [(1, 3), (1, 6), (1, 7), (2, 9), (2, 10)]⟩, true, [9]),
  (⟨⟨1, 1, 14, 8⟩, ⟨1, 2, 14, 8⟩, [(1, 3), (1, 6), (1, 8), (2, 10), (2, 11)]⟩, true, [11]),
  (⟨⟨2, 1, 1, 0⟩, ⟨2, 2, 1, 0⟩, []⟩, false, []),
  (⟨⟨2, 1, 1, 0⟩, ⟨2, 2, 8, 0⟩, [(1, 4)]⟩, false, []),
  (⟨⟨2, 1, 1, 0⟩, ⟨2, 2, 12, 0⟩, [(1, 5)]⟩, false, []),
  (⟨⟨2, 1, 1, 0⟩, ⟨2, 2, 13, 0⟩, [(1, 1)]⟩, false, []),
  (⟨⟨2, 1, 2, 0⟩, ⟨2, 2, 1, 0⟩, [(2, 10)]⟩, false, []),
  (⟨⟨2, 1, 2, 0⟩, ⟨2, 2, 2, 0⟩, [(2, 10)]⟩, false, [10]),
  (⟨⟨2, 1, 2, 0⟩, ⟨2, 2, 8, 0⟩, [(1, 4), (2, 10)]⟩, false, []),
  (⟨⟨2, 1, 2, 0⟩, ⟨2, 2, 9, 0⟩, [(1, 4), (2, 10)]⟩, false, [10]),
  (⟨⟨2, 1, 2, 0⟩, ⟨2, 2, 12, 0⟩, [(1, 5), (2, 10)]⟩, false, []),
  (⟨⟨2, 1, 2, 0⟩, ⟨2, 2, 13, 0⟩, [(1, 1), (2, 10)]⟩, false, []),
  (⟨⟨2, 1, 2, 0⟩, ⟨2, 2, 14, 6⟩, [(1, 6), (2, 10)]⟩, false, [10]),
  (⟨⟨2, 1, 3, 0⟩, ⟨2, 2, 1, 0⟩, [(2, 2), (2, 10)]⟩, false, []),
  (⟨⟨2, 1, 3, 0⟩, ⟨2, 2, 2, 0⟩, [(2, 2), (2, 10)]⟩, false, [2, 10]),
  (⟨⟨2, 1, 3, 0⟩, ⟨2, 2, 2, 0⟩, [(2, 2), (2, 10)]⟩, false, [10]),
  (⟨⟨2, 1, 3, 0⟩, ⟨2, 2, 4, 0⟩, [(2, 2), (2, 10)]⟩, false, [2]),
  (⟨⟨2, 1, 3, 0⟩, ⟨2, 2, 5, 0⟩, [(1, 3), (2, 2), (2, 10)]⟩, true, [2]),
  (⟨⟨2, 1, 3, 0⟩, ⟨2, 2, 8, 0⟩, [(1, 4), (2, 2), (2, 10)]⟩, false, []),
  (⟨⟨2, 1, 3, 0⟩, ⟨2, 2, 9, 0⟩, [(1, 4), (2, 2), (2, 10)]⟩, false, [2, 10]),
  (⟨⟨2, 1, 3, 0⟩, ⟨2, 2, 9, 0⟩, [(1, 4), (2, 2), (2, 10)]⟩, false, [10]),
  (⟨⟨2, 1, 3, 0⟩, ⟨2, 2, 10, 0⟩, [(1, 4), (2, 2), (2, 10)]⟩, false, [2]),
  (⟨⟨2, 1, 3, 0⟩, ⟨2, 2, 12, 0⟩, [(1, 5), (2, 2), (2, 10)]⟩, false, []),
  (⟨⟨2, 1, 3, 0⟩, ⟨2, 2, 12, 0⟩, [(1, 5), (2, 2), (2, 10)]⟩, false, [2]),
  (⟨⟨2, 1, 3, 0⟩, ⟨2, 2, 13, 0⟩, [(1, 1), (2, 2), (2, 10)]⟩, false, []),
  (⟨⟨2, 1, 3, 0⟩, ⟨2, 2, 13, 0⟩, [(1, 1), (2, 2), (2, 10)]⟩, false, [2]),
  (⟨⟨2, 1, 3, 0⟩, ⟨2, 2, 14, 6⟩, [(1, 6), (2, 2), (2, 10)]⟩, false, [2, 10]),
  (⟨⟨2, 1, 3, 0⟩, ⟨2, 2, 14, 6⟩, [(1, 6), (2, 2), (2, 10)]⟩, false, [10]),
  (⟨⟨2, 1, 4, 0⟩, ⟨2, 2, 1, 0⟩, [(2, 2)]⟩, false, []),
  (⟨⟨2, 1, 4, 0⟩, ⟨2, 2, 4, 0⟩, [(2, 2)]⟩, false, [2]),
  (⟨⟨2, 1, 4, 0⟩, ⟨2, 2, 5, 0⟩, [(1, 3), (2, 2)]⟩, true, [2]),
  (⟨⟨2, 1, 4, 0⟩, ⟨2, 2, 8, 0⟩, [(1, 4), (2, 2)]⟩, false, []),
  (⟨⟨2, 1, 4, 0⟩, ⟨2, 2, 10, 0⟩, [(1, 4), (2, 2)]⟩, false, [2]),
  (⟨⟨2, 1, 4, 0⟩, ⟨2, 2, 12, 0⟩, [(1, 5), (2, 2)]⟩, false, []),
  (⟨⟨2, 1, 4, 0⟩, ⟨2, 2, 12, 0⟩, [(1, 5), (2, 2)]⟩, false, [2]),
  (⟨⟨2, 1, 4, 0⟩, ⟨2, 2, 13, 0⟩, [(1, 1), (2, 2)]⟩, false, []),
  (⟨⟨2, 1, 4, 0⟩, ⟨2, 2, 13, 0⟩, [(1, 1), (2, 2)]⟩, false, [2]),
  (⟨⟨2, 1, 5, 0⟩, ⟨2, 2, 5, 0⟩, [(1, 3), (2, 2), (2, 10)]⟩, true, [2]),
  (⟨⟨2, 1, 6, 0⟩, ⟨2, 2, 5, 0⟩, [(1, 3), (2, 2), (2, 9), (2, 10)]⟩, true, [2]),
  (⟨⟨2, 1, 6, 0⟩, ⟨2, 2, 6, 0⟩, [(1, 3), (2, 2), (2, 9), (2, 10)]⟩, true, [2, 9]),
  (⟨⟨2, 1, 6, 0⟩, ⟨2, 2, 14, 7⟩, [(1, 3), (1, 6), (1, 7), (2, 2), (2, 9), (2, 10)]⟩, true, [2, 9]),
  (⟨⟨2, 1, 7, 0⟩, ⟨2, 2, 5, 0⟩, [(1, 3), (2, 2), (2, 10), (2, 11)]⟩, true, [2]),
  (⟨⟨2, 1, 7, 0⟩, ⟨2, 2, 7, 0⟩, [(1, 3), (2, 2), (2, 10), (2, 11)]⟩, true, [2, 11]),
  (⟨⟨2, 1, 7, 0⟩, ⟨2, 2, 11, 0⟩, [(1, 3), (1, 4), (2, 2), (2, 10), (2, 11)]⟩, true, [2, 11]),
  (⟨⟨2, 1, 7, 0⟩, ⟨2, 2, 14, 8⟩, [(1, 3), (1, 6), (1, 8), (2, 2), (2, 10), (2, 11)]⟩, true, [2, 11]),
  (⟨⟨2, 1, 14, 1⟩, ⟨2, 2, 13, 0⟩, [(1, 1), (2, 2), (2, 10), (2, 13)]⟩, false, []),
  (⟨⟨2, 1, 14, 1⟩, ⟨2, 2, 13, 0⟩, [(1, 1), (2, 2), (2, 10), (2, 13)]⟩, false, [2]),
  (⟨⟨2, 1, 14, 1⟩, ⟨2, 2, 14, 1⟩, [(1, 1), (1, 6), (2, 2), (2, 10), (2, 13)]⟩, false, []),
  (⟨⟨2, 1, 14, 1⟩, ⟨2, 2, 14, 1⟩, [(1, 1), (1, 6), (2, 2), (2, 10), (2, 13)]⟩, false, [2]),
  (⟨⟨2, 1, 14, 4⟩, ⟨2, 2, 8, 0⟩, [(1, 4), (2, 2), (2, 10), (2, 12)]⟩, false, []),
  (⟨⟨2, 1, 14, 4⟩, ⟨2, 2, 9, 0⟩, [(1, 4), (2, 2), (2, 10), (2, 12)]⟩, false, [2, 10]),
  (⟨⟨2, 1, 14, 4⟩, ⟨2, 2, 9, 0⟩, [(1, 4), (2, 2), (2, 10), (2, 12)]⟩, false, [10]),
  (⟨⟨2, 1, 14, 4⟩, ⟨2, 2, 10, 0⟩, [(1, 4), (2, 2), (2, 10), (2, 12)]⟩, false, [2]),
  (⟨⟨2, 1, 14, 4⟩, ⟨2, 2, 11, 0⟩, [(1, 3), (1, 4), (2, 2), (2, 10), (2, 11), (2, 12)]⟩, true, [2, 11]),
  (⟨⟨2, 1, 14, 4⟩, ⟨2, 2, 14, 4⟩, [(1, 4), (1, 6), (2, 2), (2, 10), (2, 12)]⟩, false, []),
  (⟨⟨2, 1, 14, 4⟩, ⟨2, 2, 14, 4⟩, [(1, 4), (1, 6), (2, 2), (2, 10), (2, 12)]⟩, false, [2]),
  (⟨⟨2, 1, 14, 4⟩, ⟨2, 2, 14, 4⟩, [(1, 4), (1, 6), (2, 2), (2, 10), (2, 12)]⟩, false, [2, 10]),
  (⟨⟨2, 1, 14, 4⟩, ⟨2, 2, 14, 4⟩, [(1, 4), (1, 6), (2, 2), (2, 10), (2, 12)]⟩, false, [10]),
  (⟨⟨2, 1, 14, 4⟩, ⟨2, 2, 14, 4⟩, [(1, 3), (1, 4), (1, 6), (1, 8), (2, 2), (2, 10), (2, 11), (2, 12)]⟩, true, [2, 11]),
  (⟨⟨2, 1, 14, 5⟩, ⟨2, 2, 12, 0⟩, [(1, 5), (2, 2), (2, 10), (2, 14)]⟩, false, []),
  (⟨⟨2, 1, 14, 5⟩, ⟨2, 2, 12, 0⟩, [(1, 5), (2, 2), (2, 10), (2, 14)]⟩, false, [2]),
  (⟨⟨2, 1, 14, 5⟩, ⟨2, 2, 14, 5⟩, [(1, 5), (1, 6), (2, 2), (2, 10), (2, 14)]⟩, false, []),
  (⟨⟨2, 1, 14, 5⟩, ⟨2, 2, 14, 5⟩, [(1, 5), (1, 6), (2, 2), (2, 10), (2, 14)]⟩, false, [2]),
  (⟨⟨2, 1, 14, 6⟩, ⟨2, 2, 14, 6⟩, [(1, 6), (2, 2), (2, 10)]⟩, false, [2, 10]),
  (⟨⟨2, 1, 14, 6⟩, ⟨2, 2, 14, 6⟩, [(1, 6), (2, 2), (2, 10)]⟩, false, [10]),
  (⟨⟨2, 1, 14, 7⟩, ⟨2, 2, 14, 7⟩, [(1, 3), (1, 6), (1, 7), (2, 2), (2, 9), (2, 10)]⟩, true, [2, 9]),
  (⟨⟨2, 1, 14, 8⟩, ⟨2, 2, 14, 8⟩, [(1, 3), (1, 6), (1, 8), (2, 2), (2, 10), (2, 11)]⟩, true, [2, 11])]
def goesT (r : GRow) (d : Int) (s : MSeat) (k : Int) (cp : Bool) (cnt : List Int) : Bool :=
  trackedL.any fun t => decide (t.1.c = (if d = 1 then s else r.c)) && decide (t.1.x = (if d = 1 then r.x else s)) && r.ms.all (fun m => t.1.ms.contains m) && (decide (k = 0) || t.1.ms.contains (3 - d, k)) && (t.2.1 == cp) && decide (t.2.2 = cnt)
def cpN (cp : Bool) (x : MSeat) : Bool := cp || decide (x.s = 5)
def isWork (e : Eff) : Bool := decide (e.seat.d = 2) && decide (e.work ≠ 0)
def cntN (e : Eff) (cnt : List Int) : List Int := if isWork e = true then cnt ++ [e.work] else cnt
def xOf (r : GRow) (d : Int) (s : MSeat) : MSeat := if d = 1 then r.x else s
def okTDo (t : GRow × Bool × List Int) (d k : Int) : Bool := decide ((mDo (t.1.seat d) k).2 ≠ 0) || goesT t.1 d (mDo (t.1.seat d) k).1.seat (mDo (t.1.seat d) k).1.send (cpN t.2.1 (xOf t.1 d (mDo (t.1.seat d) k).1.seat)) t.2.2
def okTTell (t : GRow × Bool × List Int) (m : Int × Int) : Bool :=
  goesT t.1 m.1 (mTell (t.1.seat m.1) m.2).1.seat (mTell (t.1.seat m.1) m.2).1.send (cpN t.2.1 (xOf t.1 m.1 (mTell (t.1.seat m.1) m.2).1.seat)) (cntN (mTell (t.1.seat m.1) m.2).1 t.2.2)
  && (!isWork (mTell (t.1.seat m.1) m.2).1 || (!t.2.2.contains (mTell (t.1.seat m.1) m.2).1.work && decide (1 ≤ (mTell (t.1.seat m.1) m.2).1.work ∧ (mTell (t.1.seat m.1) m.2).1.work ≤ 11) && (!(decide ((mTell (t.1.seat m.1) m.2).1.work = 9 ∨ (mTell (t.1.seat m.1) m.2).1.work = 11)) || cpN t.2.1 (xOf t.1 m.1 (mTell (t.1.seat m.1) m.2).1.seat))))
def okTWait (t : GRow × Bool × List Int) (d : Int) : Bool := decide (mWaits (t.1.seat d) = 0) || goesT t.1 d (t.1.seat d) (mWaits (t.1.seat d)) t.2.1 t.2.2
def okT (t : GRow × Bool × List Int) : Bool :=
  ([1, 2].all fun d => (List.range 15).all fun k : Nat => okTDo t d k) && t.1.ms.all (okTTell t) && okTWait t 1 && okTWait t 2 && (!decide (t.1.x.s = 5) || t.2.1) && decide (t.2.2.length ≤ 2) && !(t.2.2.contains 9 && t.2.2.contains 11)
set_option maxRecDepth 100000 in
theorem okT_all : trackedL.all okT = true := by decide +kernel
theorem okT_of {t : GRow × Bool × List Int} (h : t ∈ trackedL) : okT t = true := List.all_eq_true.1 okT_all t h

def Tr (P : MPair) (cp : Bool) (cnt : List Int) : Prop := ∃ t ∈ trackedL, Fits t.1 P ∧ t.2.1 = cp ∧ t.2.2 = cnt
theorem fitsT_put {r : GRow} {P : MPair} {d k : Int} {s : MSeat} {cp : Bool} {cnt : List Int} (h : Fits r P) (hg : goesT r d s k cp cnt = true) (Q : MPair) (hc : Q.c = (P.set d s).c) (hx : Q.x = (P.set d s).x) (hf : ∀ m ∈ Q.fl, m ∈ P.fl) : Tr (Q.put d k) cp cnt := by
  unfold goesT at hg
  obtain ⟨t, ht, h1⟩ := List.any_eq_true.1 hg
  simp only [Bool.and_eq_true, Bool.or_eq_true, decide_eq_true_eq, List.all_eq_true, List.contains_iff_mem, beq_iff_eq] at h1
  obtain ⟨⟨⟨⟨⟨a, b⟩, hm⟩, hk⟩, e1⟩, e2⟩ := h1
  have hcx : t.1.c = Q.c ∧ t.1.x = Q.x := by
    rw [hc, hx, a, b, h.1, h.2.1]
    unfold MPair.set
    by_cases h1 : d = 1
    · rw [if_pos h1, if_pos h1, if_pos h1]; exact ⟨rfl, rfl⟩
    · rw [if_neg h1, if_neg h1, if_neg h1]; exact ⟨rfl, rfl⟩
  refine ⟨t, ht, ?_, e1, e2⟩
  unfold MPair.put
  by_cases h0 : k = 0
  · rw [if_pos h0]
    exact ⟨hcx.1, hcx.2, fun m hm' => hm m (h.2.2 m (hf m hm'))⟩
  · rw [if_neg h0]
    refine ⟨hcx.1, hcx.2, fun m hm' => ?_⟩
    rcases List.mem_append.1 hm' with h' | h'
    · exact hm m (h.2.2 m (hf m h'))
    · rw [List.mem_singleton.1 h']
      exact hk.resolve_left h0
theorem put_x (P : MPair) (d k : Int) : (P.put d k).x = P.x := by unfold MPair.put; split <;> rfl
theorem set_x (P : MPair) (d : Int) (s : MSeat) (hd : d = 1 ∨ d = 2) : (P.set d s).x = (if d = 1 then P.x else s) := by
  unfold MPair.set; split <;> rfl
theorem Tr.five {P : MPair} {cp : Bool} {cnt : List Int} (h : Tr P cp cnt) : cpN cp P.x = cp := by
  obtain ⟨t, ht, hF, h1, h2⟩ := h
  have ho := okT_of ht
  unfold okT at ho
  simp only [Bool.and_eq_true, Bool.or_eq_true, Bool.not_eq_true', decide_eq_false_iff_not] at ho
  have h5 := ho.1.1.2
  unfold cpN
  rw [← hF.2.1, ← h1]
  rcases h5 with h5 | h5
  · simp [h5]
  · simp [h5]
theorem Tr.last {P : MPair} {cp : Bool} {cnt : List Int} (h : Tr P cp cnt) : cnt.length ≤ 2 ∧ ¬ (9 ∈ cnt ∧ 11 ∈ cnt) := by
  obtain ⟨t, ht, hF, h1, h2⟩ := h
  have ho := okT_of ht
  unfold okT at ho
  simp only [Bool.and_eq_true, Bool.not_eq_true', decide_eq_true_eq, Bool.and_eq_false_iff, List.contains_iff_mem] at ho
  rw [← h2]
  refine ⟨ho.1.2, fun hh => ?_⟩
  have h3 := ho.2
  rcases h3 with h3 | h3
  · rw [List.contains_iff_mem.2 hh.1] at h3; cases h3
  · rw [List.contains_iff_mem.2 hh.2] at h3; cases h3
theorem Tr.same {P : MPair} {cp : Bool} {cnt : List Int} (h : Tr P cp cnt) (Q : MPair) (hc : Q.c = P.c) (hx : Q.x = P.x) (hf : ∀ m ∈ Q.fl, m ∈ P.fl) : Tr Q (cpN cp Q.x) cnt := by
  rw [hx, h.five]
  obtain ⟨t, ht, hF, h1, h2⟩ := h
  exact ⟨t, ht, ⟨by rw [hc]; exact hF.1, by rw [hx]; exact hF.2.1, fun m hm => hF.2.2 m (hf m hm)⟩, h1, h2⟩
/-- what a step leaves tracked -/
structure Next (P : MPair) (e : Eff) (cp : Bool) (cnt : List Int) : Prop where
  tr : Tr P (cpN cp P.x) (cntN e cnt)
  new : isWork e = true → e.work ∉ cnt ∧ (1 ≤ e.work ∧ e.work ≤ 11) ∧ (e.work = 9 ∨ e.work = 11 → cpN cp P.x = true)
theorem not_eff0 : isWork eff0 = false := by decide
theorem Next.of_tr {P : MPair} {cp : Bool} {cnt : List Int} (h : Tr P (cpN cp P.x) cnt) : Next P eff0 cp cnt := ⟨by unfold cntN; rw [not_eff0, if_neg (by simp)]; exact h, fun h => by rw [not_eff0] at h; cases h⟩
theorem Tr.do {P : MPair} {cp : Bool} {cnt : List Int} (h : Tr P cp cnt) (d k : Int) : Next (mPDo P d k).1 eff0 cp cnt := by
  refine Next.of_tr ?_
  unfold mPDo
  by_cases hs : mSide d = false
  · rw [if_pos hs]; exact h.same P rfl rfl (fun _ h => h)
  by_cases hf : mFull P = true
  · rw [if_neg hs, if_pos hf]; exact h.same P rfl rfl (fun _ h => h)
  by_cases he : (mDo (P.seat d) k).2 ≠ 0
  · rw [if_neg hs, if_neg hf, if_pos he]; exact h.same P rfl rfl (fun _ h => h)
  rw [if_neg hs, if_neg hf, if_neg he]
  obtain ⟨t, ht, hF, e1, e2⟩ := h
  have hd := mSide_iff hs
  have hk : 0 ≤ k ∧ k ≤ 14 := Decidable.byContradiction fun hk => he (mDo_out hk)
  have ho := okT_of ht
  unfold okT at ho
  simp only [Bool.and_eq_true, List.all_eq_true, List.mem_range] at ho
  have h1 := ho.1.1.1.1.1.1 d (by rcases hd with rfl | rfl <;> simp) k.toNat (by omega)
  rw [show ((k.toNat : Nat) : Int) = k by omega] at h1
  unfold okTDo at h1
  rw [hF.seat] at h1
  simp only [Bool.or_eq_true, decide_eq_true_eq] at h1
  have h2 := h1.resolve_left he
  have hx : xOf t.1 d (mDo (P.seat d) k).1.seat = ((P.set d (mDo (P.seat d) k).1.seat).put d (mDo (P.seat d) k).1.send).x := by
    rw [put_x, set_x _ _ _ hd]; unfold xOf; rw [hF.2.1]
  rw [hx, e1, e2] at h2
  exact fitsT_put hF h2 _ rfl rfl (fun m hm => by rw [set_set] at hm; exact hm)
theorem Tr.again {P : MPair} {cp : Bool} {cnt : List Int} (h : Tr P cp cnt) (d : Int) : Next (mPAgain P d).1 eff0 cp cnt := by
  refine Next.of_tr ?_
  unfold mPAgain
  by_cases hs : mSide d = false ∨ mFull P = true ∨ mWaits (P.seat d) = 0
  · rw [if_pos hs]; exact h.same P rfl rfl (fun _ h => h)
  rw [if_neg hs]
  have h5 := h.five
  obtain ⟨t, ht, hF, e1, e2⟩ := h
  have hd := mSide_iff (fun h => hs (.inl h))
  have ho := okT_of ht
  unfold okT at ho
  simp only [Bool.and_eq_true] at ho
  have h1 : okTWait t d = true := by rcases hd with rfl | rfl; exact ho.1.1.1.1.2; exact ho.1.1.1.2
  unfold okTWait at h1
  rw [hF.seat, e1, e2] at h1
  simp only [Bool.or_eq_true, decide_eq_true_eq] at h1
  have h2 := h1.resolve_left (fun h => hs (.inr (.inr h)))
  show Tr (P.put d _) (cpN cp (P.put d _).x) cnt
  rw [put_x, h5]
  exact fitsT_put hF h2 P (by rw [set_self]) (by rw [set_self]) (fun m hm => hm)
theorem Tr.drop {P : MPair} {cp : Bool} {cnt : List Int} (h : Tr P cp cnt) (i : Int) : Next (mPDrop P i).1 eff0 cp cnt := by
  refine Next.of_tr ?_
  unfold mPDrop
  by_cases hs : i < 0 ∨ (P.fl.length : Int) ≤ i
  · rw [if_pos hs]; exact h.same P rfl rfl (fun _ h => h)
  · rw [if_neg hs]; exact h.same _ (cut_c _ _ _) (cut_x _ _ _) mem_cut
theorem Tr.deliver {P : MPair} {cp : Bool} {cnt : List Int} (h : Tr P cp cnt) (hO : Ok P) (i : Int) (b : Bool) : Next (mPDeliver P i b).1 (mPDeliver P i b).2.1 cp cnt := by
  unfold mPDeliver
  by_cases hs : i < 0 ∨ (P.fl.length : Int) ≤ i
  · rw [if_pos hs]; exact Next.of_tr (h.same P rfl rfl (fun _ h => h))
  by_cases hf : b = true ∧ mFull P = true
  · rw [if_neg hs, if_pos hf]; exact Next.of_tr (h.same P rfl rfl (fun _ h => h))
  rw [if_neg hs, if_neg hf]
  obtain ⟨m, hm⟩ : ∃ m, m = P.fl.getD i.toNat (0, 0) := ⟨_, rfl⟩
  have hmem : m ∈ P.fl := by rw [hm]; exact getD_mem (by omega)
  rw [← hm]
  have hte := hO.good.tells hmem
  unfold mGive
  rw [if_neg (by simpa using hte.2)]
  obtain ⟨t, ht, hF, e1, e2⟩ := h
  have ho := okT_of ht
  unfold okT at ho
  simp only [Bool.and_eq_true, List.all_eq_true] at ho
  have h1 := ho.1.1.1.1.1.2 m (hF.2.2 m hmem)
  unfold okTTell at h1
  rw [hF.seat] at h1
  simp only [Bool.and_eq_true] at h1
  obtain ⟨h2, h3⟩ := h1
  have hx : xOf t.1 m.1 (mTell (P.seat m.1) m.2).1.seat = ((mCut (P.set m.1 (mTell (P.seat m.1) m.2).1.seat) i.toNat b).put m.1 (mTell (P.seat m.1) m.2).1.send).x := by
    rw [put_x, cut_x, set_x _ _ _ hte.1]; unfold xOf; rw [hF.2.1]
  rw [hx, e1, e2] at h2 h3
  refine ⟨fitsT_put hF h2 _ (cut_c _ _ _) (cut_x _ _ _) (fun m hm => by have := mem_cut m hm; rw [set_set] at this; exact this), fun hw => ?_⟩
  have hw' : isWork (mTell (P.seat m.1) m.2).1 = true := hw
  rw [hw'] at h3
  simp only [Bool.not_true, Bool.false_or, Bool.and_eq_true, Bool.not_eq_true', decide_eq_true_eq, Bool.or_eq_true, decide_eq_false_iff_not] at h3
  refine ⟨fun hc => ?_, h3.1.2, fun h9 => h3.2.resolve_left (fun n => n h9)⟩
  have := h3.1.1
  rw [List.contains_iff_mem.2 hc] at this
  cases this
theorem Tr.step {P : MPair} {cp : Bool} {cnt : List Int} (h : Tr P cp cnt) (hO : Ok P) (o : MOp) : Next (lDo P o).1 (lDo P o).2 cp cnt := by
  unfold lDo
  by_cases h1 : o.what = 1
  · rw [if_pos h1]; exact h.do _ _
  rw [if_neg h1]
  by_cases h2 : o.what = 2
  · rw [if_pos h2]; exact h.again _
  rw [if_neg h2]
  by_cases h3 : o.what = 3
  · rw [if_pos h3]; exact h.deliver hO _ _
  rw [if_neg h3]
  by_cases h4 : o.what = 4
  · rw [if_pos h4]; exact h.drop _
  rw [if_neg h4]
  exact Next.of_tr (h.same P rfl rfl (fun _ h => h))
theorem Tr.new {p : Int} (hp : p = 1 ∨ p = 2) : Tr (newPair p) false [] := by
  rcases hp with rfl | rfl
  · exact ⟨(⟨⟨1, 1, 1, 0⟩, ⟨1, 2, 1, 0⟩, []⟩, false, []), by decide +kernel, ⟨rfl, rfl, by simp [newPair]⟩, rfl, rfl⟩
  · exact ⟨(⟨⟨2, 1, 1, 0⟩, ⟨2, 2, 1, 0⟩, []⟩, false, []), by decide +kernel, ⟨rfl, rfl, by simp [newPair]⟩, rfl, rfl⟩
end Go.Proofs.YtkanakhlmmpapaaDoor
