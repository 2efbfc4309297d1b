/- A pair in memory: the making of a pair, its seats and what is on its way. -/
import Derived.Test.YtkanakhlmmpapaaDoorRows
import Derived.WalkKit
import Derived.WalkSpells
import Derived.WalkLawsBesides
import Derived.BigQuiet
import Derived.Deep.QuietTactic
import Derived.StillTailTactics
import Derived.Handy
import Derived.Lib.Hide
import Derived.Test.YtkanakhlmmpapaaDoorMovG
set_option linter.unusedSimpArgs false
set_option linter.unusedVariables false
namespace Go.Proofs.YtkanakhlmmpapaaDoor
open Go.RowKit

theorem mSome_of_side {p d : Int} (h : rSide p d = true) : ∃ t, tabOf p d = some t := by
  cases ht : tabOf p d with
  | some t => exact ⟨t, rfl⟩
  | none => rw [tabOf_none ht] at h; cases h
theorem mNone_of_side {p d : Int} (h : rSide p d = false) : tabOf p d = none := by
  cases ht : tabOf p d with
  | none => rfl
  | some t => rw [tabOf_some ht] at h; cases h
theorem mTab_head {p d : Int} {t : Tab} (ht : tabOf p d = some t) : ∃ k s e r, t.rows = (k, s, e) :: r := by
  rcases tabOf_cases ht with ⟨rfl, rfl, rfl⟩ | ⟨rfl, rfl, rfl⟩ | ⟨rfl, rfl, rfl⟩ | ⟨rfl, rfl, rfl⟩
  all_goals exact ⟨_, _, _, _, rfl⟩
set_option maxHeartbeats 1000000 in
theorem mStates_no (p d : Int) (a : Addr) (w : World) (he : ErrIs w 13 a) (h : rSide p d = false) :
    Calls Tryd.prog 51 #[.int .i64 p, .int .i64 d] w (Makes (.tuple #[.slice none 0 0, errV a]) w) := by
  have HN := Lib.hid (mNone_of_side h); clear h
  have HE := Lib.hid he; clear he
  go_enter Tryd.func51, Tryd.ntmps51
  go_wp2_with (first
    | (go_at_call 56; refine (of_no p d a _ ?_ HN.out).mono ?_; exact HE.out.below (by go_grown); rintro e w1 ⟨rfl, hb1⟩; have hz1 := hb1.size; (try simp only [World.size_alloc] at hz1); have B1 : Below w.heap.size w w1 := below_then (by go_grown) hb1))
  go_ret2
  exact ⟨rfl, by go_grown⟩

set_option maxHeartbeats 1000000 in
theorem new_yes (p d : Int) (w : World) (h : rSide p d = true) : Calls Tryd.prog 29 #[.int .i64 p, .int .i64 d] w (Makes (.tuple #[.agg #[.int .i64 p, .int .i64 d, .int .i64 1, .int .i64 0], .nilIface]) w) := by
  obtain ⟨t, ht⟩ := mSome_of_side h
  obtain ⟨k, s, en, r, hr⟩ := mTab_head ht
  have HS := Lib.hid (fun W => states_tab p d t k en s r W ht hr)
  clear ht hr h
  go_enter Tryd.func29, Tryd.ntmps29
  go_wp2_with (go_at_call 51; refine (HS.out _).mono ?_; rintro e w1 ⟨v, rfl, _, hb1⟩; obtain ⟨q2, f2⟩ := ((Blk.fresh w _ _ _ rfl).below hb1).out; have hz1 := hb1.size; simp only [World.size_alloc] at hz1; have B1 : Below w.heap.size w w1 := below_then (by go_grown) hb1)
  exact bodyPost_ret (v := .tuple #[.agg #[.int .i64 p, .int .i64 d, .int .i64 1, .int .i64 0], .nilIface]) (by simp [results, Tryd.results29, go_sem, q2, f2]) rfl ⟨rfl, by go_grown⟩
set_option maxHeartbeats 1000000 in
theorem new_no (p d : Int) (a : Addr) (w : World) (he : ErrIs w 13 a) (h : rSide p d = false) : Calls Tryd.prog 29 #[.int .i64 p, .int .i64 d] w (Makes (.tuple #[.agg #[.int .i64 0, .int .i64 0, .int .i64 0, .int .i64 0], errV a]) w) := by
  have HE := Lib.hid he; have HH := Lib.hid h; clear he h
  go_enter Tryd.func29, Tryd.ntmps29
  go_wp2_with (go_at_call 51; refine (mStates_no p d a _ (HE.out.below (by go_grown)) HH.out).mono ?_; rintro e w1 ⟨rfl, hb1⟩; obtain ⟨q2, f2⟩ := ((Blk.fresh w _ _ _ rfl).below hb1).out; have hz1 := hb1.size; simp only [World.size_alloc] at hz1; have B1 : Below w.heap.size w w1 := below_then (by go_grown) hb1)
  exact bodyPost_ret (v := .tuple #[.agg #[.int .i64 0, .int .i64 0, .int .i64 0, .int .i64 0], errV a]) (by simp [results, Tryd.results29, go_sem, q2, f2]) rfl ⟨rfl, by go_grown⟩

set_option maxHeartbeats 1000000 in
theorem seat_of (B g : Nat) (v : Value) (P : MPair) (d : Int) (w : World) (h : PairIn B g v P w) :
    Calls Tryd.prog 12 #[.pointer (some ⟨g, 0, none⟩), .int .i64 d] w (Makes (seatV (if mSide d = true then P.seat d else seat0)) w) := by
  have hlt := h.blk.lt
  have r1 := fun o => (h.blk.alloc o).cell
  have hs := fun W => isSide_of d W
  clear h
  obtain ⟨c, x, fl⟩ := P
  dsimp only at r1
  by_cases h1 : d = 1
  · subst h1
    have HS := Lib.hid hs; clear hs
    dsimp only [seatV, MPair.seat, mSide]
    go_enter Tryd.func12, Tryd.ntmps12
    go_wp2_with (go_at_call 33; refine (HS.out _).mono ?_; rintro e w1 ⟨rfl, rfl⟩)
    exact bodyPost_ret (v := .agg #[.int .i64 c.p, .int .i64 c.d, .int .i64 c.s, .int .i64 c.h]) (by simp [results, Tryd.results12, go_sem]) rfl ⟨rfl, by go_grown⟩
  · by_cases h2 : d = 2
    · subst h2
      have HS := Lib.hid hs; clear hs
      dsimp only [seatV, MPair.seat, mSide]
      go_enter Tryd.func12, Tryd.ntmps12
      go_wp2_with (go_at_call 33; refine (HS.out _).mono ?_; rintro e w1 ⟨rfl, rfl⟩)
      exact bodyPost_ret (v := .agg #[.int .i64 x.p, .int .i64 x.d, .int .i64 x.s, .int .i64 x.h]) (by simp [results, Tryd.results12, go_sem]) rfl ⟨rfl, by go_grown⟩
    · have hm : mSide d = false := by simp [mSide, h1, h2]
      rw [hm] at hs ⊢
      have HS := Lib.hid hs; clear hs
      rw [if_neg (by simp)]
      dsimp only [seatV, seat0]
      go_enter Tryd.func12, Tryd.ntmps12
      go_wp2_with (go_at_call 33; refine (HS.out _).mono ?_; rintro e w1 ⟨rfl, rfl⟩)
      exact bodyPost_ret (v := .agg #[.int .i64 0, .int .i64 0, .int .i64 0, .int .i64 0]) (by simp [results, Tryd.results12, go_sem]) rfl ⟨rfl, by go_grown⟩

set_option maxHeartbeats 1000000 in
theorem flight_of (B g : Nat) (v : Value) (P : MPair) (w : World) (h : PairIn B g v P w) (hl : P.fl.length ≤ 1000) :
    Calls Tryd.prog 14 #[.pointer (some ⟨g, 0, none⟩)] w fun e w' => ∃ v', e = .returned v' ∧ w'.ownsRow w.heap.size 68 2 v' P.fl.length (flV P.fl) ∧ Below w.heap.size w w' := by
  have a8 : w.cell? ⟨g, 8, none⟩ = some v := h.blk.cell 8
  have hown := Lib.hid h.own
  clear h
  go_enter Tryd.func14, Tryd.ntmps14
  go_wp2_with (go_at_call 34; refine (clone_of B v P.fl w hown.out hl).mono ?_; rintro e w1 ⟨v', rfl, ho, hb⟩)
  go_ret
  exact ⟨v', rfl, ho, hb⟩

def npCells (p : Int) : Nat → Array Value
  | 0 => #[.int .i64 0, .int .i64 0, .int .i64 0, .int .i64 0, .int .i64 0, .int .i64 0, .int .i64 0, .int .i64 0, .slice none 0 0]
  | 1 => #[.int .i64 p, .int .i64 1, .int .i64 1, .int .i64 0, .int .i64 0, .int .i64 0, .int .i64 0, .int .i64 0, .slice none 0 0]
  | _ => #[.int .i64 p, .int .i64 1, .int .i64 1, .int .i64 0, .int .i64 p, .int .i64 2, .int .i64 1, .int .i64 0, .slice none 0 0]
set_option maxRecDepth 100000 in
set_option maxHeartbeats 2000000 in
theorem newPair_yes (p : Int) (hp : p = 1 ∨ p = 2) (w : World) :
    Calls Tryd.prog 10 #[.int .i64 p] w fun e w' => ∃ g v, e = .returned (.tuple #[.pointer (some ⟨g, 0, none⟩), .nilIface]) ∧ PairIn w.heap.size g v (newPair p) w' ∧ Below w.heap.size w w' := by
  have h1 : rSide p 1 = true := by rcases hp with rfl | rfl <;> decide
  have h2 : rSide p 2 = true := by rcases hp with rfl | rfl <;> decide
  have N1 := Lib.hid (fun W => new_yes p 1 W h1)
  have N2 := Lib.hid (fun W => new_yes p 2 W h2)
  clear h1 h2 hp
  go_enter Tryd.func10, Tryd.ntmps10
  go_wp2_with fail
  go_loopw [10] (fun i wr => ∃ k : Nat, k ≤ 2 ∧ i = .int .i64 k ∧ Hid (Blk wr w.heap.size (npCells p k)) ∧ Below w.heap.size w wr) (fun i _ => 2 - (intOf i).toNat)
  case atStart => exact ⟨0, by omega, by go_num, Lib.hid (Blk.fresh w _ _ _ rfl), by go_grown⟩
  case round =>
    obtain ⟨k, hk, rfl, HB, hB⟩ := hrel
    have hz := HB.out.lt
    match k, hk with
    | 0, _ =>
      go_wp2_with (go_at_call 29; refine (N1.out _).mono ?_; rintro e w1 ⟨rfl, hb1⟩; have HC : Hid (Blk w1 w.heap.size #[.int .i64 0, .int .i64 0, .int .i64 0, .int .i64 0, .int .i64 0, .int .i64 0, .int .i64 0, .int .i64 0, .slice none 0 0]) := Lib.hid (HB.out.below hb1); have r1 := fun o => (HC.out.alloc o).cell; have g1 := fun o => (HC.out.alloc o).free; have hz1 := hb1.size; have B1 : Below w.heap.size w w1 := below_then hB hb1)
      go_region
      all_goals go_wp2
      all_goals go_roundw
      case rel => exact ⟨1, by omega, by go_num, Lib.hid (((((HC.out.alloc _).set 0 (by simp) _).set 1 (by simp) _).set 2 (by simp) _).set 3 (by simp) _).drew, by go_grown⟩
      case measure => simp [intOf]
    | 1, _ =>
      go_wp2_with (go_at_call 29; refine (N2.out _).mono ?_; rintro e w1 ⟨rfl, hb1⟩; have HC : Hid (Blk w1 w.heap.size #[.int .i64 p, .int .i64 1, .int .i64 1, .int .i64 0, .int .i64 0, .int .i64 0, .int .i64 0, .int .i64 0, .slice none 0 0]) := Lib.hid (HB.out.below hb1); have r1 := fun o => (HC.out.alloc o).cell; have g1 := fun o => (HC.out.alloc o).free; have hz1 := hb1.size; have B1 : Below w.heap.size w w1 := below_then hB hb1)
      go_region
      all_goals go_wp2
      all_goals go_roundw
      case rel => exact ⟨2, by omega, by go_num, Lib.hid (((((HC.out.alloc _).set 4 (by simp) _).set 5 (by simp) _).set 6 (by simp) _).set 7 (by simp) _).drew, by go_grown⟩
      case measure => simp [intOf]
    | 2, _ =>
      have HC : Hid (Blk wr w.heap.size (pairCells ⟨p, 1, 1, 0⟩ ⟨p, 2, 1, 0⟩ (.slice none 0 0))) := HB
      go_wp2_with fail
      go_ret2
      exact ⟨w.heap.size, .slice none 0 0, rfl, ⟨Nat.le_refl _, HC.out, World.ownsRow_nil _ _ _ _, by simp [Value.ownBlock]⟩, hB⟩
end Go.Proofs.YtkanakhlmmpapaaDoor
