/- The iterator nexts: what it owes. -/
import Derived.Test.YtkidljiffeonjaaDoorRows
import Derived.WalkKit
import Derived.WalkSpells
import Derived.WalkLawsBesides
import Derived.BigQuiet
import Derived.Deep.QuietTactic
import Derived.StillTailTactics
import Derived.Handy
import Derived.Lib.Hide
import Derived.Test.YtkidljiffeonjaaDoorModA
set_option linter.unusedSimpArgs false
set_option linter.unusedVariables false
namespace Go.Proofs.YtkidljiffeonjaaDoor
open Go.RowKit Go.Shelf
attribute [local go_sem] Oper.semAt_some

structure Err39 (ea : Int → Addr) (w : World) : Prop where
  e : Err3 ea w
  e9 : ErrIs w 8 (ea 9)
theorem Err39.below {ea : Int → Addr} {w w' : World} (h : Err39 ea w) (hb : Below w.heap.size w w') : Err39 ea w' := ⟨h.e.below hb, h.e9.below hb⟩
/-- what Tell and Do answer, written out -/
theorem tell_out (x : MSeat) (k : Int) (ea : Int → Addr) : ∃ p d s h f u v c n, mTell x k = (⟨⟨p, d, s, h⟩, f, u, v, c⟩, n) ∧ ∀ w, Err39 ea w → Calls Tryd.prog 105 #[seatV x, .int .i64 k] w (Makes (.tuple #[.agg #[.int .i64 p, .int .i64 d, .int .i64 s, .int .i64 h, .int .i64 f, .int .i64 u, .int .i64 v, .bool c], errOf ea n]) w) := by
  obtain ⟨y, hy⟩ : ∃ y, y = mTell x k := ⟨_, rfl⟩
  have h := fun w (hw : Err39 ea w) => tell_of x k ea w hw.e
  rw [← hy] at h ⊢
  obtain ⟨⟨⟨p, d, s, q⟩, f, u, v, c⟩, n⟩ := y
  exact ⟨p, d, s, q, f, u, v, c, n, rfl, h⟩
theorem do_out (x : MSeat) (k : Int) (ea : Int → Addr) : ∃ p d s h f u v c n, mDo x k = (⟨⟨p, d, s, h⟩, f, u, v, c⟩, n) ∧ ∀ w, Err39 ea w → Calls Tryd.prog 106 #[seatV x, .int .i64 k] w (Makes (.tuple #[.agg #[.int .i64 p, .int .i64 d, .int .i64 s, .int .i64 h, .int .i64 f, .int .i64 u, .int .i64 v, .bool c], errOf ea n]) w) := by
  obtain ⟨y, hy⟩ : ∃ y, y = mDo x k := ⟨_, rfl⟩
  have h := fun w (hw : Err39 ea w) => do_of x k ea w hw.e hw.e9
  rw [← hy] at h ⊢
  obtain ⟨⟨⟨p, d, s, q⟩, f, u, v, c⟩, n⟩ := y
  exact ⟨p, d, s, q, f, u, v, c, n, rfl, h⟩
theorem errOf_no {ea : Int → Addr} {n : Int} (h : n ≠ 0) : errOf ea n = errV (ea n) := if_neg h

/-- between two kinds -/
structure NIn (l bx B : Nat) (s : MSeat) (w : World) (J : List MSeat → World → Prop) (pre : List K14) (X : World) : Prop where
  j : J (mflat s (pre.map (·.1))) X
  be : Below w.heap.size w X
  y : X.cell? ⟨B, 0, none⟩ = some (.func (.yield l) #[] #[])
  lt : B < X.heap.size
theorem NIn.own {l bx B : Nat} {s : MSeat} {w W : World} {J : List MSeat → World → Prop} (hJ : OwnFrom W.heap.size J) (hw : w.heap.size ≤ W.heap.size) : OwnFrom (W.heap.size + 1) (NIn l bx B s w J) := fun pre X Y row h hg hr =>
  ⟨own_up hJ (Nat.le_succ _) _ X Y row h.j hg hr, ownFrom_below (β := Unit) (Nat.le_refl _) (Nat.le_trans hw (Nat.le_succ _)) () X Y row h.be hg hr, cell_kept h.y hg (fun r e => (hr r e).2), Nat.lt_of_lt_of_le h.lt hg.size⟩

set_option maxRecDepth 100000 in
set_option maxHeartbeats 4000000 in
theorem nexts_owes (n : Nat) (hn : 8 ≤ n) (s : MSeat) (ea : Int → Addr) (bx : Nat) (w : World) (hbx : Blk w bx #[.int .i64 s.p, .int .i64 s.d, .int .i64 s.s, .int .i64 s.h]) (hE : Err39 ea w) :
    IterOwes Fence.wide n Tryd.prog 103 #[.pointer (some ⟨bx, 0, none⟩)] (fun x : MSeat => #[seatV x]) (fun xs => xs = mflat s (kupto 14)) (fun x => x ∈ mflat s (kupto 14)) w := by
  intro l J Jx W hW hJ hJx hY h0
  have h1 : 1 ≤ n := by omega
  refine callsIn_of_wp_marks Tryd.func103 rfl trivial ?_ rfl
  simp only [Tryd.ntmps103, List.size_toArray, List.length_cons, List.length_nil, Nat.reduceAdd, Nat.reduceSub, Array.replicate_succ, Array.replicate_zero, List.push_toArray, List.append_toArray, List.nil_append, List.cons_append]
  gi_wp2_with (refine ⟨trivial, ?_⟩; gi_at_call 104; refine (kinds_in (n - 1) _).mono ?_; rintro e w' ⟨rfl, rfl⟩)
  have hz : (W.alloc (.cells #[.func (.yield l) #[] #[]] 119)).heap.size = W.heap.size + 1 := World.size_alloc _ _
  refine wpIn_rangeFunc_ownH rfl h1 (gf := 130) (lb := #[]) rfl trivial (enters_of Tryd.func130 (by kernel_rfl) rfl) (kinds_seq (n - 1) (by omega) (fun _ _ => True) _) (fun _ _ => trivial) (fun _ _ _ _ _ _ _ _ => trivial) (Below.refl _ _) (fun _ => rfl)
    (NIn l bx W.heap.size s w J) (fun c _ X => c = .ret ∧ ∃ p, (∀ x ∈ p, x ∈ mflat s (kupto 14)) ∧ Jx p X)
    (by rw [hz]; exact NIn.own hJ hW.size) (fun c s' X Y row h hg hr => ⟨h.1, h.2.imp fun p hp => ⟨hp.1, own_up hJx (by rw [hz]; exact Nat.le_succ _) p X Y row hp.2 hg hr⟩⟩)
    ⟨hJ.alloc _ h0, hW.alloc hW.size _, by simp, by simp⟩
    (fun x a' _ => a' = { tmps := #[.func (.yield l) #[] #[], .pointer (some ⟨bx, 0, none⟩), .pointer (some ⟨W.heap.size, 0, none⟩), .int .i64 x.1, undef, undef, undef, undef, .func (.func 130) #[] #[], .int .i64 x.1, undef, undef, undef, undef, undef, undef, undef, undef, undef, undef, undef, undef, undef, undef, undef, undef, undef, undef, undef, undef, undef, undef, undef, undef, undef, undef, undef, undef, undef, undef, undef, undef, undef, undef], defers := [] })
    (fun _ _ _ _ _ _ hs _ _ => hs) ?assign ?body ?done ?stop
  case assign =>
    intro l2 pre x X K hi hK
    gi_wp2
    exact hK _ _ (KeepsFrom.refl _ _) trivial hi rfl
  case body =>
    rintro l2 pre k a' X hl2 ⟨r, hr⟩ hi rfl hlen
    rw [hz] at hl2 ⊢
    obtain ⟨k, hk14⟩ := k
    dsimp only at *
    have hN : 1 ≤ n - 1 - 1 := by omega
    obtain ⟨p1, d1, s1, q1, f1, u1, v1, c1, n1, hT, hTc⟩ := tell_out s k ea
    obtain ⟨p2, d2, s2, q2, f2, u2, v2, c2, n2, hD, hDc⟩ := do_out s k ea
    have hst : mstep s k = (if n1 = 0 ∧ c1 = true then [⟨p1, d1, s1, q1⟩] else []) ++ (if n2 = 0 then [⟨p2, d2, s2, q2⟩] else []) := by unfold mstep; rw [hT, hD]
    have HST := Lib.hid hst
    have HM : Hid (∀ y, y ∈ mflat s (pre.map (·.1)) ∨ y ∈ mstep s k → y ∈ mflat s (kupto 14)) := Lib.hid (fun y h => h.elim (flat_sub pre) (step_sub hk14))
    have HT := Lib.hid hTc; have HD := Lib.hid hDc
    clear hT hD hst hTc hDc
    have HI := Lib.hid hi
    have HBX := Lib.hid (hbx.below hi.be)
    have HE := Lib.hid (hE.below hi.be)
    obtain ⟨p, d, s0, h4⟩ := s
    have qb := HBX.out.cell
    have qy := hi.y
    have hj := hi.j
    have hbe := hi.be
    clear hi
    dsimp only at qb
    have EFF : ∀ (X' : World) (C : Array Value), Below X'.heap.size X' (X'.alloc (.cells C 172)) := fun X' C => (Below.refl _ _).alloc (Nat.le_refl _) _
    have HEF := Lib.hid EFF; clear EFF
    by_cases hn2 : n2 = 0
    · subst hn2
      have HD2 : Hid (∀ w, Err39 ea w → Calls Tryd.prog 106 #[.agg #[.int .i64 p, .int .i64 d, .int .i64 s0, .int .i64 h4], .int .i64 k] w (Makes (.tuple #[.agg #[.int .i64 p2, .int .i64 d2, .int .i64 s2, .int .i64 q2, .int .i64 f2, .int .i64 u2, .int .i64 v2, .bool c2], .nilIface]) w)) := Lib.hid (fun w hw => HD.out w hw)
      clear HD
      rw [if_pos (show (0 : Int) = 0 from rfl)] at HST
      by_cases hc1 : n1 = 0
      · subst hc1
        cases c1
        case true =>
          rw [if_pos ⟨rfl, rfl⟩] at HST
          have HT2 : Hid (∀ w, Err39 ea w → Calls Tryd.prog 105 #[.agg #[.int .i64 p, .int .i64 d, .int .i64 s0, .int .i64 h4], .int .i64 k] w (Makes (.tuple #[.agg #[.int .i64 p1, .int .i64 d1, .int .i64 s1, .int .i64 q1, .int .i64 f1, .int .i64 u1, .int .i64 v1, .bool true], .nilIface]) w)) := Lib.hid (fun w hw => HT.out w hw)
          clear HT
          gi_wp2_with fail
          refine ⟨trivial, ?_⟩
          refine (CallsIn.inRound l2 (callsIn_wide.2 (HT2.out _ HE.out))).mono ?_
          rintro e w4 ⟨rfl, hb4⟩
          have hb5 := below_then hb4 (HEF.out w4 #[.int .i64 p1, .int .i64 d1, .int .i64 s1, .int .i64 q1, .int .i64 f1, .int .i64 u1, .int .i64 v1, .bool true])
          have hj5 := own_below hJ hj hb5
          have qy5 : (w4.alloc (.cells #[.int .i64 p1, .int .i64 d1, .int .i64 s1, .int .i64 q1, .int .i64 f1, .int .i64 u1, .int .i64 v1, .bool true] 172)).cell? ⟨W.heap.size, 0, none⟩ = some (.func (.yield l) #[] #[]) := (hb5.cell (p := ⟨W.heap.size, 0, none⟩) (World.block_lt_of_cell? _ _ qy)).trans qy
          have HB5 := Lib.hid (HBX.out.below hb5)
          clear qb
          have qb := HB5.out.cell
          (try dsimp only at qb)
          obtain ⟨fn, tmps, assign, body, hy, hR⟩ := yield_any (l2 := l2) (m' := n - 1 - 1 - 1) (hY _ ⟨p1, d1, s1, q1⟩ _ hj5)
          dsimp only [seatV] at hy
          gi_wp2_with fail
          refine hR.mono ?_
          rintro e w6 (⟨rfl, hj6, hb6⟩ | ⟨rfl, hjx6, hk6⟩)
          · have hbq := below_then hb5 hb6
            have hjq := hj6
            have qyq : w6.cell? ⟨W.heap.size, 0, none⟩ = some (.func (.yield l) #[] #[]) := (hbq.cell (p := ⟨W.heap.size, 0, none⟩) (World.block_lt_of_cell? _ _ qy)).trans qy
            have BXQ := Lib.hid (HBX.out.below hbq)
            have HEQ := Lib.hid (HE.out.below hbq)
            clear qy5 hy hR
            clear qb
            have qb := BXQ.out.cell
            (try dsimp only at qb)
            gi_wp2_with fail
            refine ⟨trivial, ?_⟩
            refine (CallsIn.inRound l2 (callsIn_wide.2 (HD2.out _ HEQ.out))).mono ?_
            rintro e w8 ⟨rfl, hb8⟩
            have hb9 := below_then hb8 (HEF.out w8 #[.int .i64 p2, .int .i64 d2, .int .i64 s2, .int .i64 q2, .int .i64 f2, .int .i64 u2, .int .i64 v2, .bool c2])
            have hj9 := own_below hJ hjq hb9
            have hbr := below_then hbq hb9
            have qy9 : (w8.alloc (.cells #[.int .i64 p2, .int .i64 d2, .int .i64 s2, .int .i64 q2, .int .i64 f2, .int .i64 u2, .int .i64 v2, .bool c2] 172)).cell? ⟨W.heap.size, 0, none⟩ = some (.func (.yield l) #[] #[]) := (hb9.cell (p := ⟨W.heap.size, 0, none⟩) (World.block_lt_of_cell? _ _ qyq)).trans qyq
            clear qyq
            obtain ⟨fn, tmps, assign, body, hy, hR⟩ := yield_any (l2 := l2) (m' := n - 1 - 1 - 1) (hY _ ⟨p2, d2, s2, q2⟩ _ hj9)
            dsimp only [seatV] at hy
            gi_wp2_with fail
            refine hR.mono ?_
            rintro e w10 (⟨rfl, hj10, hb10⟩ | ⟨rfl, hjx10, hk10⟩)
            · have hbz := below_then hbr hb10
              gi_wp2_with fail
              exact ⟨below_keeps hbz, trivial, by rw [List.map_append, List.map_singleton, mflat_snoc, HST.out]; simpa using hj10, below_then hbe hbz, (hbz.cell (p := ⟨W.heap.size, 0, none⟩) (World.block_lt_of_cell? _ _ qy)).trans qy, Nat.lt_of_lt_of_le (World.block_lt_of_cell? _ _ qy) hbz.size⟩
            · gi_wp2_with fail
              exact ⟨(below_keeps hbr).trans (keeps_up hk10 (Nat.le_succ _)), rfl, _, fun y hy => HM.out y ((List.mem_append.1 hy).elim (fun h => (List.mem_append.1 h).imp id (fun h => by rw [HST.out]; exact List.mem_append_left _ h)) (fun h => .inr (by rw [HST.out]; exact List.mem_append_right _ h))), hjx10⟩
          · gi_wp2_with fail
            exact ⟨(below_keeps hb5).trans (keeps_up hk6 (Nat.le_succ _)), rfl, _, fun y hy => HM.out y ((List.mem_append.1 hy).imp id (fun h => by rw [HST.out]; exact List.mem_append_left _ h)), hjx6⟩
        case false =>
          rw [if_neg (by simp)] at HST
          have HT2 : Hid (∀ w, Err39 ea w → Calls Tryd.prog 105 #[.agg #[.int .i64 p, .int .i64 d, .int .i64 s0, .int .i64 h4], .int .i64 k] w (Makes (.tuple #[.agg #[.int .i64 p1, .int .i64 d1, .int .i64 s1, .int .i64 q1, .int .i64 f1, .int .i64 u1, .int .i64 v1, .bool false], .nilIface]) w)) := Lib.hid (fun w hw => HT.out w hw)
          clear HT
          gi_wp2_with fail
          refine ⟨trivial, ?_⟩
          refine (CallsIn.inRound l2 (callsIn_wide.2 (HT2.out _ HE.out))).mono ?_
          rintro e w4 ⟨rfl, hb4⟩
          have hb5 := below_then hb4 (HEF.out w4 #[.int .i64 p1, .int .i64 d1, .int .i64 s1, .int .i64 q1, .int .i64 f1, .int .i64 u1, .int .i64 v1, .bool false])
          have hj5 := own_below hJ hj hb5
          have qy5 : (w4.alloc (.cells #[.int .i64 p1, .int .i64 d1, .int .i64 s1, .int .i64 q1, .int .i64 f1, .int .i64 u1, .int .i64 v1, .bool false] 172)).cell? ⟨W.heap.size, 0, none⟩ = some (.func (.yield l) #[] #[]) := (hb5.cell (p := ⟨W.heap.size, 0, none⟩) (World.block_lt_of_cell? _ _ qy)).trans qy
          have hbq := hb5
          have hjq := hj5
          have qyq := qy5
          have BXQ := Lib.hid (HBX.out.below hbq)
          have HEQ := Lib.hid (HE.out.below hbq)
          clear qy5
          clear qb
          have qb := BXQ.out.cell
          (try dsimp only at qb)
          gi_wp2_with fail
          refine ⟨fun _ h => (by cases h), ?_⟩
          clear qb
          have qb := BXQ.out.cell
          (try dsimp only at qb)
          gi_wp2_with fail
          refine ⟨trivial, ?_⟩
          refine (CallsIn.inRound l2 (callsIn_wide.2 (HD2.out _ HEQ.out))).mono ?_
          rintro e w8 ⟨rfl, hb8⟩
          have hb9 := below_then hb8 (HEF.out w8 #[.int .i64 p2, .int .i64 d2, .int .i64 s2, .int .i64 q2, .int .i64 f2, .int .i64 u2, .int .i64 v2, .bool c2])
          have hj9 := own_below hJ hjq hb9
          have hbr := below_then hbq hb9
          have qy9 : (w8.alloc (.cells #[.int .i64 p2, .int .i64 d2, .int .i64 s2, .int .i64 q2, .int .i64 f2, .int .i64 u2, .int .i64 v2, .bool c2] 172)).cell? ⟨W.heap.size, 0, none⟩ = some (.func (.yield l) #[] #[]) := (hb9.cell (p := ⟨W.heap.size, 0, none⟩) (World.block_lt_of_cell? _ _ qyq)).trans qyq
          clear qyq
          obtain ⟨fn, tmps, assign, body, hy, hR⟩ := yield_any (l2 := l2) (m' := n - 1 - 1 - 1) (hY _ ⟨p2, d2, s2, q2⟩ _ hj9)
          dsimp only [seatV] at hy
          gi_wp2_with fail
          refine hR.mono ?_
          rintro e w10 (⟨rfl, hj10, hb10⟩ | ⟨rfl, hjx10, hk10⟩)
          · have hbz := below_then hbr hb10
            gi_wp2_with fail
            exact ⟨below_keeps hbz, trivial, by rw [List.map_append, List.map_singleton, mflat_snoc, HST.out]; simpa using hj10, below_then hbe hbz, (hbz.cell (p := ⟨W.heap.size, 0, none⟩) (World.block_lt_of_cell? _ _ qy)).trans qy, Nat.lt_of_lt_of_le (World.block_lt_of_cell? _ _ qy) hbz.size⟩
          · gi_wp2_with fail
            exact ⟨(below_keeps hbr).trans (keeps_up hk10 (Nat.le_succ _)), rfl, _, fun y hy => HM.out y ((List.mem_append.1 hy).imp id (fun h => by rw [HST.out]; exact List.mem_append_right _ h)), hjx10⟩
      · rw [if_neg (fun h => hc1 h.1)] at HST
        have HT2 : Hid (∀ w, Err39 ea w → Calls Tryd.prog 105 #[.agg #[.int .i64 p, .int .i64 d, .int .i64 s0, .int .i64 h4], .int .i64 k] w (Makes (.tuple #[.agg #[.int .i64 p1, .int .i64 d1, .int .i64 s1, .int .i64 q1, .int .i64 f1, .int .i64 u1, .int .i64 v1, .bool c1], errV (ea n1)]) w)) := Lib.hid (fun w hw => errOf_no hc1 ▸ HT.out w hw)
        clear HT
        gi_wp2_with fail
        refine ⟨trivial, ?_⟩
        refine (CallsIn.inRound l2 (callsIn_wide.2 (HT2.out _ HE.out))).mono ?_
        rintro e w4 ⟨rfl, hb4⟩
        have hb5 := below_then hb4 (HEF.out w4 #[.int .i64 p1, .int .i64 d1, .int .i64 s1, .int .i64 q1, .int .i64 f1, .int .i64 u1, .int .i64 v1, .bool c1])
        have hj5 := own_below hJ hj hb5
        have qy5 : (w4.alloc (.cells #[.int .i64 p1, .int .i64 d1, .int .i64 s1, .int .i64 q1, .int .i64 f1, .int .i64 u1, .int .i64 v1, .bool c1] 172)).cell? ⟨W.heap.size, 0, none⟩ = some (.func (.yield l) #[] #[]) := (hb5.cell (p := ⟨W.heap.size, 0, none⟩) (World.block_lt_of_cell? _ _ qy)).trans qy
        have hbq := hb5
        have hjq := hj5
        have qyq := qy5
        have BXQ := Lib.hid (HBX.out.below hbq)
        have HEQ := Lib.hid (HE.out.below hbq)
        clear qy5
        clear qb
        have qb := BXQ.out.cell
        (try dsimp only at qb)
        gi_wp2_with fail
        refine ⟨fun _ h => (by cases h), ?_⟩
        clear qb
        have qb := BXQ.out.cell
        (try dsimp only at qb)
        gi_wp2_with fail
        refine ⟨trivial, ?_⟩
        refine (CallsIn.inRound l2 (callsIn_wide.2 (HD2.out _ HEQ.out))).mono ?_
        rintro e w8 ⟨rfl, hb8⟩
        have hb9 := below_then hb8 (HEF.out w8 #[.int .i64 p2, .int .i64 d2, .int .i64 s2, .int .i64 q2, .int .i64 f2, .int .i64 u2, .int .i64 v2, .bool c2])
        have hj9 := own_below hJ hjq hb9
        have hbr := below_then hbq hb9
        have qy9 : (w8.alloc (.cells #[.int .i64 p2, .int .i64 d2, .int .i64 s2, .int .i64 q2, .int .i64 f2, .int .i64 u2, .int .i64 v2, .bool c2] 172)).cell? ⟨W.heap.size, 0, none⟩ = some (.func (.yield l) #[] #[]) := (hb9.cell (p := ⟨W.heap.size, 0, none⟩) (World.block_lt_of_cell? _ _ qyq)).trans qyq
        clear qyq
        obtain ⟨fn, tmps, assign, body, hy, hR⟩ := yield_any (l2 := l2) (m' := n - 1 - 1 - 1) (hY _ ⟨p2, d2, s2, q2⟩ _ hj9)
        dsimp only [seatV] at hy
        gi_wp2_with fail
        refine hR.mono ?_
        rintro e w10 (⟨rfl, hj10, hb10⟩ | ⟨rfl, hjx10, hk10⟩)
        · have hbz := below_then hbr hb10
          gi_wp2_with fail
          exact ⟨below_keeps hbz, trivial, by rw [List.map_append, List.map_singleton, mflat_snoc, HST.out]; simpa using hj10, below_then hbe hbz, (hbz.cell (p := ⟨W.heap.size, 0, none⟩) (World.block_lt_of_cell? _ _ qy)).trans qy, Nat.lt_of_lt_of_le (World.block_lt_of_cell? _ _ qy) hbz.size⟩
        · gi_wp2_with fail
          exact ⟨(below_keeps hbr).trans (keeps_up hk10 (Nat.le_succ _)), rfl, _, fun y hy => HM.out y ((List.mem_append.1 hy).imp id (fun h => by rw [HST.out]; exact List.mem_append_right _ h)), hjx10⟩
    · have HD2 : Hid (∀ w, Err39 ea w → Calls Tryd.prog 106 #[.agg #[.int .i64 p, .int .i64 d, .int .i64 s0, .int .i64 h4], .int .i64 k] w (Makes (.tuple #[.agg #[.int .i64 p2, .int .i64 d2, .int .i64 s2, .int .i64 q2, .int .i64 f2, .int .i64 u2, .int .i64 v2, .bool c2], errV (ea n2)]) w)) := Lib.hid (fun w hw => errOf_no hn2 ▸ HD.out w hw)
      clear HD
      rw [if_neg hn2] at HST
      by_cases hc1 : n1 = 0
      · subst hc1
        cases c1
        case true =>
          rw [if_pos ⟨rfl, rfl⟩] at HST
          have HT2 : Hid (∀ w, Err39 ea w → Calls Tryd.prog 105 #[.agg #[.int .i64 p, .int .i64 d, .int .i64 s0, .int .i64 h4], .int .i64 k] w (Makes (.tuple #[.agg #[.int .i64 p1, .int .i64 d1, .int .i64 s1, .int .i64 q1, .int .i64 f1, .int .i64 u1, .int .i64 v1, .bool true], .nilIface]) w)) := Lib.hid (fun w hw => HT.out w hw)
          clear HT
          gi_wp2_with fail
          refine ⟨trivial, ?_⟩
          refine (CallsIn.inRound l2 (callsIn_wide.2 (HT2.out _ HE.out))).mono ?_
          rintro e w4 ⟨rfl, hb4⟩
          have hb5 := below_then hb4 (HEF.out w4 #[.int .i64 p1, .int .i64 d1, .int .i64 s1, .int .i64 q1, .int .i64 f1, .int .i64 u1, .int .i64 v1, .bool true])
          have hj5 := own_below hJ hj hb5
          have qy5 : (w4.alloc (.cells #[.int .i64 p1, .int .i64 d1, .int .i64 s1, .int .i64 q1, .int .i64 f1, .int .i64 u1, .int .i64 v1, .bool true] 172)).cell? ⟨W.heap.size, 0, none⟩ = some (.func (.yield l) #[] #[]) := (hb5.cell (p := ⟨W.heap.size, 0, none⟩) (World.block_lt_of_cell? _ _ qy)).trans qy
          have HB5 := Lib.hid (HBX.out.below hb5)
          clear qb
          have qb := HB5.out.cell
          (try dsimp only at qb)
          obtain ⟨fn, tmps, assign, body, hy, hR⟩ := yield_any (l2 := l2) (m' := n - 1 - 1 - 1) (hY _ ⟨p1, d1, s1, q1⟩ _ hj5)
          dsimp only [seatV] at hy
          gi_wp2_with fail
          refine hR.mono ?_
          rintro e w6 (⟨rfl, hj6, hb6⟩ | ⟨rfl, hjx6, hk6⟩)
          · have hbq := below_then hb5 hb6
            have hjq := hj6
            have qyq : w6.cell? ⟨W.heap.size, 0, none⟩ = some (.func (.yield l) #[] #[]) := (hbq.cell (p := ⟨W.heap.size, 0, none⟩) (World.block_lt_of_cell? _ _ qy)).trans qy
            have BXQ := Lib.hid (HBX.out.below hbq)
            have HEQ := Lib.hid (HE.out.below hbq)
            clear qy5 hy hR
            clear qb
            have qb := BXQ.out.cell
            (try dsimp only at qb)
            gi_wp2_with fail
            refine ⟨trivial, ?_⟩
            refine (CallsIn.inRound l2 (callsIn_wide.2 (HD2.out _ HEQ.out))).mono ?_
            rintro e w8 ⟨rfl, hb8⟩
            have hb9 := below_then hb8 (HEF.out w8 #[.int .i64 p2, .int .i64 d2, .int .i64 s2, .int .i64 q2, .int .i64 f2, .int .i64 u2, .int .i64 v2, .bool c2])
            have hj9 := own_below hJ hjq hb9
            have hbr := below_then hbq hb9
            have qy9 : (w8.alloc (.cells #[.int .i64 p2, .int .i64 d2, .int .i64 s2, .int .i64 q2, .int .i64 f2, .int .i64 u2, .int .i64 v2, .bool c2] 172)).cell? ⟨W.heap.size, 0, none⟩ = some (.func (.yield l) #[] #[]) := (hb9.cell (p := ⟨W.heap.size, 0, none⟩) (World.block_lt_of_cell? _ _ qyq)).trans qyq
            clear qyq
            gi_wp2_with fail
            refine ⟨fun _ h => (by cases h), ?_⟩
            gi_wp2_with fail
            exact ⟨below_keeps hbr, trivial, by rw [List.map_append, List.map_singleton, mflat_snoc, HST.out]; simpa using hj9, below_then hbe hbr, (hbr.cell (p := ⟨W.heap.size, 0, none⟩) (World.block_lt_of_cell? _ _ qy)).trans qy, Nat.lt_of_lt_of_le (World.block_lt_of_cell? _ _ qy) hbr.size⟩
          · gi_wp2_with fail
            exact ⟨(below_keeps hb5).trans (keeps_up hk6 (Nat.le_succ _)), rfl, _, fun y hy => HM.out y ((List.mem_append.1 hy).imp id (fun h => by rw [HST.out]; exact List.mem_append_left _ h)), hjx6⟩
        case false =>
          rw [if_neg (by simp)] at HST
          have HT2 : Hid (∀ w, Err39 ea w → Calls Tryd.prog 105 #[.agg #[.int .i64 p, .int .i64 d, .int .i64 s0, .int .i64 h4], .int .i64 k] w (Makes (.tuple #[.agg #[.int .i64 p1, .int .i64 d1, .int .i64 s1, .int .i64 q1, .int .i64 f1, .int .i64 u1, .int .i64 v1, .bool false], .nilIface]) w)) := Lib.hid (fun w hw => HT.out w hw)
          clear HT
          gi_wp2_with fail
          refine ⟨trivial, ?_⟩
          refine (CallsIn.inRound l2 (callsIn_wide.2 (HT2.out _ HE.out))).mono ?_
          rintro e w4 ⟨rfl, hb4⟩
          have hb5 := below_then hb4 (HEF.out w4 #[.int .i64 p1, .int .i64 d1, .int .i64 s1, .int .i64 q1, .int .i64 f1, .int .i64 u1, .int .i64 v1, .bool false])
          have hj5 := own_below hJ hj hb5
          have qy5 : (w4.alloc (.cells #[.int .i64 p1, .int .i64 d1, .int .i64 s1, .int .i64 q1, .int .i64 f1, .int .i64 u1, .int .i64 v1, .bool false] 172)).cell? ⟨W.heap.size, 0, none⟩ = some (.func (.yield l) #[] #[]) := (hb5.cell (p := ⟨W.heap.size, 0, none⟩) (World.block_lt_of_cell? _ _ qy)).trans qy
          have hbq := hb5
          have hjq := hj5
          have qyq := qy5
          have BXQ := Lib.hid (HBX.out.below hbq)
          have HEQ := Lib.hid (HE.out.below hbq)
          clear qy5
          clear qb
          have qb := BXQ.out.cell
          (try dsimp only at qb)
          gi_wp2_with fail
          refine ⟨fun _ h => (by cases h), ?_⟩
          clear qb
          have qb := BXQ.out.cell
          (try dsimp only at qb)
          gi_wp2_with fail
          refine ⟨trivial, ?_⟩
          refine (CallsIn.inRound l2 (callsIn_wide.2 (HD2.out _ HEQ.out))).mono ?_
          rintro e w8 ⟨rfl, hb8⟩
          have hb9 := below_then hb8 (HEF.out w8 #[.int .i64 p2, .int .i64 d2, .int .i64 s2, .int .i64 q2, .int .i64 f2, .int .i64 u2, .int .i64 v2, .bool c2])
          have hj9 := own_below hJ hjq hb9
          have hbr := below_then hbq hb9
          have qy9 : (w8.alloc (.cells #[.int .i64 p2, .int .i64 d2, .int .i64 s2, .int .i64 q2, .int .i64 f2, .int .i64 u2, .int .i64 v2, .bool c2] 172)).cell? ⟨W.heap.size, 0, none⟩ = some (.func (.yield l) #[] #[]) := (hb9.cell (p := ⟨W.heap.size, 0, none⟩) (World.block_lt_of_cell? _ _ qyq)).trans qyq
          clear qyq
          gi_wp2_with fail
          refine ⟨fun _ h => (by cases h), ?_⟩
          gi_wp2_with fail
          exact ⟨below_keeps hbr, trivial, by rw [List.map_append, List.map_singleton, mflat_snoc, HST.out]; simpa using hj9, below_then hbe hbr, (hbr.cell (p := ⟨W.heap.size, 0, none⟩) (World.block_lt_of_cell? _ _ qy)).trans qy, Nat.lt_of_lt_of_le (World.block_lt_of_cell? _ _ qy) hbr.size⟩
      · rw [if_neg (fun h => hc1 h.1)] at HST
        have HT2 : Hid (∀ w, Err39 ea w → Calls Tryd.prog 105 #[.agg #[.int .i64 p, .int .i64 d, .int .i64 s0, .int .i64 h4], .int .i64 k] w (Makes (.tuple #[.agg #[.int .i64 p1, .int .i64 d1, .int .i64 s1, .int .i64 q1, .int .i64 f1, .int .i64 u1, .int .i64 v1, .bool c1], errV (ea n1)]) w)) := Lib.hid (fun w hw => errOf_no hc1 ▸ HT.out w hw)
        clear HT
        gi_wp2_with fail
        refine ⟨trivial, ?_⟩
        refine (CallsIn.inRound l2 (callsIn_wide.2 (HT2.out _ HE.out))).mono ?_
        rintro e w4 ⟨rfl, hb4⟩
        have hb5 := below_then hb4 (HEF.out w4 #[.int .i64 p1, .int .i64 d1, .int .i64 s1, .int .i64 q1, .int .i64 f1, .int .i64 u1, .int .i64 v1, .bool c1])
        have hj5 := own_below hJ hj hb5
        have qy5 : (w4.alloc (.cells #[.int .i64 p1, .int .i64 d1, .int .i64 s1, .int .i64 q1, .int .i64 f1, .int .i64 u1, .int .i64 v1, .bool c1] 172)).cell? ⟨W.heap.size, 0, none⟩ = some (.func (.yield l) #[] #[]) := (hb5.cell (p := ⟨W.heap.size, 0, none⟩) (World.block_lt_of_cell? _ _ qy)).trans qy
        have hbq := hb5
        have hjq := hj5
        have qyq := qy5
        have BXQ := Lib.hid (HBX.out.below hbq)
        have HEQ := Lib.hid (HE.out.below hbq)
        clear qy5
        clear qb
        have qb := BXQ.out.cell
        (try dsimp only at qb)
        gi_wp2_with fail
        refine ⟨fun _ h => (by cases h), ?_⟩
        clear qb
        have qb := BXQ.out.cell
        (try dsimp only at qb)
        gi_wp2_with fail
        refine ⟨trivial, ?_⟩
        refine (CallsIn.inRound l2 (callsIn_wide.2 (HD2.out _ HEQ.out))).mono ?_
        rintro e w8 ⟨rfl, hb8⟩
        have hb9 := below_then hb8 (HEF.out w8 #[.int .i64 p2, .int .i64 d2, .int .i64 s2, .int .i64 q2, .int .i64 f2, .int .i64 u2, .int .i64 v2, .bool c2])
        have hj9 := own_below hJ hjq hb9
        have hbr := below_then hbq hb9
        have qy9 : (w8.alloc (.cells #[.int .i64 p2, .int .i64 d2, .int .i64 s2, .int .i64 q2, .int .i64 f2, .int .i64 u2, .int .i64 v2, .bool c2] 172)).cell? ⟨W.heap.size, 0, none⟩ = some (.func (.yield l) #[] #[]) := (hb9.cell (p := ⟨W.heap.size, 0, none⟩) (World.block_lt_of_cell? _ _ qyq)).trans qyq
        clear qyq
        gi_wp2_with fail
        refine ⟨fun _ h => (by cases h), ?_⟩
        gi_wp2_with fail
        exact ⟨below_keeps hbr, trivial, by rw [List.map_append, List.map_singleton, mflat_snoc, HST.out]; simpa using hj9, below_then hbe hbr, (hbr.cell (p := ⟨W.heap.size, 0, none⟩) (World.block_lt_of_cell? _ _ qy)).trans qy, Nat.lt_of_lt_of_le (World.block_lt_of_cell? _ _ qy) hbr.size⟩
  case done =>
    rintro D xs X hD hxs hi hK
    have hj := hi.j
    rw [hxs] at hj
    gi_wp2
    refine ⟨by simp, .inl ⟨_, _, rfl, run_takeDeferred hK, ?_⟩⟩
    exact ⟨_, results_none rfl _ _ _, ⟨_, rfl⟩, .inl ⟨_, rfl, hJ.putObj _ hj (by rw [hz] at hD; omega) hK rfl⟩⟩
  case stop =>
    rintro D c pre X hD _ ⟨rfl, p', hok, hjx⟩ hK
    gi_wp2
    refine ⟨by simp, .inl ⟨_, _, rfl, run_takeDeferred hK, ?_⟩⟩
    exact ⟨_, results_none rfl _ _ _, ⟨_, rfl⟩, .inr ⟨_, hok, hJx.putObj _ hjx (by rw [hz] at hD; omega) hK rfl⟩⟩
end Go.Proofs.YtkidljiffeonjaaDoor
