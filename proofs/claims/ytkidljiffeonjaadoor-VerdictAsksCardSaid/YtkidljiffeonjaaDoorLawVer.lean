/- VerdictAsks, walked. -/
import Derived.Test.YtkidljiffeonjaaDoorRows
import Derived.WalkKit
import Derived.WalkSpells
import Derived.WalkLawsBesides
import Derived.BigQuiet
import Derived.Deep.QuietTactic
import Derived.StillTailTactics
import Derived.Handy
import Derived.Lib.Hide
import Derived.Test.YtkidljiffeonjaaDoorVerF
import Derived.Deep.RegionHeld3
set_option linter.unusedSimpArgs false
set_option linter.unusedVariables false
namespace Go.Proofs.YtkidljiffeonjaaDoor
open Go.RowKit
attribute [local go_sem] store_float

def SeatAt (w : World) (b o : Nat) (x : MSeat) : Prop := w.cell? ⟨b, o, none⟩ = some (.int .i64 x.p) ∧ w.cell? ⟨b, o + 1, none⟩ = some (.int .i64 x.d) ∧ w.cell? ⟨b, o + 2, none⟩ = some (.int .i64 x.s) ∧ w.cell? ⟨b, o + 3, none⟩ = some (.int .i64 x.h)
def ReadSeats (w : World) (v : Value) (xs : List MSeat) : Prop := ∃ a cap, v = .slice a xs.length cap ∧ (xs ≠ [] → ∃ b off, a = some ⟨b, off, none⟩ ∧ b < w.heap.size ∧ ∀ (j : Nat) (h : j < xs.length), SeatAt w b (off + j * 4) xs[j])
theorem SeatAt.below {w w' : World} {b o : Nat} {x : MSeat} (h : SeatAt w b o x) (hb : Below w.heap.size w w') (hl : b < w.heap.size) : SeatAt w' b o x :=
  ⟨(hb.cell (p := ⟨b, o, none⟩) hl).trans h.1, (hb.cell (p := ⟨b, o + 1, none⟩) hl).trans h.2.1, (hb.cell (p := ⟨b, o + 2, none⟩) hl).trans h.2.2.1, (hb.cell (p := ⟨b, o + 3, none⟩) hl).trans h.2.2.2⟩
theorem infoRegA : (Tryd.prog.info? 54).map (fun i => (i.zero, i.size, i.bytes)) = some (some (.agg #[.int .i64 0, .int .i64 0, .int .i64 0, .int .i64 0, .int .i64 0, .int .i64 0]), 6, 48) := by kernel_rfl
theorem infoRegM : (Tryd.prog.info? 57).map (fun i => (i.zero, i.size, i.bytes)) = some (some (.agg #[.int .i64 0, .int .i64 0, .int .i64 0, .int .i64 0, .int .i64 0, .int .i64 0]), 6, 48) := by kernel_rfl
theorem six_new (w : World) (s : MSeat) (T : TypeId) : ∀ j u, (reg6 s)[j]? = some u → (w.alloc (.cells #[.int .i64 0, .int .i64 0, .int .i64 s.p, .int .i64 s.d, .int .i64 s.s, .int .i64 s.h] T)).cell? ((⟨w.heap.size, 0, none⟩ : Addr).add j) = some u := by
  intro j u hu
  rw [Addr.add_lit, Nat.zero_add]
  refine ((Blk.fresh w _ T _ rfl).cell j).trans ?_
  rw [← hu]
  simp [reg6]
theorem six_new' (w : World) (s : MSeat) (T : TypeId) (b : Nat) (hb : b = w.heap.size) : ∀ j u, (reg6 s)[j]? = some u → (w.alloc (.cells #[.int .i64 0, .int .i64 0, .int .i64 s.p, .int .i64 s.d, .int .i64 s.s, .int .i64 s.h] T)).cell? ((⟨b, 0, none⟩ : Addr).add j) = some u := by
  subst hb
  exact six_new w s T
theorem six_cells (s : MSeat) : ∀ u ∈ reg6 s, u.oneCell' = true := by
  intro u hu
  simp only [reg6, List.mem_cons, List.not_mem_nil, or_false] at hu
  rcases hu with rfl | rfl | rfl | rfl | rfl | rfl <;> rfl
theorem own_slice {w : World} {B : Nat} {e : TypeId} {size : Nat} {v : Value} {n : Nat} {xs : List Value} (h : w.ownsRow B e size v n xs) : ∃ a cap, v = .slice a n cap := by
  rcases h.2 with ⟨rfl, rfl⟩ | ⟨g, cap, cur, rfl, _⟩
  · exact ⟨_, _, rfl⟩
  · exact ⟨_, _, rfl⟩
theorem ready_eq (s : MSeat) (h : mRight s = true) : rReady s = qReady s ∧ rOne s = qCloses s ∧ rTwo s = qUndoes s := by
  rcases right_cases s h with ⟨h1, h2⟩ | ⟨h1, h2⟩ | ⟨h1, h2⟩ | ⟨h1, h2⟩ | ⟨h1, h2⟩ | ⟨h1, h2⟩ | ⟨h1, h2⟩ <;> simp [rReady, qReady, rOne, qCloses, rTwo, qUndoes, h1, h2]
theorem all_eq {ss : List MSeat} {q r : MSeat → Bool} (h : ∀ s ∈ ss, q s = r s) : ss.all q = ss.all r := by
  rw [Bool.eq_iff_iff, List.all_eq_true, List.all_eq_true]
  exact ⟨fun g s hs => by rw [← h s hs]; exact g s hs, fun g s hs => by rw [h s hs]; exact g s hs⟩
theorem uni_eq {ss : List MSeat} (h : ∀ s ∈ ss, mRight s = true) : (!(ss.any rOne) || !(ss.any rTwo)) = ((ss.all fun s => !(qCloses s)) || (ss.all fun s => !(qUndoes s))) := by
  rw [List.not_any_eq_all_not, List.not_any_eq_all_not]
  rw [all_eq (q := fun s => !(rOne s)) (r := fun s => !(qCloses s)) (fun s hs => by rw [(ready_eq s (h s hs)).2.1]), all_eq (q := fun s => !(rTwo s)) (r := fun s => !(qUndoes s)) (fun s hs => by rw [(ready_eq s (h s hs)).2.2])]

set_option maxRecDepth 100000 in
set_option maxHeartbeats 8000000 in
theorem law_verdict (v0 : Value) (xs : List MSeat) (ea : Int → Addr) (w : World) (hE : Err2 ea w) (hR : ReadSeats w v0 xs) : Calls Tryd.prog 4 #[v0] w (Makes (.bool true) w) := by
  obtain ⟨a, cap, rfl, hcells⟩ := hR
  obtain ⟨n, hn⟩ : ∃ n, n = xs.length := ⟨_, rfl⟩
  rw [← hn]
  have HC := Lib.hid hcells; clear hcells
  have HN := Lib.hid hn; clear hn
  by_cases hbig : (30 : Int) < (n : Int)
  · go_enter Tryd.func4, Tryd.ntmps4
    go_wp2_with fail
    refine (alive18 _).mono ?_
    rintro e w1 ⟨rfl, hb1⟩
    go_wp2_with fail
    go_ret
    exact ⟨rfl, hb1⟩
  have hn30 : n ≤ 30 := by omega
  have HE := Lib.hid hE; clear hE
  go_enter Tryd.func4, Tryd.ntmps4
  go_wp2_with fail
  refine (alive18 _).mono ?_
  rintro e w1 ⟨rfl, hb1⟩
  go_wp2_with fail
  go_loopw [18] (fun i wr => ∃ (k : Nat) (va vm : Value), k ≤ n ∧ i = .int .i64 (k : Nat) ∧ Rows2 w1.heap.size w1.heap.size (w1.heap.size + 1) va vm (xs.take k) (xs.take k) w1 wr ∧ (∀ s ∈ xs.take k, mRight s = true)) (fun i _ => n - (intOf i).toNat)
  case atStart =>
    refine ⟨0, .slice none 0 0, .slice none 0 0, by omega, by go_num, ⟨by go_grown, (Blk.fresh w1 _ _ _ rfl).alloc _, Blk.fresh _ _ _ _ (by simp), by simpa [rowV] using World.ownsRow_nil _ _ _ _, by simpa [rowV] using World.ownsRow_nil _ _ _ _, Nat.le_refl _, by omega, by omega, by simp [Value.ownBlock], by simp [Value.ownBlock], by simp [Value.ownBlock], by simp [Value.ownBlock], by simp [Value.ownBlock]⟩, by simp⟩
  case round =>
    obtain ⟨k, va, vm, hk, rfl, hrows, hright⟩ := hrel
    have hB := hrows.be.mono (Nat.le_refl _)
    have HRW := Lib.hid hrows; have HRT := Lib.hid hright
    clear hrows hright
    have hszB := hB.size
    by_cases hlt : k < n
    · have hks : k < xs.length := by rw [← HN.out]; exact hlt
      obtain ⟨b, off, rfl, hbl, hseat⟩ := HC.out (by intro e; rw [e] at hks; simp at hks)
      obtain ⟨s, hs⟩ : ∃ s, s = xs[k] := ⟨_, rfl⟩
      have hat := (hseat k hks).below (below_then hb1 hB) hbl
      rw [← hs] at hat
      obtain ⟨c0, c1, c2, c3⟩ := hat
      have HS := Lib.hid hs
      clear hseat hs
      have hki : (k : Int) < (n : Int) := by omega
      have hk0 : (0 : Int) ≤ (k : Int) := by omega
      have hlen : (xs.take k).length = k := by rw [List.length_take]; omega
      have HG := Lib.hid (fun W hW => right_of2 s ea W hW)
      obtain ⟨t, ht⟩ : ∃ t, t = mRight s := ⟨_, rfl⟩
      rw [← ht] at HG
      have HT := Lib.hid ht; clear ht
      obtain ⟨sp, sd, st, sh⟩ := s
      dsimp only [seatV] at *
      have hBw : Below w.heap.size w wr := below_then hb1 hB
      go_wp2_with fail
      refine (HG.out _ (HE.out.below (below_then hBw (by go_grown)))).mono ?_
      rintro e w2 ⟨rfl, hb2⟩
      have hB2 : Below wr.heap.size wr w2 := below_then (by go_grown) hb2
      cases t with
      | false =>
        go_wp2_with fail
        go_ret
        exact ⟨rfl, below_then hBw hB2⟩
      | true =>
        have hz2 := hB2.size
        have R2 := HRW.out.rel (by omega) hB2
        have KT := ((Blk.fresh wr #[.int .i64 sp, .int .i64 sd, .int .i64 st, .int .i64 sh] 52 _ rfl).below hb2)
        have nT : va.ownBlock ≠ some wr.heap.size ∧ vm.ownBlock ≠ some wr.heap.size := ⟨fun e => by have := (HRW.out.oa.lt _ e).2; omega, fun e => by have := (HRW.out.om.lt _ e).2; omega⟩
        have hz1 : wr.heap.size < w2.heap.size := KT.lt
        have lA0 := HRW.out.hA.lt
        have q1 := R2.hA.cell
        have q2 := KT.cell
        have q3 : ∀ o, (w2.alloc o).cell? ⟨w1.heap.size, 7, none⟩ = some va := fun o => (R2.hA.alloc o).cell 7
        have oa2 := R2.oa
        have R3 := Lib.hid (R2.rel (by omega) ((Below.refl _ _).alloc (Nat.le_refl _) (.cells #[.int .i64 0, .int .i64 0, .int .i64 sp, .int .i64 sd, .int .i64 st, .int .i64 sh] 54)))
        have HKT := Lib.hid KT
        clear R2 KT
        obtain ⟨i0, ei, ez, es, eb⟩ := info_parts infoRegA
        obtain ⟨j0, fi, fz, fs, fb⟩ := info_parts infoRegM
        rw [hlen] at oa2
        have HOA := Lib.hid oa2; clear oa2
        go_wp2_with (at_builtin; go_loud (refine wpList_append_own_at _ rfl _ _ 45 rfl w1.heap.size 54 i0 (.agg #[.int .i64 0, .int .i64 0, .int .i64 0, .int .i64 0, .int .i64 0, .int .i64 0]) 6 48 Tryd.underlying45 ei ez es eb rfl (by decide) _ _ _ rfl (HOA.out.alloc _) ⟨w2.heap.size, 0, none⟩ 1 1 (reg6 ⟨sp, sd, st, sh⟩) rfl rfl (six_new _ ⟨sp, sd, st, sh⟩ _) (six_cells _) ?c3 ?c4 ?c5 ?_))
        case c3 => unfold maxLen; omega
        case c4 => omega
        case c5 => simp; omega
        · intro v' w3 hown1 hgrow _ hat
          have hz3 := hgrow.size
          simp only [World.size_alloc] at hz3
          obtain ⟨a1, cap1, rfl⟩ := own_slice hown1
          have lA := R3.out.hA.lt; have lM := R3.out.hM.lt
          have kA := R3.out.hA.kept hgrow.size (hgrow.block _ lA (fun e => R3.out.aA e.symm))
          have kM := R3.out.hM.kept hgrow.size (hgrow.block _ lM (fun e => R3.out.aM e.symm))
          have kT := (HKT.out.alloc (.cells #[.int .i64 0, .int .i64 0, .int .i64 sp, .int .i64 sd, .int .i64 st, .int .i64 sh] 54)).kept hgrow.size (hgrow.block _ (HKT.out.alloc _).lt (fun e => nT.1 e.symm))
          have R4 := Lib.hid (R3.out.pushA (by simp; omega) ⟨sp, sd, st, sh⟩ hown1 (by rw [hlen]) rfl hgrow (by simpa using hat))
          have p1 : w3.cell? ⟨w1.heap.size, 7, none⟩ = some va := kA.cell 7
          have p2 := kA.free 7
          have p3 : w3.cell? ⟨w1.heap.size + 1, 7, none⟩ = some vm := kM.cell 7
          have p5 := kT.cell
          have hTA : wr.heap.size ≠ w1.heap.size := by omega
          have hKT2 := Lib.hid kT
          have om4 := R4.out.om
          rw [hlen] at om4
          have HOM := Lib.hid om4
          clear hown1 hgrow hat kA kM kT q1 q2 q3 om4 HKT
          go_wp2_with (at_builtin; go_loud (refine wpList_append_own_at _ rfl _ _ 48 rfl w1.heap.size 57 j0 (.agg #[.int .i64 0, .int .i64 0, .int .i64 0, .int .i64 0, .int .i64 0, .int .i64 0]) 6 48 Tryd.underlying48 fi fz fs fb rfl (by decide) _ _ _ rfl (HOM.out.alloc _) ⟨w3.heap.size, 0, none⟩ 1 1 (reg6 ⟨sp, sd, st, sh⟩) rfl rfl (six_new' _ ⟨sp, sd, st, sh⟩ _ _ (by simp)) (six_cells _) ?d3 ?d4 ?d5 ?_))
          case d3 => unfold maxLen; omega
          case d4 => omega
          case d5 => simp; omega
          · intro v' w5 hown2 hgrow2 _ hat2
            have R5 := R4.out.rel (by simp; omega) ((Below.refl _ _).alloc (Nat.le_refl _) (.cells #[.int .i64 0, .int .i64 0, .int .i64 sp, .int .i64 sd, .int .i64 st, .int .i64 sh] 57))
            have lM5 := R5.hM.lt
            have kM := R5.hM.kept hgrow2.size (hgrow2.block _ lM5 (fun e => R5.mM e.symm))
            have p6 : w5.cell? ⟨w1.heap.size + 1, 7, none⟩ = some vm := kM.cell 7
            have p7 := kM.free 7
            obtain ⟨a2, cap2, rfl⟩ := own_slice hown2
            have R6 := Lib.hid (R5.pushM (by simp; omega) ⟨sp, sd, st, sh⟩ hown2 (by rw [hlen]) rfl hgrow2 (by simpa using hat2))
            have htk : xs.take k ++ [⟨sp, sd, st, sh⟩] = xs.take (k + 1) := by rw [HS.out, List.take_succ_eq_append_getElem hks]
            rw [htk] at R6
            have HRT2 : Hid (∀ s ∈ xs.take (k + 1), mRight s = true) := Lib.hid (fun s hs => by
              rw [← htk, List.mem_append, List.mem_singleton] at hs
              rcases hs with hs | rfl
              · exact HRT.out s hs
              · exact HT.out.symm)
            clear hown2 hgrow2 hat2 R5 kM htk
            go_wp2_with fail
            all_goals (go_roundw <;> first | exact ⟨k + 1, _, _, by omega, by go_num, R6.out, HRT2.out⟩ | (simp [intOf]; omega))
    · obtain rfl : k = n := by omega
      have hss : xs.take k = xs := List.take_of_length_le (by rw [HN.out]; omega)
      rw [hss] at HRW HRT
      have hl : xs.length ≤ 1000 := by rw [← HN.out]; omega
      have ra := regRow_of_own HRW.out.oa
      have rm := regRow_of_own HRW.out.om
      have H1 := Lib.hid (fun W hW => vready_of va xs W (ra.below hW) hl)
      have H2 := Lib.hid (fun W hW => vover_of va xs W (ra.below hW) hl)
      have H3 := Lib.hid (fun W hW => vuniform_of va xs W (ra.below hW) hl)
      have H4 := Lib.hid (fun W hW => vcounted_of va xs W (ra.below hW) hl)
      have G1 := Lib.hid (fun W hW => rready_of vm xs W (rm.below hW) hl)
      have G2 := Lib.hid (fun W hW => rover_of vm xs W (rm.below hW) hl)
      have G3 := Lib.hid (fun W hW => runiform_of vm xs W (rm.below hW) hl)
      have G4 := Lib.hid (fun W hW => rcounted_of vm xs W (rm.below hW) hl HRT.out)
      rw [all_eq (fun s hs => (ready_eq s (HRT.out s hs)).1)] at G1
      rw [all_eq (q := rOver) (r := qOver) (fun s _ => rfl)] at G2
      rw [uni_eq HRT.out] at G3
      have HA := Lib.hid HRW.out.hA
      have HM := Lib.hid HRW.out.hM
      have hBw : Below w.heap.size w wr := below_then hb1 hB
      obtain ⟨a1, cap1, rfl⟩ := own_slice HRW.out.oa
      obtain ⟨a2, cap2, rfl⟩ := own_slice HRW.out.om
      generalize xs.all qReady = t1 at *
      generalize xs.all qOver = t2 at *
      generalize ((xs.all fun s => !(qCloses s)) || (xs.all fun s => !(qUndoes s))) = t3 at *
      generalize cnt xs = f at *
      unfold cntA at H4
      dsimp only [actV, actC] at *
      have q := HA.out.cell
      clear ra rm hl HRW HRT HC hss
      generalize xs.length = m at *
      go_wp2_with fail
      refine (H4.out _ (Below.refl _ _)).mono ?_
      rintro e w4 ⟨rfl, hb4⟩
      clear q
      have HBW : Below wr.heap.size wr ((w4.alloc (.cells #[.int .i64 (f 0), .int .i64 (f 1), .int .i64 (f 2), .int .i64 (f 3), .int .i64 (f 4), .int .i64 (f 5), .int .i64 (f 6)] 59)).alloc (.cells #[.int .i64 (f 0), .int .i64 (f 1), .int .i64 (f 2), .int .i64 (f 3), .int .i64 (f 4), .int .i64 (f 5), .int .i64 (f 6)] 3)) := below_then hb4 (by go_grown)
      have HG : Hid (Blk ((w4.alloc (.cells #[.int .i64 (f 0), .int .i64 (f 1), .int .i64 (f 2), .int .i64 (f 3), .int .i64 (f 4), .int .i64 (f 5), .int .i64 (f 6)] 59)).alloc (.cells #[.int .i64 (f 0), .int .i64 (f 1), .int .i64 (f 2), .int .i64 (f 3), .int .i64 (f 4), .int .i64 (f 5), .int .i64 (f 6)] 3)) (w4.heap.size + 1) (cntA f)) := Lib.hid (Blk.fresh _ _ _ _ (by simp))
      have q := (HA.out.below HBW).cell
      have r := (HM.out.below HBW).cell
      go_wp2_with fail
      go_region_held3 (fun w' => w'.cell? ⟨w1.heap.size, 0, none⟩ = some (.int .i64 0) ∧ w'.cell? ⟨w1.heap.size, 1, none⟩ = some (.int .i64 0) ∧ w'.cell? ⟨w1.heap.size, 2, none⟩ = some (.int .i64 0) ∧ w'.cell? ⟨w1.heap.size, 3, none⟩ = some (.int .i64 0) ∧ w'.cell? ⟨w1.heap.size, 4, none⟩ = some (.float .f64 0) ∧ w'.cell? ⟨w1.heap.size, 5, none⟩ = some (.int .i64 0) ∧ w'.cell? ⟨w1.heap.size, 6, none⟩ = some (.int .i64 0) ∧ w'.cell? ⟨w1.heap.size, 7, none⟩ = some (.slice a1 m cap1) ∧ w'.cell? ⟨w1.heap.size + 1, 0, none⟩ = some (.int .i64 0) ∧ w'.cell? ⟨w1.heap.size + 1, 1, none⟩ = some (.int .i64 0) ∧ w'.cell? ⟨w1.heap.size + 1, 2, none⟩ = some (.int .i64 0) ∧ w'.cell? ⟨w1.heap.size + 1, 3, none⟩ = some (.int .i64 0) ∧ w'.cell? ⟨w1.heap.size + 1, 4, none⟩ = some (.float .f64 0) ∧ w'.cell? ⟨w1.heap.size + 1, 5, none⟩ = some (.int .i64 0) ∧ w'.cell? ⟨w1.heap.size + 1, 6, none⟩ = some (.int .i64 0) ∧ w'.cell? ⟨w1.heap.size + 1, 7, none⟩ = some (.slice a2 m cap2))
        (first | exact ⟨q 0, q 1, q 2, q 3, q 4, q 5, q 6, q 7, r 0, r 1, r 2, r 3, r 4, r 5, r 6, r 7⟩ | go_keep)
        (first
          | (go_at_call 19; refine (H1.out _ (below_then HBW (by go_grown))).mono ?_; rintro e w9 ⟨rfl, hb9⟩; have HBW := below_then HBW (below_then (by go_grown) hb9); have HG := Lib.hid (HG.out.below (below_then (by go_grown) hb9)); clear q r; have q := (HA.out.below HBW).cell; have r := (HM.out.below HBW).cell)
          | (go_at_call 20; refine (G1.out _ (below_then HBW (by go_grown))).mono ?_; rintro e w9 ⟨rfl, hb9⟩; have HBW := below_then HBW (below_then (by go_grown) hb9); have HG := Lib.hid (HG.out.below (below_then (by go_grown) hb9)); clear q r; have q := (HA.out.below HBW).cell; have r := (HM.out.below HBW).cell)
          | (go_at_call 21; refine (H2.out _ (below_then HBW (by go_grown))).mono ?_; rintro e w9 ⟨rfl, hb9⟩; have HBW := below_then HBW (below_then (by go_grown) hb9); have HG := Lib.hid (HG.out.below (below_then (by go_grown) hb9)); clear q r; have q := (HA.out.below HBW).cell; have r := (HM.out.below HBW).cell)
          | (go_at_call 22; refine (G2.out _ (below_then HBW (by go_grown))).mono ?_; rintro e w9 ⟨rfl, hb9⟩; have HBW := below_then HBW (below_then (by go_grown) hb9); have HG := Lib.hid (HG.out.below (below_then (by go_grown) hb9)); clear q r; have q := (HA.out.below HBW).cell; have r := (HM.out.below HBW).cell)
          | (go_at_call 23; refine (H3.out _ (below_then HBW (by go_grown))).mono ?_; rintro e w9 ⟨rfl, hb9⟩; have HBW := below_then HBW (below_then (by go_grown) hb9); have HG := Lib.hid (HG.out.below (below_then (by go_grown) hb9)); clear q r; have q := (HA.out.below HBW).cell; have r := (HM.out.below HBW).cell)
          | (go_at_call 24; refine (G3.out _ (below_then HBW (by go_grown))).mono ?_; rintro e w9 ⟨rfl, hb9⟩; have HBW := below_then HBW (below_then (by go_grown) hb9); have HG := Lib.hid (HG.out.below (below_then (by go_grown) hb9)); clear q r; have q := (HA.out.below HBW).cell; have r := (HM.out.below HBW).cell)
          | (go_at_call 26; refine (G4.out _ (below_then HBW (by go_grown))).mono ?_; rintro e w9 ⟨rfl, hO, hb9⟩; have HBW := below_then HBW (below_then (by go_grown) hb9); have HG := Lib.hid (HG.out.below (below_then (by go_grown) hb9)); clear q r; have q := (HA.out.below HBW).cell; have r := (HM.out.below HBW).cell; have HO := Lib.hid hO)
          | (go_at_call 25; refine (same7 _ _ f _ (HG.out.below (by go_grown)) (HO.out.below (by go_grown))).mono ?_; rintro e w9 ⟨rfl, hb9⟩; have HBW := below_then HBW (below_then (by go_grown) hb9); clear q r; have q := (HA.out.below HBW).cell; have r := (HM.out.below HBW).cell))
      all_goals go_wp2_with fail
      all_goals go_ret
      all_goals exact ⟨ret_bool (by simp), below_then hBw HBW⟩
end Go.Proofs.YtkidljiffeonjaaDoor
