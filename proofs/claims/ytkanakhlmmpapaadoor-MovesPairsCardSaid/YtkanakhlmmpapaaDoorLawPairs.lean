/- MovesPairs, walked. -/
import Derived.Test.YtkanakhlmmpapaaDoorRows
import Derived.WalkKit
import Derived.WalkSpells
import Derived.WalkLawsBesides
import Derived.BigQuiet
import Derived.Deep.QuietTactic
import Derived.StillTailTactics
import Derived.Handy
import Derived.Lib.Hide
import Derived.Test.YtkanakhlmmpapaaDoorMovQ
import Derived.Test.YtkanakhlmmpapaaDoorMovOpen
import Derived.Deep.RegionWith
set_option linter.unusedSimpArgs false
set_option linter.unusedVariables false
namespace Go.Proofs.YtkanakhlmmpapaaDoor
open Go.RowKit

theorem pseat1_of (B g : Nat) (v : Value) (P : MPair) (w : World) (h : PairIn B g v P w) : Calls Tryd.prog 12 #[.pointer (some ⟨g, 0, none⟩), .int .i64 1] w (Makes (seatV P.c) w) := seat_of B g v P 1 w h
theorem pseat2_of (B g : Nat) (v : Value) (P : MPair) (w : World) (h : PairIn B g v P w) : Calls Tryd.prog 12 #[.pointer (some ⟨g, 0, none⟩), .int .i64 2] w (Makes (seatV P.x) w) := seat_of B g v P 2 w h
theorem pseat0_of (B g : Nat) (v : Value) (P : MPair) (w : World) (h : PairIn B g v P w) : Calls Tryd.prog 12 #[.pointer (some ⟨g, 0, none⟩), .int .i64 0] w (Makes (.agg #[.int .i64 0, .int .i64 0, .int .i64 0, .int .i64 0]) w) := seat_of B g v P 0 w h
theorem pseat3_of (B g : Nat) (v : Value) (P : MPair) (w : World) (h : PairIn B g v P w) : Calls Tryd.prog 12 #[.pointer (some ⟨g, 0, none⟩), .int .i64 3] w (Makes (.agg #[.int .i64 0, .int .i64 0, .int .i64 0, .int .i64 0]) w) := seat_of B g v P 3 w h

def pk (Q : MPair) (d : Int) : MSeat := if mSide d = true then Q.seat d else seat0
theorem pk1 (Q : MPair) : pk Q 1 = Q.c := rfl
theorem pk2 (Q : MPair) : pk Q 2 = Q.x := rfl
theorem pseat_of (B g : Nat) (v : Value) (Q : MPair) (d : Int) (w : World) (h : PairIn B g v Q w) : Calls Tryd.prog 12 #[.pointer (some ⟨g, 0, none⟩), .int .i64 d] w (Makes (seatV (pk Q d)) w) := seat_of B g v Q d w h
theorem own_block {w : World} {B : Nat} {e : TypeId} {size n c : Nat} {a : Option Addr} {xs : List Value} (h : w.ownsRow B e size (.slice a n c) n xs) (hn : 0 < n) : ∃ b, a = some ⟨b, 0, none⟩ ∧ n ≤ c := by
  rcases h.2 with ⟨h0, _⟩ | ⟨b', cap', cur, h0, hbB, hbh, hcap, hcm, hcs, htk⟩
  · simp only [Value.slice.injEq] at h0; omega
  · simp only [Value.slice.injEq] at h0
    obtain ⟨rfl, _, rfl⟩ := h0
    exact ⟨b', rfl, hcap⟩

set_option maxRecDepth 100000 in
set_option maxHeartbeats 8000000 in
theorem law_pairs (p : Int) (v0 : Value) (ops : List MOp) (ea : Int → Addr) (w : World) (hE : Errs ea w) (hR : ReadOps w v0 ops) : Calls Tryd.prog 8 #[.int .i64 p, v0] w (Makes (.bool true) w) := by
  obtain ⟨a, cap, rfl, hcells⟩ := hR
  obtain ⟨n, hn⟩ : ∃ n, n = ops.length := ⟨_, rfl⟩
  rw [← hn]
  have HC := Lib.hid hcells; clear hcells
  have HN := Lib.hid hn; clear hn
  by_cases hbig : (200 : Int) < (n : Int)
  · go_enter Tryd.func8, Tryd.ntmps8
    go_wp2_with (go_at_call 9; refine (alive11 ea _ hE.five).mono ?_; rintro e w1 ⟨rfl, hb1⟩)
    go_ret
    exact ⟨rfl, hb1⟩
  by_cases hp : p = 1 ∨ p = 2
  · have hp1 : ¬ (p < 1) := by omega
    have hp2 : ¬ (2 < p) := by omega
    go_enter Tryd.func8, Tryd.ntmps8
    go_wp2_with fail
    refine (alive11 ea _ hE.five).mono ?_
    rintro e w1 ⟨rfl, hb1⟩
    go_wp2_with fail
    refine (newPair_yes p hp w1).mono ?_
    rintro e w2 ⟨g, v, rfl, hP, hb2⟩
    have HP2 := Lib.hid hP; clear hP
    go_wp2_with fail
    refine (gnewPair_of p w2).mono ?_
    rintro e w3 ⟨g', sb, v', rfl, hM, hb3⟩
    have hS : Step w1 g g' sb [] (newPair p) (newPair p) w3 := by
      have h1 := HP2.out.blk.lt
      have hlt := fun k => HP2.out.own.lt k
      have h2 := hM.base; have h3 := hM.bases
      have hlt' := fun k => hM.own.lt k
      have hs := hb2.size
      refine ⟨below_then hb2 hb3, ⟨v, v', ⟨HP2.out.rel hb3, ?_, by omega, by omega, fun e => by have := (hlt _ e).2; omega, fun e => by have := (hlt _ e).2; omega, fun e => by have := (hlt' _ e).1; omega, fun k hk e => by have := (hlt _ e).2; have := (hlt' _ hk).1; omega⟩, fun x hx => by simp at hx⟩, fun x hx => by simp at hx⟩
      exact ⟨by omega, by omega, hM.ne, hM.blk, hM.sblk, ownsRow_mono hM.own hs, hM.apart, hM.aparts⟩
    have HS3 := Lib.hid hS; clear hS hM HP2
    go_wp2_with fail
    go_loopw [45] (fun i wr => ∃ k P, k ≤ n ∧ i = .int .i64 (k : Nat) ∧ Ok P ∧ Step w1 g g' sb [] P P wr) (fun i _ => n - (intOf i).toNat)
    case atStart => exact ⟨0, newPair p, by omega, by go_num, Ok.new hp, HS3.out⟩
    case round =>
      obtain ⟨k, P, hk, rfl, hO, hS⟩ := hrel
      have hB := hS.be
      have HS := Lib.hid hS; clear hS
      by_cases hlt : k < n
      · have hlo : k < ops.length := by rw [← HN.out]; exact hlt
        have hB0 : Below w.heap.size w wr := below_then hb1 hB
        obtain ⟨b, off, rfl, hbl, hops⟩ := HC.out (by intro e; rw [e] at hlo; simp at hlo)
        obtain ⟨o, ho⟩ : ∃ o, o = ops[k] := ⟨_, rfl⟩
        have hoa := (hops k hlo).below hB0 hbl
        rw [← ho] at hoa
        obtain ⟨a0, a1, a2, a3, a4⟩ := hoa
        clear hops ho hlo
        have hki : (k : Int) < (n : Int) := by omega
        have hk0 : (0 : Int) ≤ (k : Int) := by omega
        have OK := Lib.hid hO; clear hO
        have HE := Lib.hid (hE.below hb1)
        obtain ⟨Q, hQ⟩ : ∃ Q, Q = (lDo P o).1 := ⟨_, rfl⟩
        have OK2 : Hid (Ok Q) := by rw [hQ]; exact Lib.hid (OK.out.step o)
        have LS := Lib.hid (fun W L (h : Step w1 g g' sb L P P W) => lstep_of w1 g g' sb L P o ea W HE.out h OK.out)
        rw [← hQ] at LS
        clear hQ OK HE
        obtain ⟨wh, sd, kd, at_, cp⟩ := o
        dsimp only [opV] at *
        have HSA := Lib.hid (HS.out.add #[.int .i64 wh, .int .i64 sd, .int .i64 kd, .int .i64 at_, .bool cp] 30)
        have hz0 := hB0.size; have hzB := hB.size
        go_wp2_with fail
        obtain ⟨⟨cp0, cd0, cs0, ch0⟩, ⟨xp0, xd0, xs0, xh0⟩, fl⟩ := Q
        go_cut [75] from 49 to 74 (fun s75 wx => s75 = .bool false ∧ Step w1 g g' sb [] ⟨⟨cp0, cd0, cs0, ch0⟩, ⟨xp0, xd0, xs0, xh0⟩, fl⟩ ⟨⟨cp0, cd0, cs0, ch0⟩, ⟨xp0, xd0, xs0, xh0⟩, fl⟩ wx)
        case first =>
          --FIRST
          have qo := HSA.out.blk.cell
          obtain ⟨v1, v2, hd, hv⟩ := HSA.out.ex
          have qg := hd.m.blk.cell
          clear hd hv
          go_region_with
            (first
              | (go_at_call 31; refine (LS.out _ _ (HSA.out.rel (by go_grown))).mono ?_; rintro e w4 ⟨rfl, hs⟩; clear qo qg; have HS4 := Lib.hid hs; have qo := hs.blk.cell; obtain ⟨v5, v6, hd, hv⟩ := hs.ex; have qg := hd.m.blk.cell; have qs := hd.m.sblk.cell; have HP := Lib.hid hd.p; have HM := Lib.hid hd.m; clear hs hd hv)
              | (go_at_call 12; refine (pseat_of w1.heap.size g v5 _ _ _ (HP.out.rel (by go_grown))).mono ?_; rintro e w5 ⟨he, hb⟩; simp only [pk1, pk2, seatV] at he; subst he; clear qo qg qs; have HS4 := Lib.hid (HS4.out.rel (below_then (by go_grown) hb)); have HP := Lib.hid (HP.out.rel (below_then (by go_grown) hb)); have HM := Lib.hid (HM.out.rel (below_then (by go_grown) hb)); have qo := HS4.out.blk.cell; have qg := HM.out.blk.cell; have qs := HM.out.sblk.cell))
          all_goals (go_wp2_with fail; go_meet)
          all_goals exact ⟨rfl, HS4.out.tail⟩
          --END
        case rest =>
          clear HSA LS a0 a1 a2 a3 a4 hz0
          obtain ⟨rfl, hcut⟩ := hcut
          have HS := Lib.hid hcut
          have hBc := hcut.be
          obtain ⟨v5, v6, hd, _⟩ := hcut.ex
          have HP := Lib.hid hd.p; have HM := Lib.hid hd.m
          clear hcut hd
          have hlen : fl.length ≤ 1000 := by have := OK2.out.len; dsimp only at this; omega
          go_wp2_with fail
          refine (flight_of w1.heap.size g v5 _ _ HP.out hlen).mono ?_
          rintro e w5 ⟨vf, rfl, hof, hb5⟩
          dsimp only at hof
          obtain ⟨af, cf, rfl⟩ := own_slice hof
          have HS5 := Lib.hid (HS.out.rel hb5)
          have HM5 := HM.out.rel hb5
          obtain ⟨am, cm, rfl⟩ := own_slice HM5.own
          have qg : w5.cell? ⟨g', 1, none⟩ = some (.slice am fl.length cm) := HM5.blk.cell 1
          have hgl := HM5.blk.lt
          have hom := Lib.hid HM5.own
          have HOF := Lib.hid hof
          clear hof HM5 HM HP HS
          obtain ⟨m, hm⟩ : ∃ m, m = fl.length := ⟨_, rfl⟩
          dsimp only at qg hom
          rw [← hm] at qg hom HOF hlen ⊢
          have HMM := Lib.hid hm; clear hm
          go_wp2_with fail
          go_loopw [88] (fun i wx => ∃ j : Nat, j ≤ m ∧ i = .int .i64 (j : Nat) ∧ Below w5.heap.size w5 wx) (fun i _ => m - (intOf i).toNat)
          case atStart => exact ⟨0, by omega, by go_num, Below.refl _ _⟩
          case round =>
            obtain ⟨j, hj, rfl, hBj⟩ := hrel
            by_cases hjm : j < m
            · obtain ⟨bf, rfl, hcf⟩ := own_block HOF.out (by omega)
              obtain ⟨bm, rfl, hcm⟩ := own_block hom.out (by omega)
              have hjf : j < fl.length := by rw [← HMM.out]; exact hjm
              have hfv := flV_at fl j hjf
              obtain ⟨⟨ft, fk⟩, hfm⟩ : ∃ q, q = fl[j] := ⟨_, rfl⟩
              rw [← hfm] at hfv
              have hl1 := (HOF.out.lt bf rfl).2
              have hl2 := (hom.out.lt bm rfl).2
              have c1 := (hBj.cell (p := ⟨bf, j * 2, none⟩) hl1).trans ((HOF.out.cellAt (j * 2) (by rw [HMM.out]; omega)).trans hfv.1)
              have c2 := (hBj.cell (p := ⟨bf, j * 2 + 1, none⟩) hl1).trans ((HOF.out.cellAt (j * 2 + 1) (by rw [HMM.out]; omega)).trans hfv.2)
              have c3 := (hBj.cell (p := ⟨bm, j * 2, none⟩) hl2).trans ((hom.out.cellAt (j * 2) (by rw [HMM.out]; omega)).trans hfv.1)
              have c4 := (hBj.cell (p := ⟨bm, j * 2 + 1, none⟩) hl2).trans ((hom.out.cellAt (j * 2 + 1) (by rw [HMM.out]; omega)).trans hfv.2)
              have c5 := (hBj.cell (p := ⟨g', 1, none⟩) hgl).trans qg
              dsimp only at c1 c2 c3 c4 c5
              clear hfv hfm hjf HOF hom hl1 hl2 qg
              have hj0 : (0 : Int) ≤ (j : Int) := by omega
              have hji : (j : Int) < (m : Int) := by omega
              go_wp2_with fail
              go_quiet (fail)
              all_goals go_wp2_with fail
              all_goals (go_roundw <;> first | exact ⟨j + 1, by omega, by go_num, below_then hBj (by first | exact (Below.refl _ _).drewN _ | exact ⟨rfl, rfl, rfl, Nat.le_refl _, fun _ _ => rfl⟩)⟩ | (simp [intOf]; omega))
            · obtain rfl : j = m := by omega
              have HS6 := Lib.hid (HS5.out.rel hBj)
              go_wp2_with fail
              go_roundw <;> first | exact ⟨k + 1, _, by omega, by go_num, OK2.out, HS6.out⟩ | (simp [intOf]; omega)
      · obtain rfl : k = n := by omega
        obtain ⟨v1, v2, hd, _⟩ := HS.out.ex
        have HP := Lib.hid hd.p; clear hd
        go_wp2_with fail
        refine (pseat0_of w1.heap.size g v1 P wr HP.out).mono ?_
        rintro e w4 ⟨rfl, hb4⟩
        have HP := Lib.hid (HP.out.rel hb4)
        go_wp2_with fail
        refine (pseat3_of w1.heap.size g v1 P _ (HP.out.rel (by go_grown))).mono ?_
        rintro e w5 ⟨rfl, hb5⟩
        go_wp2_with fail
        go_ret
        exact ⟨rfl, below_then (below_then hb1 hB) (below_then hb4 (below_then (by go_grown) hb5))⟩
  · have HN14 := Lib.hid (fun W (hW : Errs ea W) => num_some 14 (by decide) ea W hW)
    go_enter Tryd.func8, Tryd.ntmps8
    go_wp2_with fail
    refine (alive11 ea _ hE.five).mono ?_
    rintro e w1 ⟨rfl, hb1⟩
    go_wp2_with fail
    refine (newPair_no p hp (ea 14) w1 (hE.below hb1).e14).mono ?_
    rintro e w2 ⟨rfl, hb2⟩
    have hB2 := below_then hb1 hb2
    by_cases h1 : p < 1
    · clear hp
      go_wp2_with fail
      refine (HN14.out _ (hE.below hB2)).mono ?_
      rintro e w3 ⟨rfl, hb3⟩
      go_wp2_with fail
      go_ret
      exact ⟨ret_bool (by simp), below_then hB2 hb3⟩
    · have h2 : 2 < p := by omega
      clear hp
      go_wp2_with fail
      refine (HN14.out _ (hE.below hB2)).mono ?_
      rintro e w3 ⟨rfl, hb3⟩
      go_wp2_with fail
      go_ret
      exact ⟨ret_bool (by simp), below_then hB2 hb3⟩
end Go.Proofs.YtkanakhlmmpapaaDoor
