/- TablesEnd, walked. -/
import Derived.Test.YtaoejkjkgdnpmaaDoorRows
import Derived.WalkKit
import Derived.WalkSpells
import Derived.WalkLawsBesides
import Derived.BigQuiet
import Derived.Deep.QuietTactic
import Derived.StillTailTactics
import Derived.Handy
import Derived.Lib.Hide
import Derived.Test.YtaoejkjkgdnpmaaDoorBfsNext
import Derived.Maps.AppendAt
set_option linter.unusedSimpArgs false
set_option linter.unusedVariables false
namespace Go.Proofs.YtaoejkjkgdnpmaaDoor
open Go.RowKit

def ApartV (v u : Value) : Prop := ∀ g, u.ownBlock = some g → v.ownBlock ≠ some g
theorem ReadI.grown {w w' : World} {u v : Value} {xs : List Int} (h : ReadI w u xs) (hg : w.grownBy w' v.ownBlock) (ha : ApartV v u) : ReadI w' u xs := by
  obtain ⟨a, cap, rfl, h⟩ := h
  refine ⟨a, cap, rfl, fun hne => ?_⟩
  obtain ⟨g, rfl, h2, h3⟩ := h hne
  refine ⟨g, rfl, Nat.lt_of_lt_of_le h2 hg.size, fun i hi => ?_⟩
  exact (World.cell?_of_block (a := ⟨g, i, none⟩) (hg.block g h2 (fun e => ha g rfl e.symm))).trans (h3 i hi)
theorem ownI_slice {B : Nat} {v : Value} {xs : List Int} {w : World} (h : OwnI B v xs w) : ∃ a cap, v = .slice a xs.length cap := by
  have h' : w.ownsRow B 3 1 v xs.length (xs.map (Value.int .i64)) := h
  rcases h'.2 with ⟨rfl, h0⟩ | ⟨g, cap, cur, rfl, _⟩
  · exact ⟨none, 0, by rw [h0]⟩
  · exact ⟨_, _, rfl⟩
theorem fold_succ (ns acc : List Int) (j : Nat) (h : j < ns.length) : (ns.take (j + 1)).foldl addN acc = addN ((ns.take j).foldl addN acc) ns[j] := by
  rw [List.take_succ_eq_append_getElem h, List.foldl_append]; rfl
theorem side_bd {p d : Int} (h : rSide p d = true) : (1 ≤ p ∧ p ≤ 2) ∧ (1 ≤ d ∧ d ≤ 2) := by
  unfold rSide at h
  simp only [decide_eq_true_eq] at h
  omega
/-- what a row says, by its places -/
theorem row_facts (r : BRow) (h : r.ok = true) : r.full.length ≤ 14 ∧ r.m.getD 0 0 = 1 ∧ r.full.take 1 = [r.s] ∧ r.m.getD r.full.length 0 = r.full.length ∧ r.full.contains 14 = true
    ∧ ∀ i, i < r.full.length → i < r.m.getD i 0 ∧ r.m.getD i 0 ≤ r.full.length ∧ (nextL r.p r.d (r.full.getD i 0)).foldl addN (r.full.take (r.m.getD i 0)) = r.full.take (r.m.getD (i + 1) 0) ∧ ∀ n ∈ nextL r.p r.d (r.full.getD i 0), (upto (rHas r.p r.d)).contains n = true := by
  unfold BRow.ok at h
  simp only [Bool.and_eq_true, decide_eq_true_eq, List.all_eq_true, List.mem_range] at h
  obtain ⟨⟨⟨⟨⟨⟨_, h2⟩, h3⟩, h4⟩, h5⟩, h6⟩, h7⟩ := h
  exact ⟨h2, h3, h4, h5, h6, fun i hi => ⟨(h7 i hi).1.1.1, (h7 i hi).1.1.2, (h7 i hi).1.2, (h7 i hi).2⟩⟩

set_option maxRecDepth 100000 in
set_option maxHeartbeats 8000000 in
theorem law_end (p d st : Int) (ea : Int → Addr) (w : World) (hE : Err3 ea w) (h9 : ErrIs w 8 (ea 9)) : Calls Tryd.prog 8 #[.agg #[.int .i64 p, .int .i64 d], .int .i64 st] w (Makes (.bool true) w) := by
  have hmf : ∀ (fn : Fn) (first cap : Array Value) (w : World), (Instr.makeFunc fn first cap).run Tryd.prog w = .ok (.func fn first cap) w := fun _ _ _ _ => rfl
  have HE := Lib.hid hE; have H9 := Lib.hid h9
  have HK := Lib.hid (Blk.fresh w #[.int .i64 p, .int .i64 d] 31 _ rfl)
  clear hE h9
  have hB0 : Below w.heap.size w (w.alloc (.cells #[.int .i64 p, .int .i64 d] 31)) := (Below.refl _ _).alloc (Nat.le_refl _) _
  have HA := Lib.hid (fun W hW => alive10 ea W hW)
  cases hsd : rSide p d with
  | false =>
    have HN := Lib.hid (fun W hW => states_no p d (ea 14) W hW hsd)
    clear hsd
    go_enter Tryd.func8, Tryd.ntmps8
    go_wp2_with fail
    refine (HA.out _ (HE.out.below hB0)).mono ?_
    rintro e w1 ⟨rfl, hb1⟩
    have hB1 := below_then hB0 hb1
    have q := (HK.out.below hb1).cell
    go_wp2_with fail
    refine (HN.out _ (HE.out.below hB1).e14).mono ?_
    rintro e w2 ⟨rfl, hb2⟩
    go_wp2_with fail
    go_ret
    exact ⟨rfl, below_then hB1 hb2⟩
  | true =>
    obtain ⟨hp, hd⟩ := side_bd hsd
    have HSt := Lib.hid (fun W => states_yes p d W hsd)
    have HTk := Lib.hid (fun W => takes_yes p d W hsd)
    have HSn := Lib.hid (fun W => sends_yes p d W hsd)
    obtain ⟨e14, c14⟩ := ended_none p d hp hd
    have E14 := Lib.hid e14; have C14 := Lib.hid c14
    have lS := upto_le (rHas p d)
    clear hsd e14 c14
    go_enter Tryd.func8, Tryd.ntmps8
    go_wp2_with fail
    refine (HA.out _ (HE.out.below hB0)).mono ?_
    rintro e w1 ⟨rfl, hb1⟩
    have hB1 := below_then hB0 hb1
    have K1 := Lib.hid (HK.out.below hb1)
    have q := K1.out.cell
    go_wp2_with fail
    refine (HSt.out _).mono ?_
    rintro e w2 ⟨v1, rfl, o1, hb2⟩
    have hB2 := below_then hB1 hb2
    have R1 := Lib.hid o1.read; clear o1
    have K2 := Lib.hid (K1.out.below hb2); clear q
    have q := K2.out.cell
    go_wp2_with fail
    refine (HTk.out _).mono ?_
    rintro e w3 ⟨v2, rfl, o2, hb3⟩
    have hB3 := below_then hB2 hb3
    have R1 := Lib.hid (R1.out.below hb3)
    have R2 := Lib.hid o2.read
    obtain ⟨a2, c2, rfl⟩ := ownI_slice o2
    clear o2
    have K3 := Lib.hid (K2.out.below hb3); clear q
    have q := fun o => (K3.out.alloc o).cell
    have hk3 := K3.out.lt
    go_wp2_with fail
    refine (HSn.out _).mono ?_
    rintro e w4 ⟨v3, rfl, o3, hb4⟩
    have hB4 : Below w.heap.size w w4 := below_then hB3 (below_then (by go_grown) hb4)
    have hB34 : Below w3.heap.size w3 w4 := below_then (by go_grown) hb4
    have R1 := Lib.hid (R1.out.below hB34)
    have R2 := Lib.hid (R2.out.below hB34)
    have R3 := Lib.hid o3.read
    obtain ⟨a3, c3, rfl⟩ := ownI_slice o3
    clear o3 q
    have K4 := Lib.hid (K3.out.below hB34)
    have KT := Lib.hid ((Blk.fresh w3 #[.slice a2 (upto (rTakes p d)).length c2] 44 _ rfl).below hb4)
    -- the world in which the closure is made
    have hNX := fun x W (hW : Below (w4.alloc (.cells #[.slice a3 (upto (rSends p d)).length c3] 44)).heap.size (w4.alloc (.cells #[.slice a3 (upto (rSends p d)).length c3] 44)) W) =>
      next_of p d x w3.heap.size w.heap.size w4.heap.size _ _ ea W (HE.out.below ((hB4.alloc hB4.size _).trans (hW.mono (by have := hB4.size; simp; omega)))) (H9.out.below ((hB4.alloc hB4.size _).trans (hW.mono (by have := hB4.size; simp; omega)))) ((KT.out.alloc _).below hW) ((K4.out.alloc _).below hW) ((Blk.fresh w4 _ _ _ rfl).below hW) ((R2.out.below ((Below.refl _ _).alloc (Nat.le_refl _) _)).below hW) ((R3.out.below ((Below.refl _ _).alloc (Nat.le_refl _) _)).below hW)
    have NX := Lib.hid hNX
    have R1 := Lib.hid (R1.out.below ((Below.refl _ _).alloc (Nat.le_refl _) (.cells #[.slice a3 (upto (rSends p d)).length c3] 44)))
    have hBW : Below w.heap.size w (w4.alloc (.cells #[.slice a3 (upto (rSends p d)).length c3] 44)) := hB4.alloc hB4.size _
    clear hNX R2 R3 KT K4 K3 K2 K1 HSt HTk HSn HA
    go_wp2_with fail
    refine (NX.out 14 _ (Below.refl _ _)).mono ?_
    rintro e w5 ⟨v5, rfl, o5, hb5⟩
    rw [E14.out] at o5
    obtain ⟨a5, c5, rfl⟩ := ownI_slice o5
    clear o5
    have R1 := Lib.hid (R1.out.below hb5)
    have hB5 : Below w.heap.size w w5 := below_then hBW hb5
    have HIn := Lib.hid (fun n W (h : ReadI W v1 (upto (rHas p d))) => in_any (upto (rHas p d)) n v1 W h (by omega))
    have h14 := fun W h => HIn.out 14 W h
    rw [C14.out] at h14
    have I14 := Lib.hid h14; clear h14
    simp only [List.length_nil]
    go_wp2_with fail
    refine (I14.out _ R1.out).mono ?_
    rintro e w6 ⟨rfl, rfl⟩
    go_wp2_with fail
    obtain ⟨c, hc⟩ : ∃ c, c = (upto (rHas p d)).contains st := ⟨_, rfl⟩
    have hI := HIn.out st _ R1.out
    rw [← hc] at hI
    refine hI.mono ?_
    rintro e w6 ⟨rfl, rfl⟩
    clear hI
    cases c with
    | false =>
      clear hc
      go_wp2_with fail
      go_ret
      exact ⟨rfl, hB5⟩
    | true =>
      obtain ⟨⟨rp, rd, rs, full, m⟩, hok, e1, e2, e3⟩ := row_of p d st hp hd hc.symm
      have hf := row_facts _ hok
      dsimp only at e1 e2 e3 hf
      subst e1 e2 e3
      obtain ⟨f1, f2, f3, f4, f5, f6⟩ := hf
      have F5 := Lib.hid f5; have F6 := Lib.hid f6; have F2 := Lib.hid f2; have F3 := Lib.hid f3
      clear hok f5 f6 f2 f3 hc HIn I14 E14
      have HIn := Lib.hid (fun n W (h : ReadI W v1 (upto (rHas rp rd))) => in_any (upto (rHas rp rd)) n v1 W h (by omega))
      obtain ⟨N, hN⟩ : ∃ N, N = full.length := ⟨_, rfl⟩
      rw [← hN] at f1 f4
      have HN := Lib.hid hN
      rw [← hN] at F6; clear hN
      have F4 := Lib.hid f4; clear f4
      have hb4n : Below (w4.alloc (.cells #[.slice a3 (upto (rSends rp rd)).length c3] 44)).heap.size (w4.alloc (.cells #[.slice a3 (upto (rSends rp rd)).length c3] 44)) w5 := hb5
      obtain ⟨i0, ei, ez, es, eb⟩ := info_parts infoInt
      go_wp2_with fail
      go_loopw [12, 13] (fun v i wr => ∃ k : Nat, k ≤ N ∧ i = .int .i64 k ∧ OwnI w5.heap.size v (full.take (m.getD k 0)) wr ∧ Below w5.heap.size w5 wr) (fun _ i _ => N - (intOf i).toNat)
      case atStart =>
        refine ⟨0, by omega, rfl, ?_, by go_grown⟩
        rw [F2.out, F3.out]
        exact World.ownsRow_lit w5 #[.int .i64 rs] 1 (Nat.le_refl _) (by decide) rfl
      case round =>
        obtain ⟨k, hk, rfl, hown, hB⟩ := hrel
        have HO := Lib.hid hown; clear hown
        obtain ⟨a, cp, rfl⟩ := ownI_slice HO.out
        have hBn := below_then hb4n hB
        have hzB := hB.size
        by_cases hlt : k < N
        · obtain ⟨g1, g2, g3, g4⟩ := F6.out k hlt
          obtain ⟨mk, hmk⟩ : ∃ mk, mk = m.getD k 0 := ⟨_, rfl⟩
          rw [← hmk] at g1 g2 g3 HO ⊢
          have hlen : (full.take mk).length = mk := by rw [List.length_take, ← HN.out]; omega
          obtain ⟨x, hx⟩ : ∃ x, x = full.getD k 0 := ⟨_, rfl⟩
          rw [← hx] at g3 g4
          have hrow : wr.ownsRow w5.heap.size 3 1 (.slice a (full.take mk).length cp) (full.take mk).length ((full.take mk).map (Value.int .i64)) := HO.out
          obtain ⟨b, rfl⟩ : ∃ b, a = some ⟨b, 0, none⟩ := by
            rcases hrow.2 with ⟨h0, hn⟩ | ⟨g, cap, cur, h0, _⟩
            · omega
            · simp only [Value.slice.injEq] at h0; exact ⟨g, h0.1⟩
          have hkN : k < full.length := by rw [← HN.out]; exact hlt
          have c0 : wr.cell? ⟨b, k, none⟩ = some (.int .i64 x) := by
            rw [hrow.cellAt k (by omega), List.getElem?_map, List.getElem?_take, if_pos g1, hx, List.getD_eq_getElem?_getD, List.getElem?_eq_getElem hkN]
            rfl
          have hbl := (hrow.lt b rfl).2
          rw [hlen]
          have G3 := Lib.hid g3; have G4 := Lib.hid g4
          have hki : (k : Int) < (mk : Int) := by omega
          have hk0 : (0 : Int) ≤ (k : Int) := by omega
          have hnl := next_len rp rd x
          have NXx := Lib.hid (NX.out x wr hBn)
          obtain ⟨ns, hns⟩ : ∃ ns, ns = nextL rp rd x := ⟨_, rfl⟩
          rw [← hns] at NXx hnl G3 G4
          have HROW := Lib.hid hrow
          clear hrow hx hns g3 g4 hmk
          go_wp2_with fail
          refine NXx.out.mono ?_
          rintro e w6 ⟨v', rfl, o6, hb6⟩
          have hap : ApartV (.slice (some ⟨b, 0, none⟩) mk cp) v' := fun g hg e => by
            have h1 := (World.ownsRow.lt (show w6.ownsRow wr.heap.size 3 1 v' ns.length (ns.map (Value.int .i64)) from o6) g hg).1
            simp [Value.ownBlock] at e
            omega
          have R6 := Lib.hid o6.read
          obtain ⟨a', c', rfl⟩ := ownI_slice o6
          have hB6 : Below w5.heap.size w5 w6 := below_then hB hb6
          have HO6 := Lib.hid (ownI_rel HO.out hb6)
          have HAP := Lib.hid hap
          obtain ⟨nn, hnn⟩ : ∃ nn, nn = ns.length := ⟨_, rfl⟩
          rw [← hnn] at R6 HAP hnl ⊢
          have HNN := Lib.hid hnn
          clear o6 hap hnn c0 HROW NXx HO
          rw [hlen] at HO6
          go_wp2_with fail
          go_loopw [12, 79] (fun v i wr => ∃ j : Nat, j ≤ nn ∧ i = .int .i64 j ∧ OwnI w5.heap.size v ((ns.take j).foldl addN (full.take mk)) wr ∧ Below w5.heap.size w5 wr ∧ ReadI wr (.slice a' nn c') ns ∧ ApartV v (.slice a' nn c')) (fun _ i _ => nn - (intOf i).toNat)
          case atStart => exact ⟨0, by omega, rfl, HO6.out, hB6, R6.out, HAP.out⟩
          case round =>
            obtain ⟨j, hj, rfl, hown, hBq, hrd, hapq⟩ := hrel
            have HQ := Lib.hid hown; have RQ := Lib.hid hrd; have AQ := Lib.hid hapq
            clear hown hrd hapq
            have hzq := hBq.size
            by_cases hjm : j < nn
            · have hjs : j < ns.length := by rw [← HNN.out]; exact hjm
              obtain ⟨a7, c7, e7, hcells⟩ := RQ.out
              simp only [Value.slice.injEq] at e7
              obtain ⟨rfl, e8, rfl⟩ := e7
              clear e8
              obtain ⟨g, rfl, hgl, hcell⟩ := hcells (by intro e; rw [e] at hjs; simp at hjs)
              obtain ⟨y, hy⟩ : ∃ y, y = ns[j] := ⟨_, rfl⟩
              have c0 : wr.cell? ⟨g, j, none⟩ = some (.int .i64 y) := by rw [hy]; exact hcell j hjs
              have hfs := fold_succ ns (full.take mk) j hjs
              rw [← hy] at hfs
              have hin := G4.out y (by rw [hy]; exact List.getElem_mem _)
              have hI1 := HIn.out y wr (R1.out.below hBq)
              rw [hin] at hI1
              obtain ⟨acc, hacc⟩ : ∃ acc, acc = (ns.take j).foldl addN (full.take mk) := ⟨_, rfl⟩
              have hal : acc.length ≤ 60 := by
                have h1 := fold_len (ns.take j) (full.take mk)
                have h2 := List.length_take_le j ns
                rw [hacc]; omega
              rw [← hacc] at HQ hfs
              have hI2 := in_any acc y _ wr HQ.out.read (by omega)
              obtain ⟨c2, hc2⟩ : ∃ c2, c2 = acc.contains y := ⟨_, rfl⟩
              rw [← hc2] at hI2
              have HI1 := Lib.hid hI1; have HI2 := Lib.hid hI2; have HFS := Lib.hid hfs; have HC2 := Lib.hid hc2
              have hji : (j : Int) < (nn : Int) := by omega
              have hj0 : (0 : Int) ≤ (j : Int) := by omega
              clear hcells hcell hy hin hI1 hI2 hfs hc2 hacc
              obtain ⟨as7, cs7, rfl⟩ := ownI_slice HQ.out
              go_wp2_with fail
              refine HI1.out.mono ?_
              rintro e w7 ⟨rfl, rfl⟩
              go_wp2_with fail
              refine HI2.out.mono ?_
              rintro e w7 ⟨rfl, rfl⟩
              cases c2 with
              | true =>
                have hac : addN acc y = acc := by unfold addN; rw [if_pos HC2.out.symm]
                rw [hac] at HFS
                go_wp2_with fail
                go_roundw
                · refine ⟨j + 1, by omega, by go_num, ?_, hBq, RQ.out, AQ.out⟩
                  rw [HFS.out]; exact HQ.out
                · (simp [intOf]; omega)
              | false =>
                have hac : addN acc y = acc ++ [y] := by unfold addN; rw [if_neg (by rw [← HC2.out]; decide)]
                rw [hac] at HFS
                have hrow : wr.ownsRow w5.heap.size 3 1 _ acc.length (acc.map (Value.int .i64)) := HQ.out
                have HROW := Lib.hid hrow; clear hrow
                have RQ2 := Lib.hid (RQ.out.below ((Below.refl _ _).alloc (Nat.le_refl _) (.cells #[.int .i64 y] 3)))
                go_wp2_with (at_builtin; go_loud (refine wpList_append_own_at _ rfl _ _ 44 rfl w5.heap.size 3 i0 (.int .i64 0) 1 8 Tryd.underlying44 ei ez es eb rfl (by decide) _ _ _ rfl (HROW.out.alloc _) ⟨wr.heap.size, 0, none⟩ 1 1 [.int .i64 y] rfl rfl (int_new wr y 3) (fun u hu => by simp at hu; subst hu; rfl) ?c3 ?c4 ?c5 ?_))
                case c3 => unfold maxLen; omega
                case c4 => omega
                case c5 => simp; omega
                · intro v8 w8 hown8 hgrow _ hat
                  have HQ8 : Hid (OwnI w5.heap.size v8 ((ns.take (j + 1)).foldl addN (full.take mk)) w8) := Lib.hid (by rw [HFS.out]; unfold OwnI; simp only [List.length_append, List.map_append, List.length_singleton, List.map_cons, List.map_nil]; exact hown8)
                  have hB8 : Below w5.heap.size w5 w8 := (hBq.alloc hzq _).grown hgrow (by simp; omega) (fun g e => (HROW.out.lt g e).1)
                  have R8 := Lib.hid (RQ2.out.grown hgrow AQ.out)
                  have A8 : Hid (ApartV v8 (.slice (some ⟨g, 0, none⟩) nn c')) := Lib.hid (fun g' hg' e => by
                    rcases hat with h1 | h1
                    · exact AQ.out g' hg' (h1 ▸ e)
                    · have hgg : g' = g := by simp [Value.ownBlock] at hg'; omega
                      rw [h1] at e
                      have e5 := Option.some.inj e
                      (try simp only [World.size_alloc] at e5)
                      omega)
                  clear hown8 hgrow hat
                  go_wp2_with fail
                  all_goals (go_roundw <;> first | exact ⟨j + 1, by omega, by go_num, HQ8.out, hB8, R8.out, A8.out⟩ | (simp [intOf]; omega))
            · obtain rfl : j = nn := by omega
              rw [List.take_of_length_le (l := ns) (by rw [HNN.out]; omega), G3.out] at HQ
              go_wp2_with fail
              all_goals (go_roundw <;> first | exact ⟨k + 1, by omega, by go_num, HQ.out, hBq⟩ | (simp [intOf]; omega))
        · obtain rfl : k = N := by omega
          have e1 : full.take (m.getD k 0) = full := by rw [F4.out, HN.out]; exact List.take_length
          rw [e1] at HO ⊢
          have hI := in_any full 14 _ wr HO.out.read (by rw [← HN.out]; omega)
          rw [F5.out] at hI
          have HI := Lib.hid hI
          have hn : ¬ ((k : Int) < (k : Int)) := by omega
          rw [← HN.out] at HI ⊢
          clear hI e1
          go_wp2_with fail
          refine HI.out.mono ?_
          rintro e w7 ⟨rfl, rfl⟩
          go_wp2_with fail
          go_ret
          exact ⟨rfl, below_then hB5 hB⟩
end Go.Proofs.YtaoejkjkgdnpmaaDoor
