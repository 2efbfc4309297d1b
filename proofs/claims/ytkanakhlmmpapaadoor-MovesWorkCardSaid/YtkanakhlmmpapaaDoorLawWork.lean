/- MovesWork, walked. -/
import Derived.Test.YtkanakhlmmpapaaDoorRows
import Derived.WalkKit
import Derived.WalkSpells
import Derived.WalkLawsBesides
import Derived.BigQuiet
import Derived.Deep.QuietTactic
import Derived.StillTailTactics
import Derived.Handy
import Derived.Lib.Hide
import Derived.Test.YtkanakhlmmpapaaDoorLawSafe
import Derived.Test.YtkanakhlmmpapaaDoorMovTrack
import Derived.Maps.Own
import Derived.Maps.OwnOps
import Derived.Maps.Views
import Derived.Maps.RangeWalk
set_option linter.unusedSimpArgs false
set_option linter.unusedVariables false
namespace Go.Proofs.YtkanakhlmmpapaaDoor
open Go.RowKit Go.Maps

theorem lawI : Keyed Tryd.prog 3 := int_keyed Tryd.underlying3
theorem zeroI (w : World) : (zeroValue 3).run Tryd.prog w = .ok (.int .i64 0) w := by kernel_rfl
/-- the map's datum counts each listed kind once -/
def CntOf (D : DataW Unit) (cnt : List Int) : Prop := ∀ x : Int, D.atKey (.int .i64 x) (.lit (.int .i64 0)) = .lit (.int .i64 (if x ∈ cnt then 1 else 0))
theorem cnt_zero {D : DataW Unit} {cnt : List Int} {x c : Int} (h : CntOf D cnt) (hx : x ∉ cnt) (hc : D.atKey (.int .i64 x) (.lit (.int .i64 0)) = .lit (.int .i64 c)) : c = 0 := by
  have := h x
  rw [hc, if_neg hx] at this
  simpa using this
theorem cnt_put {D : DataW Unit} {cnt : List Int} (hD : IsMap D) (h : CntOf D cnt) (x : Int) : CntOf (D.put (.int .i64 x) (.lit (.int .i64 1))) (cnt ++ [x]) := by
  intro y
  by_cases hy : y = x
  · subst hy
    rw [atKey_put_same hD (show WideAt.IsKeyLit (.int .i64 y) from by first | trivial | (unfold WideAt.IsKeyLit; trivial) | simp [WideAt.IsKeyLit])]
    simp
  · rw [atKey_put_other (by intro e; injection e with _ e; exact hy e), h y]
    simp [hy]
theorem ownsMap_heap {w w' : World} {R : Value → Option (DataW Unit × List MemPlace)} {k : TypeId} {b n : Nat} {D : DataW Unit} (h : w.ownsMap Tryd.prog k R b n D) (he : w'.heap[b]? = w.heap[b]?) : w'.ownsMap Tryd.prog k R b n D := by
  obtain ⟨es, clock, hb, F, hs, hD⟩ := h
  exact ⟨es, clock, he.trans hb, F, hs, hD⟩
theorem map_apart {w : World} {R : Value → Option (DataW Unit × List MemPlace)} {k e : TypeId} {b n B size m : Nat} {D : DataW Unit} {v : Value} {xs : List Value} (h : w.ownsMap Tryd.prog k R b n D) (ho : w.ownsRow B e size v m xs) : v.ownBlock ≠ some b := by
  obtain ⟨es, clock, hb, _⟩ := h
  rcases ho.2 with ⟨rfl, _⟩ | ⟨g, cap, cur, rfl, _, hg, _⟩
  · intro e; simp [Value.ownBlock] at e
  · intro e
    simp [Value.ownBlock] at e
    subst e
    rw [hg] at hb
    cases hb

set_option maxRecDepth 100000 in
set_option maxHeartbeats 16000000 in
theorem law_work (p : Int) (v0 : Value) (ops : List MOp) (ea : Int → Addr) (w : World) (hE : Err5 ea w) (hR : ReadOps w v0 ops) : Calls Tryd.prog 4 #[.int .i64 p, v0] w (Makes (.bool true) w) := by
  obtain ⟨a, cap, rfl, hcells⟩ := hR
  obtain ⟨n, hn⟩ : ∃ n, n = ops.length := ⟨_, rfl⟩
  rw [← hn]
  have HC := Lib.hid hcells; clear hcells
  have HN := Lib.hid hn; clear hn
  have hmm := @run_makeMap Tryd.prog
  have f2 : ∀ (p d s h : Value) (w : World), (Instr.field 32 (.agg #[p, d, s, h]) 2).run Tryd.prog w = .ok s w := fun p d s h w => (fieldS p d s h w).2.2.1
  by_cases hbig : (200 : Int) < (n : Int)
  · go_enter Tryd.func4, Tryd.ntmps4
    go_wp2_with (go_at_call 9; refine (alive11 ea _ hE).mono ?_; rintro e w1 ⟨rfl, hb1⟩)
    go_ret
    exact ⟨rfl, hb1⟩
  by_cases hp : p = 1 ∨ p = 2
  · go_enter Tryd.func4, Tryd.ntmps4
    go_wp2_with fail
    refine (alive11 ea _ hE).mono ?_
    rintro e w1 ⟨rfl, hb1⟩
    go_wp2_with fail
    refine (newPair_yes p hp w1).mono ?_
    rintro e w2 ⟨g, v, rfl, hP, hb2⟩
    have HP2 := Lib.hid hP; clear hP
    have HNG : Hid (some w2.heap.size ≠ some g) := Lib.hid (fun e => by injection e with e; have := HP2.out.blk.lt; omega)
    go_wp2_with fail
    go_loopw [8, 29] (fun s8 i wr => ∃ k P v cp cnt D, k ≤ n ∧ i = .int .i64 (k : Nat) ∧ s8 = .bool cp ∧ Ok P ∧ PairIn w1.heap.size g v P wr ∧ Below w1.heap.size w1 wr ∧ Tr P cp cnt ∧ wr.ownsMap Tryd.prog 3 (plainElem Tryd.prog 3) w2.heap.size k D ∧ IsMap D ∧ CntOf D cnt) (fun _ i _ => n - (intOf i).toNat)
    case atStart => exact ⟨0, newPair p, v, false, [], .map [], by omega, by go_num, rfl, Ok.new hp, HP2.out.rel ((Below.refl _ _).alloc (Nat.le_refl _) _), hb2.alloc hb2.size _, Tr.new hp, World.ownsMap_made _ _ _ _, ⟨_, rfl⟩, fun x => by simp; rfl⟩
    case round =>
      clear HP2 v
      obtain ⟨k, P, v, cp, cnt, D, hk, rfl, rfl, hO, hP, hB, hTr, hM, hI, hCn⟩ := hrel
      have HPr := Lib.hid hP; clear hP
      have OK := Lib.hid hO; clear hO
      have HTr0 := Lib.hid hTr; clear hTr
      have HM := Lib.hid hM; clear hM
      have HI := Lib.hid hI; clear hI
      have HCn := Lib.hid hCn; clear hCn
      have hB0 : Below w.heap.size w wr := below_then hb1 hB
      by_cases hlt : k < n
      · have hlo : k < ops.length := by rw [← HN.out]; exact hlt
        obtain ⟨b, off, rfl, hbl, hops⟩ := HC.out (by intro e; rw [e] at hlo; simp at hlo)
        obtain ⟨o, ho⟩ : ∃ o, o = ops[k] := ⟨_, rfl⟩
        have hoa := (hops k hlo).below hB0 hbl
        rw [← ho] at hoa
        obtain ⟨a0, a1, a2, a3, a4⟩ := hoa
        clear hops ho hlo
        have hki : (k : Int) < (n : Int) := by omega
        have hk0 : (0 : Int) ≤ (k : Int) := by omega
        have hz0 := hB0.size; have hzB := hB.size
        obtain ⟨⟨⟨ep, ed, es, eh⟩, esend, ef, ew, ech⟩, hee⟩ : ∃ e, e = (lDo P o).2 := ⟨_, rfl⟩
        obtain ⟨Q, hQ⟩ : ∃ Q, Q = (lDo P o).1 := ⟨_, rfl⟩
        have OKQ : Hid (Ok Q) := by rw [hQ]; exact Lib.hid (OK.out.step o)
        have HNx : Hid (Next Q ⟨⟨ep, ed, es, eh⟩, esend, ef, ew, ech⟩ cp cnt) := by rw [hQ, hee]; exact Lib.hid (HTr0.out.step OK.out o)
        have HLD : ∀ W v, Err5 ea W → PairIn w1.heap.size g v P W → w1.heap.size ≤ W.heap.size → Calls Tryd.prog 11 #[.pointer (some ⟨g, 0, none⟩), opV o] W fun e w' => e = .returned (.agg #[.int .i64 ep, .int .i64 ed, .int .i64 es, .int .i64 eh, .int .i64 esend, .int .i64 ef, .int .i64 ew, .bool ech]) ∧ PairGoes w1.heap.size g v Q W w' := fun W v hE hP hB => by have := ldo_of w1.heap.size g v P o ea W hE hP OK.out hB; rw [← hee, ← hQ] at this; exact this
        have HLDo := Lib.hid HLD; clear HLD hQ hee
        cases cp with
        | true =>
          go_wp2_with fail
          have hA0 := (Below.refl wr.heap.size wr).alloc (Nat.le_refl _) (.cells #[.int .i64 o.what, .int .i64 o.side, .int .i64 o.kind, .int .i64 o.at_, .bool o.copies] 30)
          have hPa := HPr.out.rel hA0
          have hMa := HM.out.alloc (.cells #[.int .i64 o.what, .int .i64 o.side, .int .i64 o.kind, .int .i64 o.at_, .bool o.copies] 30)
          have hBa := hB.alloc hB.size (.cells #[.int .i64 o.what, .int .i64 o.side, .int .i64 o.kind, .int .i64 o.at_, .bool o.copies] 30)
          refine (HLDo.out _ v ((hE.below hb1).below hBa) hPa hBa.size).mono ?_
          rintro e w3 ⟨rfl, v2, hP3, hs3, hf3⟩
          have HM3 := Lib.hid (ownsMap_heap hMa (hs3.block _ hMa.lt (fun e => HNG.out (by rw [e])) (fun e => map_apart hMa hPa.own e)))
          have HB3 := hBa.trans (hs3.below hPa)
          have HP3 := Lib.hid hP3; clear hP3 hs3 hf3
          clear hA0 hPa hMa hBa a0 a1 a2 a3 a4
          have HPb := Lib.hid (HP3.out.rel ((Below.refl _ _).alloc (Nat.le_refl _) (.cells #[.int .i64 ep, .int .i64 ed, .int .i64 es, .int .i64 eh, .int .i64 esend, .int .i64 ef, .int .i64 ew, .bool ech] 34)))
          have HBb := HB3.alloc HB3.size (.cells #[.int .i64 ep, .int .i64 ed, .int .i64 es, .int .i64 eh, .int .i64 esend, .int .i64 ef, .int .i64 ew, .bool ech] 34)
          have HMb := Lib.hid (HM3.out.alloc (.cells #[.int .i64 ep, .int .i64 ed, .int .i64 es, .int .i64 eh, .int .i64 esend, .int .i64 ef, .int .i64 ew, .bool ech] 34))
          have KE := Lib.hid (Blk.fresh w3 #[.int .i64 ep, .int .i64 ed, .int .i64 es, .int .i64 eh, .int .i64 esend, .int .i64 ef, .int .i64 ew, .bool ech] 34 _ rfl)
          have qE := KE.out.cell
          have HNE : Hid (some w2.heap.size ≠ some w3.heap.size) := Lib.hid (fun e => by injection e with e; have := HM3.out.lt; omega)
          have HCP : Hid (cpN true Q.x = true) := Lib.hid rfl
          by_cases hd2 : ed = 2
          case neg =>
            have t2 : (ed == 2) = false := by simpa using hd2
            have hiw : isWork ⟨⟨ep, ed, es, eh⟩, esend, ef, ew, ech⟩ = false := by simp [isWork, hd2]
            have hcn : cntN ⟨⟨ep, ed, es, eh⟩, esend, ef, ew, ech⟩ cnt = cnt := by unfold cntN; rw [hiw, if_neg (by simp)]
            have HTr := Lib.hid (show Tr Q (true) cnt by have := HNx.out.tr; rw [hcn, HCP.out] at this; exact this)
            have HPx := HPb; have HBx := HBb; have HMx := Lib.hid (HMb.out.mono (Nat.le_succ k)); have HIx := HI; have HCx := HCn
            clear hd2 hiw hcn
            go_wp2_with fail
            all_goals (go_roundw <;> first | exact ⟨k + 1, Q, v2, true, cnt, _, by omega, by go_num, rfl, OKQ.out, HPx.out, HBx, HTr.out, HMx.out, HIx.out, HCx.out⟩ | (simp [intOf]; omega))
          subst hd2
          by_cases hw0 : ew = 0
          case pos =>
            subst hw0
            have hcn : cntN ⟨⟨ep, 2, es, eh⟩, esend, ef, 0, ech⟩ cnt = cnt := by unfold cntN isWork; rfl
            have HTr := Lib.hid (show Tr Q (true) cnt by have := HNx.out.tr; rw [hcn, HCP.out] at this; exact this)
            have HPx := HPb; have HBx := HBb; have HMx := Lib.hid (HMb.out.mono (Nat.le_succ k)); have HIx := HI; have HCx := HCn
            clear hcn
            go_wp2_with fail
            all_goals (go_roundw <;> first | exact ⟨k + 1, Q, v2, true, cnt, _, by omega, by go_num, rfl, OKQ.out, HPx.out, HBx, HTr.out, HMx.out, HIx.out, HCx.out⟩ | (simp [intOf]; omega))
          have hiw : isWork ⟨⟨ep, 2, es, eh⟩, esend, ef, ew, ech⟩ = true := by simp [isWork, hw0]
          obtain ⟨hnc, ⟨he1, he11⟩, h911⟩ := HNx.out.new hiw
          dsimp only at hnc he1 he11 h911
          rw [HCP.out] at h911
          have hcn : cntN ⟨⟨ep, 2, es, eh⟩, esend, ef, ew, ech⟩ cnt = cnt ++ [ew] := by unfold cntN; rw [hiw, if_pos rfl]
          have HTr := Lib.hid (show Tr Q (true) (cnt ++ [ew]) by have := HNx.out.tr; rw [hcn, HCP.out] at this; exact this)
          have hwt : (ew != 0) = true := by simpa using hw0
          have CZ := Lib.hid (fun (c : Int) (h : D.atKey (.int .i64 ew) (.lit (.int .i64 0)) = .lit (.int .i64 c)) => cnt_zero HCn.out hnc h)
          have hwf : (Lit.int .i64 ew).wf = true := WalkArith.wf_i64 (by omega)
          have hw1 : (Lit.int .i64 1).wf = true := by decide
          have hkm : k < maxLen := by unfold maxLen; omega
          have hown := HMb.out
          have HH9 := Lib.hid h911
          clear h911 hiw hcn hw0
          by_cases w9 : ew = 9
          · subst w9
            have hcp2 := HH9.out (.inl rfl)
            clear HH9
            go_wp2_with (first
              | (at_lookup; refine wpList_lookup_own_int _ rfl _ _ 39 rfl 3 3 .i64 lawI Tryd.underlying39 Tryd.underlying3 (zeroI _) w2.heap.size k _ rfl hown _ _ rfl (Go.Maps.keyOf_int_mk Tryd.underlying3 hwf) ?_; intro c hat hwc; obtain rfl := CZ.out c hat; clear hat hwc)
              | (at_mapUpdate; refine wpList_mapUpdate_own _ rfl _ _ _ 39 rfl 3 3 lawI Tryd.underlying39 _ w2.heap.size k _ rfl hown hkm _ _ _ rfl rfl (Go.Maps.keyOf_int_mk Tryd.underlying3 hwf) _ [] (plainElem_int Tryd.underlying3 hw1) ?_; intro w9x hown9 hgrow9; have HMx := Lib.hid hown9; have HGx := Lib.hid hgrow9; have qE9 := (KE.out.grown hgrow9 HNE.out).cell; clear hown9 hgrow9 hown qE))
            have HPx := Lib.hid (HPb.out.other HGx.out.size (HGx.out.block g HPb.out.blk.lt (fun e => HNG.out e.symm)) (fun j hj => HGx.out.block j (HPb.out.own.lt j hj).2 (fun e => map_apart HMb.out HPb.out.own (by rw [hj]; exact e))))
            have HBx := HBb.grown HGx.out HBb.size (fun j hj => by cases hj; exact hb2.size)
            have HIx := Lib.hid (HI.out.put (.int .i64 9) (.lit (.int .i64 1)))
            have HCx := Lib.hid (cnt_put HI.out HCn.out 9)
            all_goals (go_roundw <;> first | exact ⟨k + 1, Q, v2, true, cnt ++ [9], _, by omega, by go_num, rfl, OKQ.out, HPx.out, HBx, HTr.out, HMx.out, HIx.out, HCx.out⟩ | (simp [intOf]; omega))
          by_cases w11 : ew = 11
          · subst w11
            have hcp2 := HH9.out (.inr rfl)
            clear HH9
            go_wp2_with (first
              | (at_lookup; refine wpList_lookup_own_int _ rfl _ _ 39 rfl 3 3 .i64 lawI Tryd.underlying39 Tryd.underlying3 (zeroI _) w2.heap.size k _ rfl hown _ _ rfl (Go.Maps.keyOf_int_mk Tryd.underlying3 hwf) ?_; intro c hat hwc; obtain rfl := CZ.out c hat; clear hat hwc)
              | (at_mapUpdate; refine wpList_mapUpdate_own _ rfl _ _ _ 39 rfl 3 3 lawI Tryd.underlying39 _ w2.heap.size k _ rfl hown hkm _ _ _ rfl rfl (Go.Maps.keyOf_int_mk Tryd.underlying3 hwf) _ [] (plainElem_int Tryd.underlying3 hw1) ?_; intro w9x hown9 hgrow9; have HMx := Lib.hid hown9; have HGx := Lib.hid hgrow9; have qE9 := (KE.out.grown hgrow9 HNE.out).cell; clear hown9 hgrow9 hown qE))
            have HPx := Lib.hid (HPb.out.other HGx.out.size (HGx.out.block g HPb.out.blk.lt (fun e => HNG.out e.symm)) (fun j hj => HGx.out.block j (HPb.out.own.lt j hj).2 (fun e => map_apart HMb.out HPb.out.own (by rw [hj]; exact e))))
            have HBx := HBb.grown HGx.out HBb.size (fun j hj => by cases hj; exact hb2.size)
            have HIx := Lib.hid (HI.out.put (.int .i64 11) (.lit (.int .i64 1)))
            have HCx := Lib.hid (cnt_put HI.out HCn.out 11)
            all_goals (go_roundw <;> first | exact ⟨k + 1, Q, v2, true, cnt ++ [11], _, by omega, by go_num, rfl, OKQ.out, HPx.out, HBx, HTr.out, HMx.out, HIx.out, HCx.out⟩ | (simp [intOf]; omega))
          have t9 : (ew == 9) = false := by simpa using w9
          have t11 : (ew == 11) = false := by simpa using w11
          clear HH9 w9 w11
          go_wp2_with (first
            | (at_lookup; refine wpList_lookup_own_int _ rfl _ _ 39 rfl 3 3 .i64 lawI Tryd.underlying39 Tryd.underlying3 (zeroI _) w2.heap.size k _ rfl hown _ _ rfl (Go.Maps.keyOf_int_mk Tryd.underlying3 hwf) ?_; intro c hat hwc; obtain rfl := CZ.out c hat; clear hat hwc)
            | (at_mapUpdate; refine wpList_mapUpdate_own _ rfl _ _ _ 39 rfl 3 3 lawI Tryd.underlying39 _ w2.heap.size k _ rfl hown hkm _ _ _ rfl rfl (Go.Maps.keyOf_int_mk Tryd.underlying3 hwf) _ [] (plainElem_int Tryd.underlying3 hw1) ?_; intro w9x hown9 hgrow9; have HMx := Lib.hid hown9; have HGx := Lib.hid hgrow9; have qE9 := (KE.out.grown hgrow9 HNE.out).cell; clear hown9 hgrow9 hown qE))
          have HPx := Lib.hid (HPb.out.other HGx.out.size (HGx.out.block g HPb.out.blk.lt (fun e => HNG.out e.symm)) (fun j hj => HGx.out.block j (HPb.out.own.lt j hj).2 (fun e => map_apart HMb.out HPb.out.own (by rw [hj]; exact e))))
          have HBx := HBb.grown HGx.out HBb.size (fun j hj => by cases hj; exact hb2.size)
          have HIx := Lib.hid (HI.out.put (.int .i64 ew) (.lit (.int .i64 1)))
          have HCx := Lib.hid (cnt_put HI.out HCn.out ew)
          all_goals (go_roundw <;> first | exact ⟨k + 1, Q, v2, true, cnt ++ [ew], _, by omega, by go_num, rfl, OKQ.out, HPx.out, HBx, HTr.out, HMx.out, HIx.out, HCx.out⟩ | (simp [intOf]; omega))
        | false =>
          have hx5 := HTr0.out.five
          have hne5 : (P.x.s == 5) = false := by unfold cpN at hx5; simpa using hx5
          clear hx5
          go_wp2_with fail
          have hA0 := (Below.refl wr.heap.size wr).alloc (Nat.le_refl _) (.cells #[.int .i64 o.what, .int .i64 o.side, .int .i64 o.kind, .int .i64 o.at_, .bool o.copies] 30)
          refine (seat2_of w1.heap.size g v P _ (HPr.out.rel hA0)).mono ?_
          rintro e wa ⟨rfl, hba⟩
          have hA1 := below_then hA0 hba
          have hPa := HPr.out.rel hA1
          have hMa := ownsMap_heap HM.out (hA1.block _ HM.out.lt)
          have hBa := below_then hB hA1
          have qO := ((Blk.fresh wr #[.int .i64 o.what, .int .i64 o.side, .int .i64 o.kind, .int .i64 o.at_, .bool o.copies] 30 _ rfl).below hba).cell
          clear a0 a1 a2 a3 a4
          go_wp2_with fail
          refine (HLDo.out _ v ((hE.below hb1).below hBa) hPa hBa.size).mono ?_
          rintro e w3 ⟨rfl, v2, hP3, hs3, hf3⟩
          have HM3 := Lib.hid (ownsMap_heap hMa (hs3.block _ hMa.lt (fun e => HNG.out (by rw [e])) (fun e => map_apart hMa hPa.own e)))
          have HB3 := hBa.trans (hs3.below hPa)
          have HP3 := Lib.hid hP3; clear hP3 hs3 hf3
          clear hA0 hA1 hba hPa hMa hBa qO
          go_wp2_with fail
          refine (seat2_of w1.heap.size g v2 Q _ (HP3.out.rel ((Below.refl _ _).alloc (Nat.le_refl _) (.cells #[.int .i64 ep, .int .i64 ed, .int .i64 es, .int .i64 eh, .int .i64 esend, .int .i64 ef, .int .i64 ew, .bool ech] 34)))).mono ?_
          rintro e wb ⟨rfl, hbb⟩
          have hC1 := below_then ((Below.refl w3.heap.size w3).alloc (Nat.le_refl _) (.cells #[.int .i64 ep, .int .i64 ed, .int .i64 es, .int .i64 eh, .int .i64 esend, .int .i64 ef, .int .i64 ew, .bool ech] 34)) hbb
          have HPb := Lib.hid (HP3.out.rel hC1)
          have HBb := below_then HB3 hC1
          have HMb := Lib.hid (ownsMap_heap HM3.out (hC1.block _ HM3.out.lt))
          have KE := Lib.hid ((Blk.fresh w3 #[.int .i64 ep, .int .i64 ed, .int .i64 es, .int .i64 eh, .int .i64 esend, .int .i64 ef, .int .i64 ew, .bool ech] 34 _ rfl).below hbb)
          have qE := KE.out.cell
          have HNE : Hid (some w2.heap.size ≠ some w3.heap.size) := Lib.hid (fun e => by injection e with e; have := HM3.out.lt; omega)
          clear hC1 hbb
          by_cases y5 : Q.x.s = 5
          · have z5 : (Q.x.s == 5) = true := by simpa using y5
            have HCP : Hid (cpN false Q.x = true) := Lib.hid (by simp [cpN, y5])
            clear y5
            by_cases hd2 : ed = 2
            case neg =>
              have t2 : (ed == 2) = false := by simpa using hd2
              have hiw : isWork ⟨⟨ep, ed, es, eh⟩, esend, ef, ew, ech⟩ = false := by simp [isWork, hd2]
              have hcn : cntN ⟨⟨ep, ed, es, eh⟩, esend, ef, ew, ech⟩ cnt = cnt := by unfold cntN; rw [hiw, if_neg (by simp)]
              have HTr := Lib.hid (show Tr Q (true) cnt by have := HNx.out.tr; rw [hcn, HCP.out] at this; exact this)
              have HPx := HPb; have HBx := HBb; have HMx := Lib.hid (HMb.out.mono (Nat.le_succ k)); have HIx := HI; have HCx := HCn
              clear hd2 hiw hcn
              go_wp2_with fail
              all_goals (go_roundw <;> first | exact ⟨k + 1, Q, v2, true, cnt, _, by omega, by go_num, rfl, OKQ.out, HPx.out, HBx, HTr.out, HMx.out, HIx.out, HCx.out⟩ | (simp [intOf]; omega))
            subst hd2
            by_cases hw0 : ew = 0
            case pos =>
              subst hw0
              have hcn : cntN ⟨⟨ep, 2, es, eh⟩, esend, ef, 0, ech⟩ cnt = cnt := by unfold cntN isWork; rfl
              have HTr := Lib.hid (show Tr Q (true) cnt by have := HNx.out.tr; rw [hcn, HCP.out] at this; exact this)
              have HPx := HPb; have HBx := HBb; have HMx := Lib.hid (HMb.out.mono (Nat.le_succ k)); have HIx := HI; have HCx := HCn
              clear hcn
              go_wp2_with fail
              all_goals (go_roundw <;> first | exact ⟨k + 1, Q, v2, true, cnt, _, by omega, by go_num, rfl, OKQ.out, HPx.out, HBx, HTr.out, HMx.out, HIx.out, HCx.out⟩ | (simp [intOf]; omega))
            have hiw : isWork ⟨⟨ep, 2, es, eh⟩, esend, ef, ew, ech⟩ = true := by simp [isWork, hw0]
            obtain ⟨hnc, ⟨he1, he11⟩, h911⟩ := HNx.out.new hiw
            dsimp only at hnc he1 he11 h911
            rw [HCP.out] at h911
            have hcn : cntN ⟨⟨ep, 2, es, eh⟩, esend, ef, ew, ech⟩ cnt = cnt ++ [ew] := by unfold cntN; rw [hiw, if_pos rfl]
            have HTr := Lib.hid (show Tr Q (true) (cnt ++ [ew]) by have := HNx.out.tr; rw [hcn, HCP.out] at this; exact this)
            have hwt : (ew != 0) = true := by simpa using hw0
            have CZ := Lib.hid (fun (c : Int) (h : D.atKey (.int .i64 ew) (.lit (.int .i64 0)) = .lit (.int .i64 c)) => cnt_zero HCn.out hnc h)
            have hwf : (Lit.int .i64 ew).wf = true := WalkArith.wf_i64 (by omega)
            have hw1 : (Lit.int .i64 1).wf = true := by decide
            have hkm : k < maxLen := by unfold maxLen; omega
            have hown := HMb.out
            have HH9 := Lib.hid h911
            clear h911 hiw hcn hw0
            by_cases w9 : ew = 9
            · subst w9
              have hcp2 := HH9.out (.inl rfl)
              clear HH9
              go_wp2_with (first
                | (at_lookup; refine wpList_lookup_own_int _ rfl _ _ 39 rfl 3 3 .i64 lawI Tryd.underlying39 Tryd.underlying3 (zeroI _) w2.heap.size k _ rfl hown _ _ rfl (Go.Maps.keyOf_int_mk Tryd.underlying3 hwf) ?_; intro c hat hwc; obtain rfl := CZ.out c hat; clear hat hwc)
                | (at_mapUpdate; refine wpList_mapUpdate_own _ rfl _ _ _ 39 rfl 3 3 lawI Tryd.underlying39 _ w2.heap.size k _ rfl hown hkm _ _ _ rfl rfl (Go.Maps.keyOf_int_mk Tryd.underlying3 hwf) _ [] (plainElem_int Tryd.underlying3 hw1) ?_; intro w9x hown9 hgrow9; have HMx := Lib.hid hown9; have HGx := Lib.hid hgrow9; have qE9 := (KE.out.grown hgrow9 HNE.out).cell; clear hown9 hgrow9 hown qE))
              have HPx := Lib.hid (HPb.out.other HGx.out.size (HGx.out.block g HPb.out.blk.lt (fun e => HNG.out e.symm)) (fun j hj => HGx.out.block j (HPb.out.own.lt j hj).2 (fun e => map_apart HMb.out HPb.out.own (by rw [hj]; exact e))))
              have HBx := HBb.grown HGx.out HBb.size (fun j hj => by cases hj; exact hb2.size)
              have HIx := Lib.hid (HI.out.put (.int .i64 9) (.lit (.int .i64 1)))
              have HCx := Lib.hid (cnt_put HI.out HCn.out 9)
              all_goals (go_roundw <;> first | exact ⟨k + 1, Q, v2, true, cnt ++ [9], _, by omega, by go_num, rfl, OKQ.out, HPx.out, HBx, HTr.out, HMx.out, HIx.out, HCx.out⟩ | (simp [intOf]; omega))
            by_cases w11 : ew = 11
            · subst w11
              have hcp2 := HH9.out (.inr rfl)
              clear HH9
              go_wp2_with (first
                | (at_lookup; refine wpList_lookup_own_int _ rfl _ _ 39 rfl 3 3 .i64 lawI Tryd.underlying39 Tryd.underlying3 (zeroI _) w2.heap.size k _ rfl hown _ _ rfl (Go.Maps.keyOf_int_mk Tryd.underlying3 hwf) ?_; intro c hat hwc; obtain rfl := CZ.out c hat; clear hat hwc)
                | (at_mapUpdate; refine wpList_mapUpdate_own _ rfl _ _ _ 39 rfl 3 3 lawI Tryd.underlying39 _ w2.heap.size k _ rfl hown hkm _ _ _ rfl rfl (Go.Maps.keyOf_int_mk Tryd.underlying3 hwf) _ [] (plainElem_int Tryd.underlying3 hw1) ?_; intro w9x hown9 hgrow9; have HMx := Lib.hid hown9; have HGx := Lib.hid hgrow9; have qE9 := (KE.out.grown hgrow9 HNE.out).cell; clear hown9 hgrow9 hown qE))
              have HPx := Lib.hid (HPb.out.other HGx.out.size (HGx.out.block g HPb.out.blk.lt (fun e => HNG.out e.symm)) (fun j hj => HGx.out.block j (HPb.out.own.lt j hj).2 (fun e => map_apart HMb.out HPb.out.own (by rw [hj]; exact e))))
              have HBx := HBb.grown HGx.out HBb.size (fun j hj => by cases hj; exact hb2.size)
              have HIx := Lib.hid (HI.out.put (.int .i64 11) (.lit (.int .i64 1)))
              have HCx := Lib.hid (cnt_put HI.out HCn.out 11)
              all_goals (go_roundw <;> first | exact ⟨k + 1, Q, v2, true, cnt ++ [11], _, by omega, by go_num, rfl, OKQ.out, HPx.out, HBx, HTr.out, HMx.out, HIx.out, HCx.out⟩ | (simp [intOf]; omega))
            have t9 : (ew == 9) = false := by simpa using w9
            have t11 : (ew == 11) = false := by simpa using w11
            clear HH9 w9 w11
            go_wp2_with (first
              | (at_lookup; refine wpList_lookup_own_int _ rfl _ _ 39 rfl 3 3 .i64 lawI Tryd.underlying39 Tryd.underlying3 (zeroI _) w2.heap.size k _ rfl hown _ _ rfl (Go.Maps.keyOf_int_mk Tryd.underlying3 hwf) ?_; intro c hat hwc; obtain rfl := CZ.out c hat; clear hat hwc)
              | (at_mapUpdate; refine wpList_mapUpdate_own _ rfl _ _ _ 39 rfl 3 3 lawI Tryd.underlying39 _ w2.heap.size k _ rfl hown hkm _ _ _ rfl rfl (Go.Maps.keyOf_int_mk Tryd.underlying3 hwf) _ [] (plainElem_int Tryd.underlying3 hw1) ?_; intro w9x hown9 hgrow9; have HMx := Lib.hid hown9; have HGx := Lib.hid hgrow9; have qE9 := (KE.out.grown hgrow9 HNE.out).cell; clear hown9 hgrow9 hown qE))
            have HPx := Lib.hid (HPb.out.other HGx.out.size (HGx.out.block g HPb.out.blk.lt (fun e => HNG.out e.symm)) (fun j hj => HGx.out.block j (HPb.out.own.lt j hj).2 (fun e => map_apart HMb.out HPb.out.own (by rw [hj]; exact e))))
            have HBx := HBb.grown HGx.out HBb.size (fun j hj => by cases hj; exact hb2.size)
            have HIx := Lib.hid (HI.out.put (.int .i64 ew) (.lit (.int .i64 1)))
            have HCx := Lib.hid (cnt_put HI.out HCn.out ew)
            all_goals (go_roundw <;> first | exact ⟨k + 1, Q, v2, true, cnt ++ [ew], _, by omega, by go_num, rfl, OKQ.out, HPx.out, HBx, HTr.out, HMx.out, HIx.out, HCx.out⟩ | (simp [intOf]; omega))
          have z5 : (Q.x.s == 5) = false := by simpa using y5
          have HCP : Hid (cpN false Q.x = false) := Lib.hid (by simp [cpN, y5])
          clear y5
          by_cases hd2 : ed = 2
          case neg =>
            have t2 : (ed == 2) = false := by simpa using hd2
            have hiw : isWork ⟨⟨ep, ed, es, eh⟩, esend, ef, ew, ech⟩ = false := by simp [isWork, hd2]
            have hcn : cntN ⟨⟨ep, ed, es, eh⟩, esend, ef, ew, ech⟩ cnt = cnt := by unfold cntN; rw [hiw, if_neg (by simp)]
            have HTr := Lib.hid (show Tr Q (false) cnt by have := HNx.out.tr; rw [hcn, HCP.out] at this; exact this)
            have HPx := HPb; have HBx := HBb; have HMx := Lib.hid (HMb.out.mono (Nat.le_succ k)); have HIx := HI; have HCx := HCn
            clear hd2 hiw hcn
            go_wp2_with fail
            all_goals (go_roundw <;> first | exact ⟨k + 1, Q, v2, false, cnt, _, by omega, by go_num, rfl, OKQ.out, HPx.out, HBx, HTr.out, HMx.out, HIx.out, HCx.out⟩ | (simp [intOf]; omega))
          subst hd2
          by_cases hw0 : ew = 0
          case pos =>
            subst hw0
            have hcn : cntN ⟨⟨ep, 2, es, eh⟩, esend, ef, 0, ech⟩ cnt = cnt := by unfold cntN isWork; rfl
            have HTr := Lib.hid (show Tr Q (false) cnt by have := HNx.out.tr; rw [hcn, HCP.out] at this; exact this)
            have HPx := HPb; have HBx := HBb; have HMx := Lib.hid (HMb.out.mono (Nat.le_succ k)); have HIx := HI; have HCx := HCn
            clear hcn
            go_wp2_with fail
            all_goals (go_roundw <;> first | exact ⟨k + 1, Q, v2, false, cnt, _, by omega, by go_num, rfl, OKQ.out, HPx.out, HBx, HTr.out, HMx.out, HIx.out, HCx.out⟩ | (simp [intOf]; omega))
          have hiw : isWork ⟨⟨ep, 2, es, eh⟩, esend, ef, ew, ech⟩ = true := by simp [isWork, hw0]
          obtain ⟨hnc, ⟨he1, he11⟩, h911⟩ := HNx.out.new hiw
          dsimp only at hnc he1 he11 h911
          rw [HCP.out] at h911
          have hcn : cntN ⟨⟨ep, 2, es, eh⟩, esend, ef, ew, ech⟩ cnt = cnt ++ [ew] := by unfold cntN; rw [hiw, if_pos rfl]
          have HTr := Lib.hid (show Tr Q (false) (cnt ++ [ew]) by have := HNx.out.tr; rw [hcn, HCP.out] at this; exact this)
          have hwt : (ew != 0) = true := by simpa using hw0
          have CZ := Lib.hid (fun (c : Int) (h : D.atKey (.int .i64 ew) (.lit (.int .i64 0)) = .lit (.int .i64 c)) => cnt_zero HCn.out hnc h)
          have hwf : (Lit.int .i64 ew).wf = true := WalkArith.wf_i64 (by omega)
          have hw1 : (Lit.int .i64 1).wf = true := by decide
          have hkm : k < maxLen := by unfold maxLen; omega
          have hown := HMb.out
          have HH9 := Lib.hid h911
          clear h911 hiw hcn hw0
          by_cases w9 : ew = 9
          · subst w9
            have hcp2 := HH9.out (.inl rfl)
            clear HH9
            cases hcp2
          by_cases w11 : ew = 11
          · subst w11
            have hcp2 := HH9.out (.inr rfl)
            clear HH9
            cases hcp2
          have t9 : (ew == 9) = false := by simpa using w9
          have t11 : (ew == 11) = false := by simpa using w11
          clear HH9 w9 w11
          go_wp2_with (first
            | (at_lookup; refine wpList_lookup_own_int _ rfl _ _ 39 rfl 3 3 .i64 lawI Tryd.underlying39 Tryd.underlying3 (zeroI _) w2.heap.size k _ rfl hown _ _ rfl (Go.Maps.keyOf_int_mk Tryd.underlying3 hwf) ?_; intro c hat hwc; obtain rfl := CZ.out c hat; clear hat hwc)
            | (at_mapUpdate; refine wpList_mapUpdate_own _ rfl _ _ _ 39 rfl 3 3 lawI Tryd.underlying39 _ w2.heap.size k _ rfl hown hkm _ _ _ rfl rfl (Go.Maps.keyOf_int_mk Tryd.underlying3 hwf) _ [] (plainElem_int Tryd.underlying3 hw1) ?_; intro w9x hown9 hgrow9; have HMx := Lib.hid hown9; have HGx := Lib.hid hgrow9; have qE9 := (KE.out.grown hgrow9 HNE.out).cell; clear hown9 hgrow9 hown qE))
          have HPx := Lib.hid (HPb.out.other HGx.out.size (HGx.out.block g HPb.out.blk.lt (fun e => HNG.out e.symm)) (fun j hj => HGx.out.block j (HPb.out.own.lt j hj).2 (fun e => map_apart HMb.out HPb.out.own (by rw [hj]; exact e))))
          have HBx := HBb.grown HGx.out HBb.size (fun j hj => by cases hj; exact hb2.size)
          have HIx := Lib.hid (HI.out.put (.int .i64 ew) (.lit (.int .i64 1)))
          have HCx := Lib.hid (cnt_put HI.out HCn.out ew)
          all_goals (go_roundw <;> first | exact ⟨k + 1, Q, v2, false, cnt ++ [ew], _, by omega, by go_num, rfl, OKQ.out, HPx.out, HBx, HTr.out, HMx.out, HIx.out, HCx.out⟩ | (simp [intOf]; omega))
      · obtain rfl : k = n := by omega
        obtain ⟨wq, hwq⟩ : ∃ wq, wq = wr := ⟨_, rfl⟩
        subst hwq
        have hm9 : (9 ∈ cnt ∧ ¬ 11 ∈ cnt) ∨ (¬ 9 ∈ cnt ∧ 11 ∈ cnt) ∨ (¬ 9 ∈ cnt ∧ ¬ 11 ∈ cnt) := by
          have := HTr0.out.last.2
          by_cases m9 : (9 : Int) ∈ cnt
          · exact .inl ⟨m9, fun m => this ⟨m9, m⟩⟩
          · by_cases m11 : (11 : Int) ∈ cnt
            · exact .inr (.inl ⟨m9, m11⟩)
            · exact .inr (.inr ⟨m9, m11⟩)
        obtain ⟨c9, c11, hc9, hc11, hsum⟩ : ∃ c9 c11 : Int, (∀ c, D.atKey (.int .i64 9) (.lit (.int .i64 0)) = .lit (.int .i64 c) → c = c9) ∧ (∀ c, D.atKey (.int .i64 11) (.lit (.int .i64 0)) = .lit (.int .i64 c) → c = c11) ∧ (c9 = 0 ∧ c11 = 0 ∨ c9 = 1 ∧ c11 = 0 ∨ c9 = 0 ∧ c11 = 1) := by
          refine ⟨if 9 ∈ cnt then 1 else 0, if 11 ∈ cnt then 1 else 0, fun c h => ?_, fun c h => ?_, ?_⟩
          · have := HCn.out 9; rw [h] at this; simpa using this
          · have := HCn.out 11; rw [h] at this; simpa using this
          · rcases hm9 with ⟨a, b⟩ | ⟨a, b⟩ | ⟨a, b⟩ <;> simp [a, b]
        have CZ9 := Lib.hid hc9; have CZ11 := Lib.hid hc11
        clear hc9 hc11 hm9
        have hle : ∀ x c : Int, (∀ zd, D.atKey (.int .i64 x) zd = .lit (.int .i64 c)) → c ≤ 1 := fun x c h => by
          have := HCn.out x
          rw [h] at this
          have e : c = if x ∈ cnt then 1 else 0 := by simpa using this
          rw [e]; split <;> omega
        have HLE := Lib.hid hle; clear hle
        have hw9 : (Lit.int .i64 9).wf = true := by decide
        have hw11 : (Lit.int .i64 11).wf = true := by decide
        have hownr := HM.out
        go_wp2_with (at_range; refine wpList_range_own _ rfl _ 39 rfl 3 3 lawI Tryd.underlying39 _ w2.heap.size k _ rfl hownr ?_; intro w0 hrg0 hg0 hs0)
        have HB00 : Below w.heap.size w w0 := hB0.grown hg0 hB0.size (fun j hj => by cases hj)
        go_frame
        go_loopw [13] (fun _ ws => ∃ (left : Lit → Bool) (ct : Nat), ws.ranges Tryd.prog 3 (plainElem Tryd.prog 3) w2.heap.size wq.heap.size k D left ct ∧ Below w.heap.size w ws) (fun _ ws => ws.rangeLeft w2.heap.size wq.heap.size)
        case atStart => exact ⟨_, _, hrg0, HB00⟩
        case round =>
        obtain ⟨left, ct, hrg, hBs⟩ := hrel
        go_wp2_with (at_next; refine wpList_next_ranges_ii _ rfl _ rfl 3 3 .i64 .i64 lawI Tryd.underlying3 Tryd.underlying3 w2.heap.size wq.heap.size k _ _ _ rfl hrg ?_ ?_)
        · intro _ hl0
          have hownz := hrg.owns
          rcases hsum with ⟨rfl, rfl⟩ | ⟨rfl, rfl⟩ | ⟨rfl, rfl⟩
          all_goals
            go_wp2_with (first
              | (at_lookup; refine wpList_lookup_own_int _ rfl _ _ 39 rfl 3 3 .i64 lawI Tryd.underlying39 Tryd.underlying3 (zeroI _) w2.heap.size k _ rfl hownz (.int .i64 9) _ rfl (Go.Maps.keyOf_int_mk Tryd.underlying3 hw9) ?_; intro c hat hwc; obtain rfl := CZ9.out c hat; clear hat hwc)
              | (at_lookup; refine wpList_lookup_own_int _ rfl _ _ 39 rfl 3 3 .i64 lawI Tryd.underlying39 Tryd.underlying3 (zeroI _) w2.heap.size k _ rfl hownz (.int .i64 11) _ rfl (Go.Maps.keyOf_int_mk Tryd.underlying3 hw11) ?_; intro c hat hwc; obtain rfl := CZ11.out c hat; clear hat hwc))
            go_ret
            exact ⟨rfl, hBs⟩
        · intro x c w1x cnt1 hwx hwc hlx hat hrg1 hlt1 hg1 hs1 hen
          have hc1 := HLE.out x c hat
          have HRx := Lib.hid hrg1; have HGx := Lib.hid hg1; have HLx := Lib.hid hlt1
          clear hat hlx hwx hwc hrg1 hg1 hs1 hlt1
          go_wp2_with fail
          go_roundw
          case rel => exact ⟨_, cnt1, HRx.out, hBs.grown HGx.out hBs.size (fun j hj => by cases hj; exact hB0.size)⟩
          case measure => rw [HRx.out.left_eq, hrg.left_eq]; exact HLx.out
  · go_enter Tryd.func4, Tryd.ntmps4
    go_wp2_with fail
    refine (alive11 ea _ hE).mono ?_
    rintro e w1 ⟨rfl, hb1⟩
    go_wp2_with fail
    refine (newPair_no p hp (ea 14) w1 (hE.below hb1).e.e14).mono ?_
    rintro e w2 ⟨rfl, hb2⟩
    go_wp2_with fail
    go_ret
    exact ⟨rfl, below_then hb1 hb2⟩
end Go.Proofs.YtkanakhlmmpapaaDoor
