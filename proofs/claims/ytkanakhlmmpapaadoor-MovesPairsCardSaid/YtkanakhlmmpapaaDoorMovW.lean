/- The reference's pair in memory (liaisonref11): a kind is taken out by two appends; Drop. -/
import Derived.Test.YtkanakhlmmpapaaDoorRows
import Derived.WalkKit
import Derived.WalkSpells
import Derived.WalkLawsBesides
import Derived.BigQuiet
import Derived.Deep.QuietTactic
import Derived.StillTailTactics
import Derived.Handy
import Derived.Lib.Hide
import Derived.Test.YtkanakhlmmpapaaDoorMovV
import Derived.Deep.RegionHeld3
import Derived.Deep.AppendLies
set_option linter.unusedSimpArgs false
set_option linter.unusedVariables false
namespace Go.Proofs.YtkanakhlmmpapaaDoor
open Go.RowKit

theorem step_append_at {w : World} {ops : Array Oper} {o : Oper} {a : Act} {K : Act → World → Prop} {Q : Exit → Act → World → Prop} {E : Prop} (hgd : o.guard = none) (s x : Operand) (t : TypeId)
    (ho : o.op = .call { callee := .builtin .append, args := #[s, x], argTypes := #[t, t] })
    (base : Nat) (e : TypeId) (i : TypeInfo) (z : Value) (size bytes : Nat) (ht : Tryd.prog.underlying t = some (.slice e)) (hi : Tryd.prog.info? e = some i) (hz : i.zero = some z)
    (hsize : i.size = size) (hby : i.bytes = bytes) (hzs : z.cells.size = size) (hsz : 0 < size)
    (v : Value) (n : Nat) (xs : List Value) (hs : a.eval s = v) (hown : w.ownsRow base e size v n xs)
    (ad : Addr) (m c : Nat) (news : List Value) (hx : a.eval x = .slice (some ad) m c) (hl : news.length = m * size) (hnews : ∀ j u, news[j]? = some u → w.cell? (ad.add j) = some u) (h1 : ∀ u ∈ news, u.oneCell' = true)
    (h63 : n + m ≤ maxLen) (hbytes : (n + m) * bytes ≤ 140737488355328) (hbase : base ≤ w.heap.size) (H : Nat) (hH : w.heap.size = H)
    (h : ∀ v' w', w'.ownsRow base e size v' (n + m) (xs ++ news) → w.grownBy w' v.ownBlock → (v'.ownBlock = v.ownBlock ∨ v'.ownBlock = some H) → K (a.put o.dst v') w') :
    if Region.wanted o (yielded ops a.tmps) = true then Oper.wp Tryd.prog o a w K Q else E := by
  have hw : Region.wanted o (yielded ops a.tmps) = true := by simp [Region.wanted, hgd]
  rw [if_pos hw]
  subst hH
  obtain ⟨v', w', hr, h2, h3, h4, h5⟩ := run_append_own_at (P := Tryd.prog) w base t o.type e i z size bytes ht hi hz hsize hby hzs hsz v n xs hown ad m c news hl hnews h1 h63 hbytes hbase
  unfold Oper.wp
  simp only [execOp, ho, resolve, invoke, builtin, Sem.run_bind, Sem.run_pure, Result.andThen_ok, List.map_toArray, List.map_cons, List.map_nil, hs, hx, hr]
  exact h v' w' h2 h3 h5

theorem drop_end {B g sb : Nat} {v v2 : Value} {P : MPair} {w w2 : World} {len : Nat} {xs : List Value} (j : Nat) (H : RefIn B g sb v P w) (hb : Below w.heap.size w w2) (ho : w2.ownsRow B 67 2 v2 len xs) (hlen : (P.fl.eraseIdx j).length = len) (hx : flV (P.fl.eraseIdx j) = xs) (hat : ∃ m, w.heap.size ≤ m ∧ v2.ownBlock = some m) :
    RefGoes B g sb v ⟨P.c, P.x, P.fl.eraseIdx j⟩ w (w2.setCell ⟨g, 1, none⟩ v2) := by
  obtain ⟨m, hm, hv⟩ := hat
  have hgl := H.blk.lt; have hsl := H.sblk.lt
  refine ⟨v2, H.swap (P.fl.eraseIdx j) hb.size (hb.block g hgl) (hb.block sb hsl) (by rw [hlen, hx]; exact ho) (by rw [hv]; intro e; injection e with e; omega) (by rw [hv]; intro e; injection e with e; omega), (BesideR.of_below hb g sb v).setCell 1 v2, .inr ⟨m, hm, hv⟩⟩
theorem two_step1 {w W w1 : World} {x y : Nat} (h : Below w.heap.size w W) (hg : W.grownBy w1 (Value.slice (some ⟨w.heap.size, 0, none⟩) x y).ownBlock) : Below w.heap.size w w1 :=
  h.grown hg h.size (fun k hk => by simp [Value.ownBlock] at hk; omega)
theorem two_step2 {w W w1 : World} {A : Addr} {b x y : Nat} {news : List Value} (h : ∀ t u, news[t]? = some u → W.cell? (A.add t) = some u) (hg : W.grownBy w1 (Value.slice (some ⟨w.heap.size, 0, none⟩) x y).ownBlock) (hA : ∀ t, (A.add t).block = b) (hb : b < w.heap.size) : ∀ t u, news[t]? = some u → w1.cell? (A.add t) = some u :=
  fun t u hu => hg.cell (h t u hu) (by rw [hA t]; simp [Value.ownBlock]; omega)
theorem two_step3 {w : World} {v1 : Value} {x y : Nat} (h : v1.ownBlock = (Value.slice (some ⟨w.heap.size, 0, none⟩) x y).ownBlock ∨ v1.ownBlock = some (w.heap.size + 1)) : ∃ m, w.heap.size ≤ m ∧ v1.ownBlock = some m := by
  rcases h with h | h
  · exact ⟨w.heap.size, Nat.le_refl _, h⟩
  · exact ⟨_, by omega, h⟩
theorem two_step4 {w w1 : World} {B : Nat} (h : Below w.heap.size w w1) (hB : B ≤ w.heap.size) : B ≤ w1.heap.size := Nat.le_trans hB h.size
theorem two_step5 {w w1 w2 : World} {v1 : Value} (h : Below w.heap.size w w1) (hg : w1.grownBy w2 v1.ownBlock) (hv : ∃ m, w.heap.size ≤ m ∧ v1.ownBlock = some m) : Below w.heap.size w w2 := by
  obtain ⟨m, hm, hv⟩ := hv
  exact h.grown hg h.size (fun k hk => by rw [hv] at hk; injection hk with hk; omega)
theorem two_step6 {w w1 : World} {v1 v2 : Value} (h : v2.ownBlock = v1.ownBlock ∨ v2.ownBlock = some w1.heap.size) (hv : ∃ m, w.heap.size ≤ m ∧ v1.ownBlock = some m) (hb : Below w.heap.size w w1) : ∃ m, w.heap.size ≤ m ∧ v2.ownBlock = some m := by
  rcases h with h | h
  · obtain ⟨m, hm, hv⟩ := hv; exact ⟨m, hm, h.trans hv⟩
  · exact ⟨_, hb.size, h⟩

set_option maxRecDepth 100000 in
set_option maxHeartbeats 4000000 in
theorem gpdrop_of (B g sb : Nat) (v : Value) (P : MPair) (i : Int) (w : World) (h : RefIn B g sb v P w) (hl : P.fl.length ≤ 1000) (hB : B ≤ w.heap.size) :
    Calls Tryd.prog 55 #[.pointer (some ⟨g, 0, none⟩), .int .i64 i] w fun e w' => e = .returned (.int .i64 (mPDrop P i).2) ∧ RefGoes B g sb v (mPDrop P i).1 w w' := by
  unfold mPDrop
  have q8 := h.blk.cell
  by_cases hi : i < 0 ∨ (P.fl.length : Int) ≤ i
  · rw [if_pos hi]
    obtain ⟨a, cap, rfl⟩ := own_slice h.own
    have H := Lib.hid h; clear h
    obtain ⟨n, hn⟩ : ∃ n, n = P.fl.length := ⟨_, rfl⟩
    rw [← hn] at hl q8 hi H ⊢
    clear hn
    by_cases h0 : i < 0
    · go_enter Tryd.func55, Tryd.ntmps55
      go_wp2
      go_ret
      exact ⟨rfl, RefGoes.same H.out (Below.refl _ _)⟩
    · have h1 : (n : Int) ≤ i := by omega
      have h2 : 0 ≤ i := by omega
      clear hi
      go_enter Tryd.func55, Tryd.ntmps55
      go_wp2
      go_ret
      exact ⟨rfl, RefGoes.same H.out (Below.refl _ _)⟩
  · rw [if_neg hi]
    obtain ⟨j, rfl⟩ : ∃ j : Nat, i = j := ⟨i.toNat, by omega⟩
    have hj : j < P.fl.length := by omega
    have hc' : mCut P (j : Int).toNat false = ⟨P.c, P.x, P.fl.eraseIdx j⟩ := by unfold mCut; rw [if_neg (by simp)]; simp
    rw [hc']
    rcases h.own.2 with ⟨_, h0⟩ | ⟨b, cap, cur, rfl, hbB, hbh, hcap, hcm, hcs, htk⟩
    · omega
    have hbl : b < w.heap.size := (h.own.lt b rfl).2
    have hcell : ∀ t u, (flV P.fl)[t]? = some u → w.cell? ⟨b, t, none⟩ = some u := fun t u hu => by
      have ht := (List.getElem?_eq_some_iff.1 hu).1
      rw [flV_length] at ht
      exact (h.own.cellAt t ht).trans hu
    obtain ⟨n, hn⟩ : ∃ n, n = P.fl.length := ⟨_, rfl⟩
    obtain ⟨news1, hn1⟩ : ∃ news, news = flV (P.fl.take j) := ⟨_, rfl⟩
    obtain ⟨news2, hn2⟩ : ∃ news, news = flV (P.fl.drop (j + 1)) := ⟨_, rfl⟩
    have L1 : Hid (news1.length = j * 2) := by rw [hn1, flV_length, List.length_take, Nat.min_eq_left (Nat.le_of_lt hj)]; exact Lib.hid rfl
    have L2 : Hid (news2.length = (n - (j + 1)) * 2) := by rw [hn2, flV_length, List.length_drop, hn]; exact Lib.hid rfl
    have O1 : Hid (∀ u ∈ news1, u.oneCell' = true) := by
      intro u hu; rw [hn1] at hu; obtain ⟨m, _, hm⟩ := List.mem_flatMap.1 hu; exact two_cells _ _ u hm
    have O2 : Hid (∀ u ∈ news2, u.oneCell' = true) := by
      intro u hu; rw [hn2] at hu; obtain ⟨m, _, hm⟩ := List.mem_flatMap.1 hu; exact two_cells _ _ u hm
    have C1 : Hid (∀ t u, news1[t]? = some u → w.cell? ((⟨b, 0, none⟩ : Addr).add t) = some u) := by
      intro t u hu
      have ht := (List.getElem?_eq_some_iff.1 hu).1
      rw [Addr.add_lit, Nat.zero_add]
      refine hcell t u ?_
      rw [hn1, ← flV_take, List.getElem?_take] at hu
      split at hu
      · exact hu
      · cases hu
    obtain ⟨A, hA, C2⟩ : ∃ A : Addr, (if cap = j + 1 then some (⟨b, 0, none⟩ : Addr) else some ⟨b, (j + 1) * 2, none⟩) = some A ∧ Hid ((∀ t, (A.add t).block = b) ∧ ∀ t u, news2[t]? = some u → w.cell? (A.add t) = some u) := by
      by_cases hh : cap = j + 1
      · refine ⟨⟨b, 0, none⟩, by simp [hh], fun t => by rw [Addr.add_lit], fun t u hu => ?_⟩
        have h0 : news2.length = 0 := by rw [L2.out]; omega
        rw [List.length_eq_zero_iff.1 h0] at hu
        simp at hu
      · refine ⟨⟨b, (j + 1) * 2, none⟩, by simp [hh], fun t => by rw [Addr.add_lit], fun t u hu => ?_⟩
        rw [hn2, ← flV_drop, List.getElem?_drop] at hu
        rw [Addr.add_lit]
        exact hcell _ u hu
    have hfin : flV (P.fl.eraseIdx j) = [] ++ news1 ++ news2 := by rw [hn1, hn2, List.nil_append, ← flV_append, List.eraseIdx_eq_take_drop_succ]
    have hfl : (P.fl.eraseIdx j).length = 0 + j + (n - (j + 1)) := by rw [List.length_eraseIdx_of_lt hj, hn]; omega
    have HF := Lib.hid (And.intro hfin hfl)
    have hgl := h.blk.lt; have hsl := h.sblk.lt
    have H := Lib.hid h
    have hc3 : cap ≤ 9223372036854775807 := by simpa [maxLen] using hcm
    rw [← hn] at hl q8 hi hj H hcap ⊢
    have hjc : j ≤ cap := by omega
    have hjc1 : j + 1 ≤ cap := by omega
    have h01 : (0 : Int) ≤ (j : Int) + 1 := by omega
    have h02 : (j : Int) + 1 ≤ (n : Int) := by omega
    have hw1 : IntKind.i64.wrap ((j : Int) + 1) = (j : Int) + 1 := IntWalk.i64_in _ (by omega)
    have htn : ((j : Int) + 1).toNat = j + 1 := by omega
    obtain ⟨i0, ei, ez, es, eb⟩ := info_parts infoFlyR
    have hown0 : (World.drew (w.alloc (.cells #[] 67))).ownsRow B 67 2 (.slice (some ⟨w.heap.size, 0, none⟩) 0 0) 0 [] := (World.ownsRow_lit w #[] 0 hB (by decide) rfl)
    have HO0 := Lib.hid hown0
    clear h hc' hcell hn1 hn2 hfin hfl hn hbh hcs htk hown0
    have hsz0 : (World.drew (w.alloc (.cells #[] 67))).heap.size = w.heap.size + 1 := by simp
    have C1a : Hid (∀ t u, news1[t]? = some u → (World.drew (w.alloc (.cells #[] 67))).cell? ((⟨b, 0, none⟩ : Addr).add t) = some u) := by
      intro t u hu
      have := C1.out t u hu
      rw [Addr.add_lit] at this ⊢
      exact ((Below.refl w.heap.size w).alloc (Nat.le_refl _) _ |>.drew |>.cell (p := ⟨b, 0 + t, none⟩) hbl).trans this
    have C2a : Hid (∀ t u, news2[t]? = some u → (World.drew (w.alloc (.cells #[] 67))).cell? (A.add t) = some u) := by
      intro t u hu
      have := C2.out.2 t u hu
      have hAb : (A.add t).block = b := C2.out.1 t
      exact ((Below.refl w.heap.size w).alloc (Nat.le_refl _) _ |>.drew |>.cell (p := A.add t) (by rw [hAb]; exact hbl)).trans this
    have p1 : Hid (0 + j ≤ maxLen ∧ (0 + j) * 16 ≤ 140737488355328 ∧ 0 + j + (n - (j + 1)) ≤ maxLen ∧ (0 + j + (n - (j + 1))) * 16 ≤ 140737488355328 ∧ B ≤ (World.drew (w.alloc (.cells #[] 67))).heap.size) := ⟨by unfold maxLen; omega, by omega, by unfold maxLen; omega, by omega, by rw [hsz0]; omega⟩
    have HZ := Lib.hid hsz0; clear hsz0
    have HBW0 : Below w.heap.size w (World.drew (w.alloc (.cells #[] 67))) := ((Below.refl w.heap.size w).alloc (Nat.le_refl _) _).drew
    have HW0 := Lib.hid HBW0; clear HBW0
    have HA2 := Lib.hid (show ∀ t, (A.add t).block = b from C2.out.1)
    have a1 : w.cell? ⟨g, 1, none⟩ = some (.slice (some ⟨b, 0, none⟩) n cap) := q8 1
    clear q8
    go_enter Tryd.func55, Tryd.ntmps55
    go_wp2_with fail
    have s0 : (World.drew (w.alloc (.cells #[] 67))).cell? ⟨g, 1, none⟩ = some (.slice (some ⟨b, 0, none⟩) n cap) := (HW0.out.cell (p := ⟨g, 1, none⟩) hgl).trans a1
    have s00 : (World.drew w).cell? ⟨g, 1, none⟩ = some (.slice (some ⟨b, 0, none⟩) n cap) := a1
    go_region_law
      (first
        | (refine step_append_at rfl (.tmp 17) (.tmp 23) 63 rfl B 67 i0 (.agg #[.int .i64 0, .int .i64 0]) 2 16 Tryd.underlying63 ei ez es eb rfl (by decide) (.slice (some ⟨w.heap.size, 0, none⟩) 0 0) 0 [] (by rfl) HO0.out ⟨b, 0, none⟩ j cap news1 (by rfl) L1.out C1a.out O1.out p1.out.1 p1.out.2.1 p1.out.2.2.2.2 (w.heap.size + 1) HZ.out ?_; intro v1 w1 hown1 hgrow1 hat1; have HB1 := Lib.hid (two_step1 HW0.out hgrow1); have s1 : w1.cell? ⟨g, 1, none⟩ = some (.slice (some ⟨b, 0, none⟩) n cap) := (HB1.out.cell (p := ⟨g, 1, none⟩) hgl).trans a1; have C2b := Lib.hid (two_step2 C2a.out hgrow1 HA2.out hbl); have HO1 := Lib.hid hown1; have HAT1 := Lib.hid (two_step3 hat1); clear hown1 hgrow1 hat1)
        | (refine step_append_at rfl (.tmp 24) (.tmp 31) 63 rfl B 67 i0 (.agg #[.int .i64 0, .int .i64 0]) 2 16 Tryd.underlying63 ei ez es eb rfl (by decide) v1 (0 + j) ([] ++ news1) (by rfl) HO1.out A (n - (j + 1)) (cap - (j + 1)) news2 (by rfl) L2.out C2b.out O2.out p1.out.2.2.1 p1.out.2.2.2.1 (two_step4 HB1.out hB) w1.heap.size rfl ?_; intro v2 w2 hown2 hgrow2 hat2; have HB2 := Lib.hid (two_step5 HB1.out hgrow2 HAT1.out); have s2 : w2.cell? ⟨g, 1, none⟩ = some (.slice (some ⟨b, 0, none⟩) n cap) := (HB2.out.cell (p := ⟨g, 1, none⟩) hgl).trans a1; have f2 : w2.frozen? ⟨g, 1, none⟩ = false := (HB2.out.frozen (p := ⟨g, 1, none⟩) hgl).trans (H.out.blk.free 1); have HO2 := Lib.hid hown2; have HAT2 := Lib.hid (two_step6 hat2 HAT1.out HB1.out); obtain ⟨a2, c2, rfl⟩ := own_slice hown2; clear hown2 hgrow2 hat2))
    all_goals go_wp2_with fail
    all_goals go_ret
    all_goals (have ho := HO2.out; have hat := HAT2.out; have hf := HF.out; simp only [Nat.zero_add] at ho hat hf; exact ⟨rfl, drop_end j H.out HB2.out ho hf.2 hf.1 hat⟩)
end Go.Proofs.YtkanakhlmmpapaaDoor
