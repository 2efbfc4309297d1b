/- The law on texts of events, walked: TraceTexts. -/
import Derived.Test.YthjdaehiebcoaaaGreatDoorRows
import Derived.WalkKit
import Derived.WalkSpells
import Derived.WalkLawsBesides
import Derived.BigQuiet
import Derived.Deep.QuietTactic
import Derived.StillTailTactics
import Derived.Handy
import Derived.Lib.Hide
import Derived.Test.YthjdaehiebcoaaaGreatDoorTextB
import Derived.Test.YthjdaehiebcoaaaGreatDoorTextP
import Derived.Maps.OwnIn
set_option linter.unusedSimpArgs false
set_option linter.unusedVariables false
namespace Go.Proofs.YthjdaehiebcoaaaGreatDoor
open Go.RowKit Go.Shelf
attribute [local go_sem] Oper.semAt_some

/-- while the events are copied: the result's cell, the box of the events wanted, both slices -/
structure TxI (w : World) (OB : Nat) (xs ys : List Ev) (v7 v9 : Value) (W : World) : Prop where
  rb : Blk W w.heap.size #[.bool false]
  ob : Blk W OB #[v9]
  u : OwnU (w.heap.size + 1) v7 xs W
  o : OwnV (w.heap.size + 1) v9 ys W
  lo : w.heap.size < OB
  a7 : ∀ k, v7.ownBlock = some k → k ≠ OB ∧ v9.ownBlock ≠ some k
  a9 : ∀ k, v9.ownBlock = some k → k ≠ OB
  b : Below w.heap.size w W
theorem TxI.below {w W W' : World} {OB : Nat} {xs ys : List Ev} {v7 v9 : Value} (h : TxI w OB xs ys v7 v9 W) (hb : Below W.heap.size W W') : TxI w OB xs ys v7 v9 W' :=
  ⟨h.rb.below hb, h.ob.below hb, h.u.below hb, h.o.below hb, h.lo, h.a7, h.a9, below_then h.b hb⟩
theorem TxI.start {w w1 : World} (hb : Below w.heap.size w w1) (hrb : Blk w1 w.heap.size #[.bool false]) :
    TxI w (w1.heap.size + 2) [] [] (.slice (some ⟨w1.heap.size, 0, none⟩) 0 0) (.slice (some ⟨w1.heap.size + 1, 0, none⟩) 0 0)
      (((w1.alloc (.cells #[] 29)).alloc (.cells #[] 24)).alloc (.cells #[.slice (some ⟨w1.heap.size + 1, 0, none⟩) 0 0] 33)) := by
  have h1 := hrb.lt
  have hB : Below w1.heap.size w1 (((w1.alloc (.cells #[] 29)).alloc (.cells #[] 24)).alloc (.cells #[.slice (some ⟨w1.heap.size + 1, 0, none⟩) 0 0] 33)) :=
    (((Below.refl _ _).alloc (Nat.le_refl _) _).alloc (by simp) _).alloc (by simp; omega) _
  refine ⟨hrb.below hB, Blk.fresh _ _ _ _ (by simp), ?_, ?_, by omega, ?_, ?_, below_then hb hB⟩
  · exact ((World.ownsRow_lit w1 #[] 0 (by omega) (by decide) rfl).alloc _).alloc _
  · have := (World.ownsRow_lit (base := w.heap.size + 1) (e := 24) (size := 5) (w1.alloc (.cells #[] 29)) #[] 0 (by simp; omega) (by decide) rfl).alloc (.cells #[.slice (some ⟨w1.heap.size + 1, 0, none⟩) 0 0] 33)
    rw [World.size_alloc] at this
    exact this
  · intro k hk
    have hk1 : w1.heap.size = k := by simpa [Value.ownBlock] using hk
    refine ⟨by omega, fun e => ?_⟩
    have : w1.heap.size + 1 = k := by simpa [Value.ownBlock] using e
    omega
  · intro k hk
    have hk1 : w1.heap.size + 1 = k := by simpa [Value.ownBlock] using hk
    omega
theorem TxI.app7 {w W W' : World} {OB : Nat} {xs ys : List Ev} {v7 v9 v' : Value} {e : Ev} (h : TxI w OB xs ys v7 v9 W)
    (hown : W'.ownsRow (w.heap.size + 1) 29 5 v' (xs.length + 1) (evRow xs ++ evCells e)) (hg : W.grownBy W' v7.ownBlock)
    (hat : v'.ownBlock = v7.ownBlock ∨ v'.ownBlock = some W.heap.size) : TxI w OB (xs ++ [e]) ys v' v9 W' := by
  have hl7 := h.u.lt; have hl9 := h.o.lt
  refine ⟨h.rb.heap hg.size (hg.block _ h.rb.lt (fun e => by have := (hl7 _ e.symm).1; omega)), h.ob.heap hg.size (hg.block _ h.ob.lt (fun e => (h.a7 _ e.symm).1 rfl)), ?_,
    h.o.heap (fun k hk => hg.block k (hl9 k hk).2 (fun e => (h.a7 k e.symm).2 hk)), h.lo, ?_, h.a9, h.b.grown hg h.b.size (fun k hk => by have := (hl7 k hk).1; omega)⟩
  · unfold OwnU
    rw [evRow_snoc, List.length_append]
    exact hown
  · intro k hk
    rcases hat with hat | hat
    · exact h.a7 k (hat ▸ hk)
    · rw [hat] at hk
      injection hk with hk
      subst hk
      exact ⟨fun e => by have := h.ob.lt; omega, fun e => by have := (hl9 _ e).2; omega⟩
theorem TxI.mid {w W W' : World} {OB : Nat} {xs ys : List Ev} {v7 v9 : Value} (h : TxI w OB xs ys v7 v9 W) (hg : W.grownBy W' v9.ownBlock) : Blk W' OB #[v9] :=
  h.ob.heap hg.size (hg.block _ h.ob.lt (fun e => h.a9 _ e.symm rfl))
theorem TxI.app9 {w W W' : World} {OB : Nat} {xs ys : List Ev} {v7 v9 v' : Value} {e : Ev} (h : TxI w OB xs ys v7 v9 W)
    (hown : W'.ownsRow (w.heap.size + 1) 24 5 v' (ys.length + 1) (evRow ys ++ evCells e)) (hg : W.grownBy W' v9.ownBlock)
    (hat : v'.ownBlock = v9.ownBlock ∨ v'.ownBlock = some W.heap.size) : TxI w OB xs (ys ++ [e]) v7 v' (W'.setCell ⟨OB, 0, none⟩ v') := by
  have hl7 := h.u.lt; have hl9 := h.o.lt; have hlo := h.lo
  have hob := h.mid hg
  have ho : OwnV (w.heap.size + 1) v' (ys ++ [e]) W' := by
    unfold OwnV
    rw [evRow_snoc, List.length_append]
    exact hown
  have a9 : ∀ k, v'.ownBlock = some k → k ≠ OB := by
    intro k hk
    rcases hat with hat | hat
    · exact h.a9 k (hat ▸ hk)
    · rw [hat] at hk
      injection hk with hk
      have := h.ob.lt
      omega
  have hset : ∀ k, k ≠ OB → (W'.setCell ⟨OB, 0, none⟩ v').heap[k]? = W'.heap[k]? := fun k hk => Below.heap_setCell W' ⟨OB, 0, none⟩ v' k (by intro e; exact hk e)
  refine ⟨(h.rb.heap hg.size (hg.block _ h.rb.lt (fun e => by have := (hl9 _ e.symm).1; omega))).other (by dsimp only; omega) _, hob.store _,
    (h.u.heap (fun k hk => hg.block k (hl7 k hk).2 (fun e => (h.a7 k hk).2 e.symm))).heap (fun k hk => hset k (h.a7 k hk).1), ho.heap (fun k hk => hset k (a9 k hk)), h.lo, ?_, a9,
    (h.b.grown hg h.b.size (fun k hk => by have := (hl9 k hk).1; omega)).setCell (by dsimp only; omega) _⟩
  intro k hk
  refine ⟨(h.a7 k hk).1, fun e => ?_⟩
  rcases hat with hat | hat
  · exact (h.a7 k hk).2 (hat ▸ e)
  · rw [hat] at e
    injection e with e
    have := (hl7 k hk).2
    omega
theorem rowEqT (T : TypeId) (hT : T = 24) (a c : Int) (b d f : Str) (w : World) : (binOp .neq T (.agg #[.int .i64 a, .string (bs b), .int .i64 c, .string (bs d), .string (bs f)]) (.agg #[.int .i64 a, .string (bs b), .int .i64 c, .string (bs d), .string (bs f)])).run Tryz.prog w = .ok (.bool false) w := by
  subst hT
  go_simp
/-- between two rounds of the range -/
def TxJ (Z : World) (CB : Nat) (pre : List Ev) (W : World) : Prop := Z.grownBy W (some CB) ∧ Blk W CB #[.int .i64 (pre.length : Int)]
theorem TxJ.own {Z : World} {CB : Nat} (hCB : CB < Z.heap.size) : OwnFrom Z.heap.size (TxJ Z CB) := by
  rintro s W W' row ⟨h1, h2⟩ hg hr
  exact ⟨⟨hg.os.trans h1.os, hg.tape.trans h1.tape, hg.output.trans h1.output, Nat.le_trans h1.size hg.size, fun k hk hne => (hg.block k (Nat.lt_of_lt_of_le hk h1.size) (fun e => by have := (hr k e.symm).1; omega)).trans (h1.block k hk hne)⟩,
    h2.heap hg.size (hg.block _ h2.lt (fun e => by have := (hr _ e.symm).1; omega))⟩
/-- what a round keeps -/
def TxK (z CB : Nat) (A X : World) : Prop := A.heap.size ≤ X.heap.size ∧ ∀ k, k < z → k < A.heap.size → k ≠ CB → X.heap[k]? = A.heap[k]?
theorem TxK.put {z CB l : Nat} {o o' : Obj} {A X : World} (hl : z ≤ l) (h : TxK z CB (A.putObj l o) X) : TxK z CB A (X.putObj l o') := by
  obtain ⟨h1, h2⟩ := h
  rw [World.putObj_size] at h1 h2
  refine ⟨by rw [World.putObj_size]; exact h1, fun k hk hA hne => ?_⟩
  have hkl : k ≠ l := by omega
  exact (World.putObj_heap_other hkl).trans ((h2 k hk hA hne).trans (World.putObj_heap_other hkl))
theorem TxK.under {z CB : Nat} {A B X : World} (h : Below A.heap.size A B) (k : TxK z CB B X) : TxK z CB A X :=
  ⟨Nat.le_trans h.size k.1, fun j hj hA hne => (k.2 j hj (Nat.lt_of_lt_of_le hA h.size) hne).trans (h.block j hA)⟩
theorem TxJ.step {Z WB : World} {CB : Nat} {pre : List Ev} {x : Ev} (hCB : CB < Z.heap.size) (h : TxJ Z CB pre WB) :
    KeepsFrom Z.heap.size WB (WB.drew.setCell ⟨CB, 0, none⟩ (.int .i64 ((pre.length : Int) + 1))) ∧ TxK Z.heap.size CB WB (WB.drew.setCell ⟨CB, 0, none⟩ (.int .i64 ((pre.length : Int) + 1))) ∧ TxJ Z CB (pre ++ [x]) (WB.drew.setCell ⟨CB, 0, none⟩ (.int .i64 ((pre.length : Int) + 1))) := by
  obtain ⟨h1, h2⟩ := h
  have hset : ∀ k, k ≠ CB → (WB.drew.setCell ⟨CB, 0, none⟩ (.int .i64 ((pre.length : Int) + 1))).heap[k]? = WB.heap[k]? := fun k hk => Below.heap_setCell WB.drew ⟨CB, 0, none⟩ _ k (by intro e; exact hk e)
  have hsz : (WB.drew.setCell ⟨CB, 0, none⟩ (.int .i64 ((pre.length : Int) + 1))).heap.size = WB.heap.size := by simp
  refine ⟨((KeepsOthers.drew WB).trans (KeepsOthers.setCell _ _ _)).from _, ⟨by rw [hsz]; exact Nat.le_refl _, fun k _ _ hne => hset k hne⟩, ⟨?_, ?_⟩⟩
  · have hb := ((Below.refl 0 WB).drew).setCell (p := ⟨CB, 0, none⟩) (Nat.zero_le _) (.int .i64 ((pre.length : Int) + 1))
    exact ⟨hb.os.trans h1.os, hb.tape.trans h1.tape, hb.output.trans h1.output, by rw [hsz]; exact h1.size, fun k hk hne => (hset k (fun e => hne (by rw [e]))).trans (h1.block k hk hne)⟩
  · have := h2.drew.store (.int .i64 ((pre.length : Int) + 1))
    rw [List.length_append, List.length_singleton]
    push_cast
    exact this
theorem reads_start {w Z : World} {b1 b2 b off cap : Nat} {A : Option Addr} {node : Int} {es : List Ev} (hb : Below w.heap.size w Z) (h1 : Blk Z b1 #[.slice A es.length cap]) (h2 : Blk Z b2 #[.int .i64 node])
    (hA : 0 < es.length → A = some ⟨b, off, none⟩ ∧ b < w.heap.size) (hr : ∀ j (h : j < es.length), Ev5 w b (off + j * 5) es[j]) : OfReads b1 b2 b off (.slice A es.length cap) node es Z := by
  refine ⟨h1, h2, fun hp => Nat.lt_of_lt_of_le (hA hp).2 hb.size, fun j hj => ?_⟩
  have hlt := (hA (by omega)).2
  obtain ⟨c0, c1, c2, c3, c4⟩ := hr j hj
  exact ⟨(hb.cell hlt).trans c0, (hb.cell hlt).trans c1, (hb.cell hlt).trans c2, (hb.cell hlt).trans c3, (hb.cell hlt).trans c4⟩
theorem count_le (l : List Ev) (what : Str) : tCount l what ≤ l.length := List.countP_le_length
set_option maxRecDepth 100000 in
set_option maxHeartbeats 8000000 in
theorem law_texts (es : List Ev) (what : Str) (node : Int) (v : Value) (ea : Int → Addr) (w : World) (h : Env ea w) (hv : RowV w v es) :
    Calls Tryz.prog 4 #[v, .string (bs what), .int .i64 node] w (Makes (.bool true) w) := by
  have hmf : ∀ (fn : Fn) (first cap : Array Value) (w : World), (Instr.makeFunc fn first cap).run Tryz.prog w = .ok (.func fn first cap) w := fun _ _ _ _ => rfl
  have HE := Lib.hid h; have HV := Lib.hid hv
  have HA := Lib.hid (fun W hW => alive27 ea W hW)
  obtain ⟨b0, o0, A0, cap0, rfl, hA0, hr0⟩ := hv
  have HROW : Hid ((0 < es.length → A0 = some ⟨b0, o0, none⟩ ∧ b0 < w.heap.size) ∧ ∀ j (h : j < es.length), Ev5 w b0 (o0 + j * 5) es[j]) := Lib.hid ⟨hA0, hr0⟩
  obtain ⟨n, hn⟩ : ∃ n : Nat, n = es.length := ⟨_, rfl⟩
  rw [← hn] at HV ⊢
  have HN := Lib.hid hn
  obtain ⟨m, hm⟩ : ∃ m : Nat, (bs what).size = m := ⟨_, rfl⟩
  have HB1 := Lib.hid ((Below.refl w.heap.size w).alloc (Nat.le_refl _) (.cells #[.bool false] 4))
  have HR0 := Lib.hid (Blk.fresh w #[.bool false] 4 _ rfl)
  clear h hA0 hr0 hn
  refine (callsIn_wide (n := 5)).1 ?_
  refine callsIn_of_wp_marks Tryz.func4 rfl trivial ?_ rfl
  simp only [Tryz.ntmps4, List.size_toArray, List.length_cons, List.length_nil, Nat.reduceAdd, Nat.reduceSub, Array.replicate_succ, Array.replicate_zero, List.push_toArray, List.append_toArray, List.nil_append, List.cons_append]
  gi_wp2_with fail
  refine ⟨trivial, ?_⟩
  refine (callsIn_wide.2 (HA.out _ (HE.out.below HB1.out))).mono ?_
  rintro e w1 ⟨rfl, hb1⟩
  have HB2 := Lib.hid (below_then HB1.out hb1)
  have HR1 := Lib.hid (HR0.out.below hb1)
  clear hb1
  by_cases hlw : n ≤ 40 ∧ m ≤ 50
  rotate_left 1
  · have hc : 40 < n ∨ (n ≤ 40 ∧ 50 < m) := by omega
    obtain ⟨q, f⟩ := HR1.out.out
    clear hlw
    rcases hc with c1 | ⟨c1, c2⟩
    all_goals
      gi_wp2_with fail
      have q0 := World.cell?_setCell_same w1 ⟨w.heap.size, 0, none⟩ (.bool true) (q 0)
      exact ⟨_, by simp [results, Tryz.results4, go_sem, q0], rfl, HB2.out.setCell (Nat.le_refl _) _⟩
  obtain ⟨hl, hw⟩ := hlw
  have HS0 := Lib.hid (TxI.start HB2.out HR1.out)
  obtain ⟨i0, ei, ez, es0, eb⟩ := info_parts infoEr
  obtain ⟨j0, fi, fz, fs0, fb⟩ := info_parts infoEv
  obtain ⟨OB, hOB⟩ : ∃ OB, OB = w1.heap.size + 2 := ⟨_, rfl⟩
  have HOB := Lib.hid hOB
  clear hOB
  gi_wp2_with fail
  rw [show w1.heap.size + 1 + 1 = OB from HOB.out.symm]
  gi_loopw [7, 8, 33] (fun v7 c i wr => ∃ (j k : Nat) (v9 : Value), j ≤ n ∧ k ≤ j ∧ c = .int .i64 (k : Int) ∧ i = .int .i64 j ∧ Hid (TxI w OB (es.take j) (tOf (es.take j) node) v7 v9 wr) ∧ Hid (k = tCount (es.take j) what ∧ ∀ k (hk : k < es.length), k < j → evSizes es[k])) (fun _ _ i _ => n - (intOf i).toNat)
  case atStart =>
    refine ⟨0, 0, .slice (some ⟨w1.heap.size + 1, 0, none⟩) 0 0, Nat.zero_le _, Nat.zero_le _, rfl, rfl, Lib.hid ?_, Lib.hid ⟨rfl, fun k _ hk => absurd hk (by omega)⟩⟩
    rw [HOB.out]
    exact HS0.out
  case round =>
    obtain ⟨j, kc, v9, hj, hkj, rfl, rfl, HX, HC⟩ := hrel
    by_cases hjn : j < n
    · have hje : j < es.length := by rw [← HN.out]; exact hjn
      have hj0 : (0 : Int) ≤ (j : Int) := by omega
      have hj1 : (j : Int) < (n : Int) := by omega
      have hA := (HROW.out.1 (by omega)).1
      have hB := (HROW.out.1 (by omega)).2
      subst hA
      have hrow : Ev5 wr b0 (o0 + j * 5) es[j] := by
        obtain ⟨c0, c1, c2, c3, c4⟩ := HROW.out.2 j hje
        have hb := HX.out.b
        exact ⟨(hb.cell hB).trans c0, (hb.cell hB).trans c1, (hb.cell hB).trans c2, (hb.cell hB).trans c3, (hb.cell hB).trans c4⟩
      obtain ⟨c0, c1, c2, c3, c4⟩ := hrow
      have hct := count_take what hje
      have hot := of_take node hje
      have htk : es.take (j + 1) = es.take j ++ [es[j]] := List.take_succ_eq_append_getElem hje
      have hsz2 : evSizes es[j] → ∀ k (hk : k < es.length), k < j + 1 → evSizes es[k] := fun h0 k hk hkj => by
        rcases Nat.lt_or_ge k j with h1 | h1
        · exact HC.out.2 k hk h1
        · obtain rfl : k = j := by omega
          exact h0
      have htl : (es.take j).length ≤ 40 := by rw [List.length_take]; omega
      have hyl : (tOf (es.take j) node).length ≤ 40 := Nat.le_trans (List.length_filter_le _ _) htl
      rw [← HC.out.1] at hct
      obtain ⟨e, he⟩ : ∃ e, e = es[j] := ⟨_, rfl⟩
      rw [← he] at c0 c1 c2 c3 c4 hct hot htk hsz2
      obtain ⟨step, wt, nd, first, second⟩ := e
      dsimp only at c0 c1 c2 c3 c4 hct hot
      obtain ⟨n1, hn1⟩ : ∃ n : Nat, (bs wt).size = n := ⟨_, rfl⟩
      obtain ⟨n2, hn2⟩ : ∃ n : Nat, (bs first).size = n := ⟨_, rfl⟩
      obtain ⟨n3, hn3⟩ : ∃ n : Nat, (bs second).size = n := ⟨_, rfl⟩
      have hl1 : n1 = wt.length := by rw [← hn1, bs_size]
      have hl2 : n2 = first.length := by rw [← hn2, bs_size]
      have hl3 : n3 = second.length := by rw [← hn3, bs_size]
      have HX1 := Lib.hid (HX.out.below ((Below.refl wr.heap.size wr).alloc (Nat.le_refl _) (.cells #[.int .i64 step, .string (bs wt), .int .i64 nd, .string (bs first), .string (bs second)] 24)))
      have HCT := Lib.hid hct; have HOT := Lib.hid hot; have HTK := Lib.hid htk
      clear hct hot htk he
      by_cases hs : n1 ≤ 100 ∧ n2 ≤ 400 ∧ n3 ≤ 400
      · obtain ⟨s1, s2, s3⟩ := hs
        have HZ2 := Lib.hid (hsz2 ⟨by dsimp only; omega, by dsimp only; omega, by dsimp only; omega⟩)
        have HTL := Lib.hid (And.intro htl hyl)
        clear hsz2 hl1 hl2 hl3 htl hyl
        have HX2 := Lib.hid (HX.out.below (((Below.refl wr.heap.size wr).alloc (Nat.le_refl _) (.cells #[.int .i64 step, .string (bs wt), .int .i64 nd, .string (bs first), .string (bs second)] 24)).alloc (by simp) (.cells #[.int .i64 step, .string (bs wt), .int .i64 nd, .string (bs first), .string (bs second)] 29)))
        have HK2 := Lib.hid ((Blk.fresh wr #[.int .i64 step, .string (bs wt), .int .i64 nd, .string (bs first), .string (bs second)] 24 _ rfl).alloc (.cells #[.int .i64 step, .string (bs wt), .int .i64 nd, .string (bs first), .string (bs second)] 29))
        have hwl : w.heap.size + 1 ≤ wr.heap.size := by have := HX.out.rb.lt; omega
        gi_wp2_with (gi_at_builtin; go_loud (refine wpListIn_append_own_at _ rfl _ _ 36 rfl (w.heap.size + 1) 29 i0 (.agg #[.int .i64 0, .string ⟨#[]⟩, .int .i64 0, .string ⟨#[]⟩, .string ⟨#[]⟩]) 5 64 Tryz.underlying36 ei ez es0 eb rfl (by decide) _ _ _ rfl HX2.out.u ⟨wr.heap.size + 1, 0, none⟩ 1 1 (evCells ⟨step, wt, nd, first, second⟩) rfl rfl (cells_at (by simp) rfl) (by simp [evCells, Value.oneCell']) (by have := HTL.out.1; unfold maxLen; omega) (by have := HTL.out.1; omega) (by simp; omega) ?_))
        intro v7' w2 hown' hgrow _ hat
        have HX3 := Lib.hid (HX2.out.app7 (by rw [List.length_take]; exact hown') hgrow (hat.imp id (fun e => e.trans (by simp))))
        have HK3 := Lib.hid (HK2.out.heap hgrow.size (hgrow.block _ HK2.out.lt (fun e => by have := (HX.out.u.lt _ e.symm).2; omega)))
        clear hown' hgrow hat c0 c1 c2 c3 c4
        obtain ⟨q, f⟩ := HK3.out.out
        by_cases hwt : wt = what
        · have HWT := Lib.hid hwt
          have heq : ((bs wt).toList == (bs what).toList) = true := by rw [hwt]; simp
          clear hwt
          by_cases hnd : nd = node
          · have HND := Lib.hid hnd
            have hnb : (nd == node) = true := by simpa using hnd
            clear hnd
            have qo := HX3.out.ob.cell 0
            have HX4 := Lib.hid (HX3.out.below ((Below.refl w2.heap.size w2).alloc (Nat.le_refl _) (.cells #[.int .i64 step, .string (bs wt), .int .i64 nd, .string (bs first), .string (bs second)] 24)))
            have hwl2 : w.heap.size + 1 ≤ w2.heap.size := by have := HX3.out.rb.lt; omega
            gi_wp2_with (gi_at_builtin; go_loud (refine wpListIn_append_own_at _ rfl _ _ 33 rfl (w.heap.size + 1) 24 j0 (.agg #[.int .i64 0, .string ⟨#[]⟩, .int .i64 0, .string ⟨#[]⟩, .string ⟨#[]⟩]) 5 64 Tryz.underlying33 fi fz fs0 fb rfl (by decide) _ _ _ rfl HX4.out.o ⟨w2.heap.size, 0, none⟩ 1 1 (evCells ⟨step, wt, nd, first, second⟩) rfl rfl (cells_at rfl rfl) (by simp [evCells, Value.oneCell']) (by have := HTL.out.2; unfold maxLen; omega) (by have := HTL.out.2; omega) (by simp; omega) ?_))
            intro v9' w4 hown4 hgrow4 _ hat4
            have HM4 := Lib.hid (HX4.out.mid hgrow4)
            have HX5 := Lib.hid (HX4.out.app9 hown4 hgrow4 (hat4.imp id (fun e => e.trans (by simp))))
            obtain ⟨a9, n9, c9, rfl⟩ : ∃ a n c, v9' = .slice a n c := by obtain ⟨a, c, h⟩ := HX5.out.o.slice; exact ⟨a, _, c, h⟩
            clear q f hown4 hgrow4 hat4 qo
            obtain ⟨q, f⟩ := HM4.out.out
            gi_wp2_with fail
            go_roundw
            case rel => exact ⟨j + 1, kc + 1, _, by omega, by omega, by go_num, by go_num, Lib.hid (by rw [HOT.out, if_pos HND.out, HTK.out]; exact HX5.out), Lib.hid ⟨by rw [HCT.out, if_pos HWT.out], HZ2.out⟩⟩
            case measure => (simp [intOf] <;> omega)
          · have HND := Lib.hid hnd
            have hnb : (nd == node) = false := by simpa using hnd
            clear hnd
            gi_wp2_with fail
            go_roundw
            case rel => exact ⟨j + 1, kc + 1, _, by omega, by omega, by go_num, by go_num, Lib.hid (by rw [HOT.out, if_neg HND.out, List.append_nil, HTK.out]; exact HX3.out), Lib.hid ⟨by rw [HCT.out, if_pos HWT.out], HZ2.out⟩⟩
            case measure => (simp [intOf] <;> omega)
        · have HWT := Lib.hid hwt
          have heq : ((bs wt).toList == (bs what).toList) = false := by rw [bs_toList, bs_toList]; simpa using hwt
          clear hwt
          by_cases hnd : nd = node
          · have HND := Lib.hid hnd
            have hnb : (nd == node) = true := by simpa using hnd
            clear hnd
            have qo := HX3.out.ob.cell 0
            have HX4 := Lib.hid (HX3.out.below ((Below.refl w2.heap.size w2).alloc (Nat.le_refl _) (.cells #[.int .i64 step, .string (bs wt), .int .i64 nd, .string (bs first), .string (bs second)] 24)))
            have hwl2 : w.heap.size + 1 ≤ w2.heap.size := by have := HX3.out.rb.lt; omega
            gi_wp2_with (gi_at_builtin; go_loud (refine wpListIn_append_own_at _ rfl _ _ 33 rfl (w.heap.size + 1) 24 j0 (.agg #[.int .i64 0, .string ⟨#[]⟩, .int .i64 0, .string ⟨#[]⟩, .string ⟨#[]⟩]) 5 64 Tryz.underlying33 fi fz fs0 fb rfl (by decide) _ _ _ rfl HX4.out.o ⟨w2.heap.size, 0, none⟩ 1 1 (evCells ⟨step, wt, nd, first, second⟩) rfl rfl (cells_at rfl rfl) (by simp [evCells, Value.oneCell']) (by have := HTL.out.2; unfold maxLen; omega) (by have := HTL.out.2; omega) (by simp; omega) ?_))
            intro v9' w4 hown4 hgrow4 _ hat4
            have HM4 := Lib.hid (HX4.out.mid hgrow4)
            have HX5 := Lib.hid (HX4.out.app9 hown4 hgrow4 (hat4.imp id (fun e => e.trans (by simp))))
            obtain ⟨a9, n9, c9, rfl⟩ : ∃ a n c, v9' = .slice a n c := by obtain ⟨a, c, h⟩ := HX5.out.o.slice; exact ⟨a, _, c, h⟩
            clear q f hown4 hgrow4 hat4 qo
            obtain ⟨q, f⟩ := HM4.out.out
            gi_wp2_with fail
            go_roundw
            case rel => exact ⟨j + 1, kc, _, by omega, by omega, rfl, by go_num, Lib.hid (by rw [HOT.out, if_pos HND.out, HTK.out]; exact HX5.out), Lib.hid ⟨by rw [HCT.out, if_neg HWT.out, Nat.add_zero], HZ2.out⟩⟩
            case measure => (simp [intOf] <;> omega)
          · have HND := Lib.hid hnd
            have hnb : (nd == node) = false := by simpa using hnd
            clear hnd
            gi_wp2_with fail
            go_roundw
            case rel => exact ⟨j + 1, kc, _, by omega, by omega, rfl, by go_num, Lib.hid (by rw [HOT.out, if_neg HND.out, List.append_nil, HTK.out]; exact HX3.out), Lib.hid ⟨by rw [HCT.out, if_neg HWT.out, Nat.add_zero], HZ2.out⟩⟩
            case measure => (simp [intOf] <;> omega)
      · have hc : 100 < n1 ∨ (n1 ≤ 100 ∧ 400 < n2) ∨ (n1 ≤ 100 ∧ n2 ≤ 400 ∧ 400 < n3) := by omega
        obtain ⟨q, f⟩ := HX1.out.rb.out
        have HBX := Lib.hid HX1.out.b
        clear hs hl1 hl2 hl3 hsz2 htl hyl
        rcases hc with d1 | ⟨d1, d2⟩ | ⟨d1, d2, d3⟩
        all_goals
          gi_wp2_with fail
          have q0 := World.cell?_setCell_same _ ⟨w.heap.size, 0, none⟩ (.bool true) (q 0)
          exact ⟨_, by simp [results, Tryz.results4, go_sem, q0], rfl, HBX.out.setCell (Nat.le_refl _) _⟩
    · obtain rfl : j = n := by omega
      have htk : es.take j = es := List.take_of_length_le (by rw [HN.out]; exact Nat.le_refl _)
      rw [htk] at HX HC
      have hsz : ∀ e ∈ es, evSizes e := by
        intro e he
        obtain ⟨k, hk, rfl⟩ := List.getElem_of_mem he
        exact HC.out.2 k hk (by rw [HN.out]; exact hk)
      have HKC := Lib.hid HC.out.1
      have hel : es.length ≤ 40 := by rw [← HN.out]; exact hl
      clear HC htk
      have HT := Lib.hid (fun W (hW : Env ea W) (hV : RowV W (.slice A0 j cap0) es) => text_of es hel hsz (.slice A0 j cap0) ea W hW hV)
      have HU := Lib.hid (fun v W (hV : RowV W v es) => rtext27_of es hel hsz v W hV)
      have hnum := allN_num es
      have hrd := fun (h0 : tAllN es = 0) => read_all h0
      have hlen := fun (h0 : tAllN es = 0) => all_len es hsz (allN_all h0)
      obtain ⟨k, hk⟩ : ∃ k, k = tAllN es := ⟨_, rfl⟩
      obtain ⟨X, hX⟩ : ∃ X, X = (if tAllN es = 0 then tAll es else []) := ⟨_, rfl⟩
      rw [← hX, ← hk] at HT HU
      rw [← hk] at hnum hrd hlen
      have HXK : Hid (k = 0 → tRead X = .evs es ∧ X.length ≤ 100000) := Lib.hid (fun h0 => by
        rw [hX, if_pos (by rw [← hk]; exact h0)]
        exact ⟨hrd h0, by have := hlen h0; omega⟩)
      have HNM := Lib.hid hnum
      have HEL := Lib.hid hel
      clear hrd hlen hk hX hsz hnum hel
      gi_wp2_with fail
      refine ⟨trivial, ?_⟩
      refine (callsIn_wide.2 (HT.out _ (HE.out.below HX.out.b) (HV.out.below HX.out.b))).mono ?_
      rintro e w2 ⟨rfl, hb2⟩
      have HX2 := Lib.hid (HX.out.below hb2)
      clear hb2
      gi_wp2_with fail
      refine ⟨trivial, ?_⟩
      refine (callsIn_wide.2 (HU.out _ _ (row_of_own HX2.out.u))).mono ?_
      rintro e w3 ⟨rfl, hb3⟩
      have HX3 := Lib.hid (HX2.out.below hb3)
      have HN3 := Lib.hid (num27 k (by have := HNM.out; omega) ea w3 (HE.out.below HX3.out.b).e)
      clear hb3
      gi_wp2_with fail
      refine ⟨trivial, ?_⟩
      refine (callsIn_wide.2 HN3.out).mono ?_
      rintro e w4 ⟨rfl, hb4⟩
      have HX4 := Lib.hid (HX3.out.below hb4)
      have HC4 := Lib.hid (count_of es HEL.out what (.slice A0 j cap0) w4 (HV.out.below HX4.out.b))
      have hkc := HKC.out
      rw [← hkc] at HC4
      clear hb4 hkc
      gi_wp2_with fail
      refine ⟨trivial, ?_⟩
      refine (callsIn_wide.2 HC4.out).mono ?_
      rintro e w5 ⟨rfl, hb5⟩
      have HX5 := Lib.hid (HX4.out.below hb5)
      clear hb5
      gi_wp2_with fail
      refine ⟨trivial, ?_⟩
      refine (callsIn_wide.2 (ofSeq_of A0 j cap0 node _)).mono ?_
      rintro e w6 ⟨rfl, rfl⟩
      have HZB : Hid (Blk (((w5.alloc (.cells #[.int .i64 0] 3)).alloc (.cells #[.slice A0 j cap0] 33)).alloc (.cells #[.int .i64 node] 3)) w5.heap.size #[.int .i64 0] ∧ Blk (((w5.alloc (.cells #[.int .i64 0] 3)).alloc (.cells #[.slice A0 j cap0] 33)).alloc (.cells #[.int .i64 node] 3)) (w5.heap.size + 1) #[.slice A0 j cap0] ∧ Blk (((w5.alloc (.cells #[.int .i64 0] 3)).alloc (.cells #[.slice A0 j cap0] 33)).alloc (.cells #[.int .i64 node] 3)) (w5.heap.size + 2) #[.int .i64 node] ∧ (((w5.alloc (.cells #[.int .i64 0] 3)).alloc (.cells #[.slice A0 j cap0] 33)).alloc (.cells #[.int .i64 node] 3)).heap.size = w5.heap.size + 3 ∧ OB < w5.heap.size ∧ (∀ k, v9.ownBlock = some k → k < w5.heap.size) ∧ (∀ k, u7.ownBlock = some k → k < w5.heap.size)) :=
        Lib.hid ⟨((Blk.fresh _ _ _ _ rfl).alloc _).alloc _, (Blk.fresh _ _ _ _ (by simp)).alloc _, Blk.fresh _ _ _ _ (by simp), by simp, HX5.out.ob.lt, fun k hk => (HX5.out.o.lt k hk).2, fun k hk => (HX5.out.u.lt k hk).2⟩
      have HXZ := Lib.hid (HX5.out.below ((((Below.refl w5.heap.size w5).alloc (Nat.le_refl _) (.cells #[.int .i64 0] 3)).alloc (by simp) (.cells #[.slice A0 j cap0] 33)).alloc (by simp; omega) (.cells #[.int .i64 node] 3)))
      gi_wp2_with fail
      try simp only [World.size_alloc]
      generalize ((w5.alloc (.cells #[.int .i64 0] 3)).alloc (.cells #[.slice A0 j cap0] 33)).alloc (.cells #[.int .i64 node] 3) = Z at *
      generalize w5.heap.size = CB at *
      obtain ⟨z0, z1, z2, hZ, hOC, hl9, hl7⟩ := HZB.out
      have hlo := HXZ.out.lo
      have hCZ : CB < Z.heap.size := by omega
      rw [HN.out] at z1
      refine rangeQ (gf := 42) (lb := #[.pointer (some ⟨CB + 1, 0, none⟩), .pointer (some ⟨CB + 2, 0, none⟩)]) rfl (enters_of Tryz.func42 (by kernel_rfl) rfl) (encs := fun x : Ev => #[evV x])
        (S := fun xs => xs = tOf es node) (Sp := fun pre => ∃ rest, pre ++ rest = tOf es node) (TxK Z.heap.size CB) (fun l o o' A X hl => TxK.put hl) (fun A B X => TxK.under) ?hit (fun _ => rfl) (TxJ Z CB) (TxJ.own hCZ) ⟨⟨rfl, rfl, rfl, Nat.le_refl _, fun _ _ _ => rfl⟩, z0⟩ ?hround ?hdone
      case hit =>
        intro l J W hW hJ hY h0
        have hrz := reads_start (node := node) HXZ.out.b z1 z2 HROW.out.1 HROW.out.2
        refine of_in 4 (by omega) (CB + 1) (CB + 2) b0 o0 cap0 A0 node es HEL.out (fun hp => (HROW.out.1 hp).1) l J (TxK Z.heap.size CB) ?_ W hJ (hrz.below hW) hY h0
        intro X Y hk hx
        exact hx.kept hk.1 (hk.2 _ (by omega) hx.h1.lt (by omega)) (hk.2 _ (by omega) hx.h2.lt (by omega)) (fun hp => hk.2 _ (by have := (HROW.out.1 hp).2; omega) (hx.lt hp) (by have := (HROW.out.1 hp).2; omega))
      case hround =>
        rintro l pre ⟨step, wt, nd, first, second⟩ W ⟨rest, hsp⟩ hi0
        dsimp only [evV]
        clear hi0
        gi_wp2
        refine ⟨(Below.refl _ _).alloc (Nat.le_refl _) _, fun o hi hq => ?_⟩
        have hlne : l ≠ W.heap.size := by
          rintro rfl
          obtain ⟨q, h1, h2⟩ := hq
          rw [World.alloc_heap_new] at h1
          injection h1 with h1
          subst h1
          cases h2
        have hbs := (Blk.fresh W #[.int .i64 step, .string (bs wt), .int .i64 nd, .string (bs first), .string (bs second)] 24 _ rfl).putObj hlne o
        generalize (W.alloc (.cells #[.int .i64 step, .string (bs wt), .int .i64 nd, .string (bs first), .string (bs second)] 24)).putObj l o = WB at *
        generalize W.heap.size = EB at *
        obtain ⟨hg, hcb⟩ := hi
        have hob := HXZ.out.ob.heap hg.size (hg.block _ HXZ.out.ob.lt (fun e => by injection e with e; omega))
        have hrow := row_of_own (HXZ.out.o.heap (w' := WB) (fun k hk => hg.block k (HXZ.out.o.lt k hk).2 (fun e => by injection e with e; have := hl9 k hk; omega)))
        have hob0 := hob.cell 0
        obtain ⟨b9, o9, A9, cap9, hv9, hA9, hc9⟩ := hrow
        have hpl : pre.length < (tOf es node).length := by rw [← hsp]; simp
        have hx : (tOf es node)[pre.length]'hpl = ⟨step, wt, nd, first, second⟩ := by
          have : (tOf es node)[pre.length]? = some ⟨step, wt, nd, first, second⟩ := by rw [← hsp]; simp
          exact (List.getElem?_eq_some_iff.1 this).2
        obtain ⟨r0, r1, r2, r3, r4⟩ := hc9 pre.length hpl
        rw [hx] at r0 r1 r2 r3 r4
        obtain ⟨rfl, _⟩ := hA9 (by omega)
        dsimp only at r0 r1 r2 r3 r4
        rw [hv9] at hob0
        have hL40 : (tOf es node).length ≤ 40 := Nat.le_trans (List.length_filter_le _ _) HEL.out
        have HST := Lib.hid (TxJ.step (x := ⟨step, wt, nd, first, second⟩) hCZ ⟨hg, hcb⟩)
        have q := hcb.drew.cell; have f := hcb.drew.free
        have hcb0 := hcb.cell 0
        obtain ⟨L, hL⟩ : ∃ L, L = (tOf es node).length := ⟨_, rfl⟩
        obtain ⟨p, hp⟩ : ∃ p, p = pre.length := ⟨_, rfl⟩
        rw [← hL] at hob0 hpl hL40
        rw [← hp] at hpl r0 r1 r2 r3 r4 HST q hcb0
        have b0' := hbs.cell 0; have b1' := hbs.cell 1; have b2' := hbs.cell 2; have b3' := hbs.cell 3; have b4' := hbs.cell 4
        have hS : (fun w' : World => w'.cell? ⟨CB, 0, none⟩ = some (.int .i64 (p : Int)) ∧ w'.cell? ⟨OB, 0, none⟩ = some (.slice (some ⟨b9, o9, none⟩) L cap9) ∧ (w'.cell? ⟨EB, 0, none⟩ = some (.int .i64 step) ∧ w'.cell? ⟨EB, 1, none⟩ = some (.string (bs wt)) ∧ w'.cell? ⟨EB, 2, none⟩ = some (.int .i64 nd) ∧ w'.cell? ⟨EB, 3, none⟩ = some (.string (bs first)) ∧ w'.cell? ⟨EB, 4, none⟩ = some (.string (bs second))) ∧
            w'.cell? ⟨b9, o9 + p * 5, none⟩ = some (.int .i64 step) ∧ w'.cell? ⟨b9, o9 + p * 5 + 1, none⟩ = some (.string (bs wt)) ∧ w'.cell? ⟨b9, o9 + p * 5 + 2, none⟩ = some (.int .i64 nd) ∧ w'.cell? ⟨b9, o9 + p * 5 + 3, none⟩ = some (.string (bs first)) ∧ w'.cell? ⟨b9, o9 + p * 5 + 4, none⟩ = some (.string (bs second))) WB.drew := ⟨hcb0, hob0, ⟨b0', b1', b2', b3', b4'⟩, r0, r1, r2, r3, r4⟩
        have hpi : (p : Int) < (L : Int) := by omega
        have hp0 : (0 : Int) ≤ (p : Int) := by omega
        have hge : ¬ (L : Int) ≤ (p : Int) := by omega
        have hp40 : (p : Int) ≤ 40 := by omega
        have heq := fun W => rowEqT _ rfl step nd wt first second W
        have HP := Lib.hid hp
        clear hp hL
        clear r0 r1 r2 r3 r4 hob0 hcb0 b0' b1' b2' b3' b4' hx hpl hA9 hc9 hv9 hg hcb hob hbs hq hsp
        refine wpIn_block ?_
        repeat refine wpIn_seq_k (fun _ _ => ?_)
        refine region_round (S := fun w' : World => w'.cell? ⟨CB, 0, none⟩ = some (.int .i64 (p : Int)) ∧ w'.cell? ⟨OB, 0, none⟩ = some (.slice (some ⟨b9, o9, none⟩) L cap9) ∧ (w'.cell? ⟨EB, 0, none⟩ = some (.int .i64 step) ∧ w'.cell? ⟨EB, 1, none⟩ = some (.string (bs wt)) ∧ w'.cell? ⟨EB, 2, none⟩ = some (.int .i64 nd) ∧ w'.cell? ⟨EB, 3, none⟩ = some (.string (bs first)) ∧ w'.cell? ⟨EB, 4, none⟩ = some (.string (bs second))) ∧
            w'.cell? ⟨b9, o9 + p * 5, none⟩ = some (.int .i64 step) ∧ w'.cell? ⟨b9, o9 + p * 5 + 1, none⟩ = some (.string (bs wt)) ∧ w'.cell? ⟨b9, o9 + p * 5 + 2, none⟩ = some (.int .i64 nd) ∧ w'.cell? ⟨b9, o9 + p * 5 + 3, none⟩ = some (.string (bs first)) ∧ w'.cell? ⟨b9, o9 + p * 5 + 4, none⟩ = some (.string (bs second))) (by kernel_rfl) (by kernel_rfl) (by rintro ⟨_, _, h⟩; exact h) hS (fun hHeld => ?_)
        clear hS
        refine wpAnyH_takeAt (v := ?_) (d := some 102) 0 rfl rfl (by kernel_rfl) (by kernel_rfl) (by kernel_rfl) (fun _ _ _ h => h) hHeld (by rfl) ?_ ?_
        rotate_left 1
        · (intro w' hS'; (try dsimp only at hS'); go_simp; (try with_reducible rfl))
        simp only [Act.put, List.setIfInBounds_toArray, List.set_cons_zero, List.set_cons_succ]
        refine wpAnyH_takeAt (v := ?_) (d := some 103) 1 rfl rfl (by kernel_rfl) (by kernel_rfl) (by kernel_rfl) (fun _ _ _ h => h) hHeld (by rfl) ?_ ?_
        rotate_left 1
        · (intro w' hS'; (try dsimp only at hS'); go_simp; (try with_reducible rfl))
        simp only [Act.put, List.setIfInBounds_toArray, List.set_cons_zero, List.set_cons_succ]
        refine wpAnyH_takeAt (v := ?_) (d := some 104) 2 rfl rfl (by kernel_rfl) (by kernel_rfl) (by kernel_rfl) (fun _ _ _ h => h) hHeld (by rfl) ?_ ?_
        rotate_left 1
        · (intro w' hS'; (try dsimp only at hS'); go_simp; (try with_reducible rfl))
        simp only [Act.put, List.setIfInBounds_toArray, List.set_cons_zero, List.set_cons_succ]
        refine wpAnyH_takeAt (v := ?_) (d := some 105) 3 rfl rfl (by kernel_rfl) (by kernel_rfl) (by kernel_rfl) (fun _ _ _ h => h) hHeld (by rfl) ?_ ?_
        rotate_left 1
        · (intro w' hS'; (try dsimp only at hS'); go_simp; (try with_reducible rfl))
        simp only [Act.put, List.setIfInBounds_toArray, List.set_cons_zero, List.set_cons_succ]
        refine wpAnyH_takeAt (v := ?_) (d := some 106) 4 rfl rfl (by kernel_rfl) (by kernel_rfl) (by kernel_rfl) (fun _ _ _ h => h) hHeld (by rfl) ?_ ?_
        rotate_left 1
        · (intro w' hS'; (try dsimp only at hS'); go_simp; (try with_reducible rfl))
        simp only [Act.put, List.setIfInBounds_toArray, List.set_cons_zero, List.set_cons_succ]
        refine wpAnyH_takeAt (v := ?_) (d := some 107) 5 rfl rfl (by kernel_rfl) (by kernel_rfl) (by kernel_rfl) (fun _ _ _ h => h) hHeld (by rfl) ?_ ?_
        rotate_left 1
        · (intro w' hS'; (try dsimp only at hS'); go_simp; (try with_reducible rfl))
        simp only [Act.put, List.setIfInBounds_toArray, List.set_cons_zero, List.set_cons_succ]
        refine wpAnyH_takeAt (v := ?_) (d := some 108) 6 rfl rfl (by kernel_rfl) (by kernel_rfl) (by kernel_rfl) (fun _ _ _ h => h) hHeld (by rfl) ?_ ?_
        rotate_left 1
        · (intro w' hS'; (try dsimp only at hS'); go_simp; (try with_reducible rfl))
        simp only [Act.put, List.setIfInBounds_toArray, List.set_cons_zero, List.set_cons_succ]
        refine wpAnyH_takeAt (v := ?_) (d := some 109) 7 rfl rfl (by kernel_rfl) (by kernel_rfl) (by kernel_rfl) (fun _ _ _ h => h) hHeld (by rfl) ?_ ?_
        rotate_left 1
        · (intro w' hS'; (try dsimp only at hS'); go_simp; (try with_reducible rfl))
        simp only [Act.put, List.setIfInBounds_toArray, List.set_cons_zero, List.set_cons_succ]
        refine wpAnyH_takeAt (v := ?_) (d := some 110) 8 rfl rfl (by kernel_rfl) (by kernel_rfl) (by kernel_rfl) (fun _ _ _ h => h) hHeld (by rfl) ?_ ?_
        rotate_left 1
        · (intro w' hS'; (try dsimp only at hS'); go_simp; (try with_reducible rfl))
        simp only [Act.put, List.setIfInBounds_toArray, List.set_cons_zero, List.set_cons_succ]
        refine wpAnyH_takeAt (v := ?_) (d := some 111) 9 rfl rfl (by kernel_rfl) (by kernel_rfl) (by kernel_rfl) (fun _ _ _ h => h) hHeld (by rfl) ?_ ?_
        rotate_left 1
        · (intro w' hS'; (try dsimp only at hS'); go_simp; (try with_reducible rfl))
        simp only [Act.put, List.setIfInBounds_toArray, List.set_cons_zero, List.set_cons_succ]
        refine wpAnyH_takeAt (v := ?_) (d := some 112) 10 rfl rfl (by kernel_rfl) (by kernel_rfl) (by kernel_rfl) (fun _ _ _ h => h) hHeld (by rfl) ?_ ?_
        rotate_left 1
        · (intro w' hS'; (try dsimp only at hS'); go_simp; (try with_reducible rfl))
        simp only [Act.put, List.setIfInBounds_toArray, List.set_cons_zero, List.set_cons_succ]
        refine wpAnyH_takeAt (v := ?_) (d := some 113) 11 rfl rfl (by kernel_rfl) (by kernel_rfl) (by kernel_rfl) (fun _ _ _ h => h) hHeld (by rfl) ?_ ?_
        rotate_left 1
        · (intro w' hS'; (try dsimp only at hS'); go_simp; (try with_reducible rfl))
        simp only [Act.put, List.setIfInBounds_toArray, List.set_cons_zero, List.set_cons_succ]
        refine wpAnyH_done (by kernel_rfl) ?_ _
        clear hHeld heq
        gi_wp2_with fail
        have h9 := HST.out
        rw [hZ] at h9
        exact h9
      case hdone =>
        rintro D xs W hD hS ⟨hg, hcb⟩ hK
        subst hS
        have hbw : Below w.heap.size w W := HXZ.out.b.grown hg HXZ.out.b.size (fun k hk => by injection hk with hk; omega)
        have hob := HXZ.out.ob.heap hg.size (hg.block _ HXZ.out.ob.lt (fun e => by injection e with e; omega))
        have hrb := HXZ.out.rb.heap hg.size (hg.block _ HXZ.out.rb.lt (fun e => by injection e with e; omega))
        have hu := HXZ.out.u.heap (w' := W) (fun k hk => hg.block k (HXZ.out.u.lt k hk).2 (fun e => by injection e with e; have := hl7 k hk; omega))
        have hrow := row_of_own (HXZ.out.o.heap (w' := W) (fun k hk => hg.block k (HXZ.out.o.lt k hk).2 (fun e => by injection e with e; have := hl9 k hk; omega)))
        obtain ⟨b9, o9, A9, cap9, hv9, _, _⟩ := hrow
        have d0 := hcb.cell 0; have d1 := hob.cell 0
        rw [hv9] at d1
        obtain ⟨L, hL⟩ : ∃ L, L = (tOf es node).length := ⟨_, rfl⟩
        rw [← hL] at d0 d1
        have HW := Lib.hid hbw; have HRB := Lib.hid hrb; have HRU := Lib.hid (row_of_own hu)
        clear hbw hrb hu hob hcb hg hv9 hL z0 z1 z2
        by_cases h0 : k = 0
        · subst h0
          obtain ⟨hrd, hxl⟩ := HXK.out rfl
          have hR := read_of X hxl ea W (HE.out.below HW.out)
          rw [hrd] at hR
          have HR := Lib.hid hR
          have hnil : errOf ea 0 = .nilIface := rfl
          rw [hnil]
          clear hrd hxl hR hnil
          gi_wp2_with fail
          refine ⟨trivial, ?_⟩
          refine (callsIn_wide.2 HR.out).mono ?_
          rintro e w6 ⟨v5, rfl, ho5, hb5⟩
          have HW6 := Lib.hid (below_then HW.out hb5); have HRB6 := Lib.hid (HRB.out.below hb5)
          have hK6 : w6.heap[D]? = some (.deferred (some [])) := (hb5.block D (Array.getElem?_eq_some_iff.1 hK).1).trans hK
          have HS := Lib.hid (same_of v5 u7 es (by have := HEL.out; omega) w6 (row_of_own ho5) (HRU.out.below hb5))
          clear ho5 hb5 d0 d1 hK
          gi_wp2_with fail
          refine ⟨trivial, ?_⟩
          refine (callsIn_wide.2 HS.out).mono ?_
          rintro e w7 ⟨rfl, hb7⟩
          have HW7 := Lib.hid (below_then HW6.out hb7)
          have hK7 : w7.heap[D]? = some (.deferred (some [])) := (hb7.block D (Array.getElem?_eq_some_iff.1 hK6).1).trans hK6
          obtain ⟨q, f⟩ := (HRB6.out.below hb7).out
          clear hb7 hK6
          gi_wp2_with fail
          have hq := World.cell?_setCell_same w7 ⟨w.heap.size, 0, none⟩ (.bool true) (q 0)
          have hKf : (w7.setCell ⟨w.heap.size, 0, none⟩ (.bool true)).heap[D]? = some (.deferred (some [])) := (Below.heap_setCell w7 ⟨w.heap.size, 0, none⟩ _ D (by show D ≠ w.heap.size; omega)).trans hK7
          refine ⟨by simp, .inl ⟨_, _, rfl, run_takeDeferred hKf, ?_⟩⟩
          have q0 := cell_kept hq (grownBy_putObj' _ D (.deferred none)) (fun r e => by cases e; exact ⟨_, hKf, rfl⟩)
          refine ⟨_, by simp [results, Tryz.results4, go_sem, q0], rfl, ?_⟩
          exact (HW7.out.setCell (p := ⟨w.heap.size, 0, none⟩) (Nat.le_refl _) (.bool true)).trans (belowK_b (w := w) (Nat.le_refl _) _ D _ _ (by omega) hKf rfl rfl)
        · have hk0 : (k != 0) = true := by simpa using h0
          obtain ⟨q, f⟩ := HRB.out.out
          clear h0
          gi_wp2_with fail
          have hq := World.cell?_setCell_same W ⟨w.heap.size, 0, none⟩ (.bool true) (q 0)
          have hKf : (W.setCell ⟨w.heap.size, 0, none⟩ (.bool true)).heap[D]? = some (.deferred (some [])) := (Below.heap_setCell W ⟨w.heap.size, 0, none⟩ _ D (by show D ≠ w.heap.size; omega)).trans hK
          refine ⟨by simp, .inl ⟨_, _, rfl, run_takeDeferred hKf, ?_⟩⟩
          have q0 := cell_kept hq (grownBy_putObj' _ D (.deferred none)) (fun r e => by cases e; exact ⟨_, hKf, rfl⟩)
          refine ⟨_, by simp [results, Tryz.results4, go_sem, q0], rfl, ?_⟩
          exact (HW.out.setCell (p := ⟨w.heap.size, 0, none⟩) (Nat.le_refl _) (.bool true)).trans (belowK_b (w := w) (Nat.le_refl _) _ D _ _ (by omega) hKf rfl rfl)
end Go.Proofs.YthjdaehiebcoaaaGreatDoor
