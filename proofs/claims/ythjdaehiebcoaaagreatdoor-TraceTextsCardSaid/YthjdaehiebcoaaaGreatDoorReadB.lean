/- The walk of trace.Read's closure: a range over strings.Lines whose rounds append or panic. -/
import Derived.Test.YthjdaehiebcoaaaGreatDoorRows
import Derived.WalkKit
import Derived.WalkSpells
import Derived.WalkLawsBesides
import Derived.BigQuiet
import Derived.Deep.QuietTactic
import Derived.StillTailTactics
import Derived.Handy
import Derived.Lib.Hide
import Derived.Test.YthjdaehiebcoaaaGreatDoorReadA
import Derived.Test.YthjdaehiebcoaaaGreatDoorLines
import Derived.Test.YthjdaehiebcoaaaGreatDoorRoundR
set_option linter.unusedSimpArgs false
set_option linter.unusedVariables false
namespace Go.Proofs.YthjdaehiebcoaaaGreatDoor
open Go.RowKit Go.Shelf
attribute [local go_sem] Oper.semAt_some

def ReadPost (ea : Int → Addr) (r : Saids) (w : World) (e : Ending) (w' : World) : Prop := match r with
  | .evs es => MakesV es w e w'
  | .no n => Fails (errV (ea n)) w e w'
theorem cells_new {w : World} {E : Nat} {C : Array Value} {l : List Value} (h : Blk w E C) (hl : l = C.toList := by rfl) : ∀ (j : Nat) (u : Value), l[j]? = some u → w.cell? ((⟨E, 0, none⟩ : Addr).add j) = some u := by
  intro j u hj
  simp only [Addr.add_lit, Nat.zero_add]
  rw [h.cell, ← hj, hl, Array.getElem?_toList]
theorem trimN_length (x : Str) : (trimN x).length ≤ x.length := by
  unfold trimN Lib.trimSuffix
  split
  · rw [List.length_take]; omega
  · exact Nat.le_refl _
theorem then_k {F : Fence} {n : Nat} {P : Program} {c : Code} {R : Act → World → Prop} {Q : Exit → Act → World → Prop} {a : Act} {w : World} (h : ∀ K : Act → World → Prop, (∀ a w, R a w → K a w) → c.wpIn F n P (Exit.then K Q) a w) : c.wpIn F n P (Exit.then R Q) a w := h R fun _ _ h => h
/-- between two rounds -/
def RdI (w : World) (B ob : Nat) (pre : List StrB) (W : World) : Prop :=
  ∃ v es, Blk W ob #[v] ∧ OwnV B v es W ∧ (pre.map fun x => tParse (trimN x.1)) = es.map Said.ev ∧ Below w.heap.size w W ∧ B ≤ W.heap.size
/-- a round has panicked -/
def RdP (ea : Int → Addr) (w : World) (pre : List StrB) (c : List PanicEntry) (W : World) : Prop :=
  ∃ n, c = [{ v := errV (ea n), recovered := false }] ∧ (∃ (p : List StrB) (x : StrB) (es : List Ev), pre = p ++ [x] ∧ (p.map fun x => tParse (trimN x.1)) = es.map Said.ev ∧ tParse (trimN x.1) = .no n) ∧ Below w.heap.size w W
theorem keeps_of_below {B : Nat} {W W' : World} (h : Below W.heap.size W W') : KeepsFrom B W W' := ⟨h.size, fun k o _ ho _ => (h.block k (Array.getElem?_eq_some_iff.1 ho).1).trans ho⟩
theorem appended {w Wr w5 w6 : World} {B ob : Nat} {v v' : Value} {es : List Ev} {e : Ev} (HO : Blk w5 ob #[v]) (HW : OwnV B v es w5) (HB : Below Wr.heap.size Wr w5) (HB0 : Below w.heap.size w Wr) (hgrow : w5.grownBy w6 v.ownBlock)
    (hown6 : w6.ownsRow B 24 5 v' (es.length + 1) (evRow es ++ evCells e)) (hob : ob < B) (hwb : w.heap.size ≤ ob) (hBr : B ≤ Wr.heap.size) :
    Blk w6 ob #[v] ∧ OwnV B v' (es ++ [e]) w6 ∧ KeepsFrom B Wr w6 ∧ (∀ C sb, sb < B → Blk Wr sb C → Blk w6 sb C) ∧ Below w.heap.size w w6 := by
  have hlt := HW.lt
  have hne : ∀ k, k < B → some k ≠ v.ownBlock := fun k hk e => by have := (hlt k e.symm).1; omega
  have hcells : ∀ (j : Nat) (o : Obj), v.ownBlock = some j → w5.heap[j]? = some o → o.isCells = true := fun j o hj ho => by
    rcases HW.2 with ⟨hn, _⟩ | ⟨g, cap, cur, hv, _, hc, _⟩
    · rw [hn] at hj; simp [Value.ownBlock] at hj
    · subst hv
      have : g = j := by simpa [Value.ownBlock] using hj
      subst this
      rw [hc] at ho
      rw [← Option.some.inj ho]; rfl
  refine ⟨HO.heap hgrow.size (hgrow.block ob HO.lt (hne ob hob)), ?_, ?_, fun C sb hsb hC => ?_, ?_⟩
  · unfold OwnV
    rw [evRow_snoc, List.length_append]
    exact hown6
  · exact (keeps_of_below HB).trans ((KeepsOthers.of_grownBy hgrow hcells).from B)
  · exact (hC.below HB).heap hgrow.size (hgrow.block sb (hC.below HB).lt (hne sb hsb))
  · exact (below_then HB0 HB).grown hgrow (Nat.le_trans HB0.size HB.size) (fun k hk => by have := (hlt k hk).1; omega)
set_option maxRecDepth 100000 in
set_option maxHeartbeats 4000000 in
theorem read1_of (s : Str) (hs : s.length ≤ 100000) (p : Addr) (ea : Int → Addr) (w : World) (h : Env ea w) (hp : w.cell? p = some (.string (bs s))) :
    Calls Tryz.prog 32 #[.pointer (some p)] w (ReadPost ea (tReads (tLines s)) w) := by
  have HE := Lib.hid h
  have hlt := lt_of_cell hp
  have hmf : ∀ (fn : Fn) (first cap : Array Value) (w : World), (Instr.makeFunc fn first cap).run Tryz.prog w = .ok (.func fn first cap) w := fun _ _ _ _ => rfl
  refine (callsIn_wide (n := 5)).1 ?_
  refine calls_of_at Tryz.func32 rfl ?_
  simp only [Tryz.ntmps32, List.size_toArray, List.length_cons, List.length_nil, Nat.reduceAdd, Nat.reduceSub, Array.replicate_succ, Array.replicate_zero, List.push_toArray, List.append_toArray, List.nil_append, List.cons_append]
  refine at_seq_k (fun K1 hK1 => ?_)
  refine at_of_wp ?_
  gi_wp2
  refine at_seq_k (fun K2 hK2 => ?_)
  refine at_of_wp ?_
  gi_wp2
  refine at_seq_k (fun K3 hK3 => ?_)
  refine at_seq_k (fun K4 hK4 => ?_)
  refine at_of_wp ?_
  gi_wp2_with fail
  refine ⟨trivial, ?_⟩
  refine (callsIn_wide.2 (linesSeq_of s _)).mono ?_
  rintro e w1 ⟨rfl, rfl⟩
  gi_wp2
  refine at_block ?_
  have hO0 : Blk ((w.alloc (.cells #[.slice none 0 0] 33)).alloc (.cells #[.string (bs s)] 9)) w.heap.size #[.slice none 0 0] := (Blk.fresh w _ _ _ rfl).alloc _
  have hS0 : Blk ((w.alloc (.cells #[.slice none 0 0] 33)).alloc (.cells #[.string (bs s)] 9)) (w.heap.size + 1) #[.string (bs s)] := Blk.fresh _ _ _ _ (by simp)
  have hB2 : Below w.heap.size w ((w.alloc (.cells #[.slice none 0 0] 33)).alloc (.cells #[.string (bs s)] 9)) := ((Below.refl _ w).alloc (Nat.le_refl _) _).alloc (by simp) _
  have hz2 : ((w.alloc (.cells #[.slice none 0 0] 33)).alloc (.cells #[.string (bs s)] 9)).heap.size = w.heap.size + 2 := by simp
  try simp only [World.size_alloc]
  generalize (w.alloc (.cells #[.slice none 0 0] 33)).alloc (.cells #[.string (bs s)] 9) = W2 at *
  obtain ⟨i0, ei, ez, es0, eb⟩ := info_parts infoEv
  refine rangeP Tryz.func32 (gf := 61) (lb := #[.pointer (some ⟨w.heap.size + 1, 0, none⟩)]) rfl (enters_of Tryz.func61 (by kernel_rfl) rfl) (encs := fun x : StrB => #[.string (bs x.1)])
    (S := fun xs => (xs.map (·.1)).map trimN = tLines s) (Sp := fun pre => ∃ rest, (pre.map (·.1)).map trimN ++ rest = tLines s) (w.heap.size + 1) (by omega) #[.string (bs s)] hS0 (Turns (w.heap.size + 1)) (fun A B h => turns_keeps _ h)
    (fun l J Jp W hJ hS hY h0 => lines_in 4 (by omega) (w.heap.size + 1) s l J Jp W hJ hS hs hY h0) (fun _ => rfl) (RdI w (w.heap.size + 2) w.heap.size) (RdP ea w) ?hI ?hIT ?h0 ?hround ?hdone ?hpan
  case hI =>
    rintro pre A B row ⟨v, es, h1, h2, h3, h4, h5⟩ hg hr
    refine ⟨v, es, h1.heap hg.size (hg.block _ h1.lt (fun e => by have := (hr _ e.symm).1; omega)), h2.heap (fun k hk => hg.block k (h2.lt k hk).2 (fun e => ?_)), h3, h4.grown hg h4.size (fun k e => by have := (hr _ e).1; omega), Nat.le_trans h5 hg.size⟩
    obtain ⟨_, o, ho, hoc⟩ := hr _ e.symm
    rcases h2.2 with ⟨hn, _⟩ | ⟨g, cap, cur, hv, _, hc, _⟩
    · rw [hn] at hk; simp [Value.ownBlock] at hk
    · subst hv
      have : g = k := by simpa [Value.ownBlock] using hk
      subst this
      rw [hc] at ho
      rw [← Option.some.inj ho] at hoc
      cases hoc
  case hIT =>
    rintro pre A B ⟨v, es, h1, h2, h3, h4, h5⟩ ⟨u, k, rfl⟩
    have a1 := h1.other (p := ⟨w.heap.size + 1, 0, none⟩) (by dsimp only; omega) u
    have a2 := h2.store (b := w.heap.size + 1) (by omega) 0 u
    have a4 := h4.setCell (p := ⟨w.heap.size + 1, 0, none⟩) (by dsimp only; omega) u
    exact ⟨v, es, ⟨a1.lt, a1.cell, a1.free⟩, a2, h3, ⟨a4.os, a4.tape, a4.output, a4.size, a4.block⟩, by simpa using h5⟩
  case h0 => exact ⟨_, [], hO0, World.ownsRow_nil _ _ _ _, rfl, hB2, by omega⟩
  case hround =>
    rintro l pre ⟨x, hx⟩ W hsp hi
    have hes : ∀ es : List Ev, (pre.map fun x => tParse (trimN x.1)) = es.map Said.ev → es.length ≤ 100000 := fun es he => by
      obtain ⟨rest, hr⟩ := hsp
      have h1 := congrArg List.length he
      have h2 := congrArg List.length hr
      have h3 := lines_length s
      simp only [List.length_map, List.length_append, List.length_cons, List.length_nil] at h1 h2
      omega
    refine then_k (fun K hK => ?_)
    gi_wp2
    intro o hi2
    refine wpIn_block ?_
    refine region_round (S := fun _ => True) (by kernel_rfl) (by kernel_rfl) (fun ⟨_, _, h⟩ => h) trivial (fun _ => ?_)
    obtain ⟨v, es, hO, hV, hrel, hB0, hzr⟩ := hi2
    have hes2 := hes es hrel
    obtain ⟨av, cv, rfl⟩ := hV.slice
    obtain ⟨Wr, hWr⟩ : ∃ Wr, Wr = W.putObj l o := ⟨_, rfl⟩
    rw [← hWr] at hO hV hB0 hzr ⊢
    clear hWr hi hsp
    have HREL := Lib.hid hrel
    have HT := Lib.hid (fun W' => trimSuffix_of x hx W')
    have hyl := trimN_length x
    obtain ⟨y, hy⟩ : ∃ y, y = trimN x := ⟨_, rfl⟩
    rw [← hy] at HT hyl
    have hP := fun W' hW' => parse_of y (by omega) ea W' hW'
    have HO := Lib.hid hO.drew; have HW := Lib.hid (hV.below (Below.refl Wr.heap.size Wr).drew); have HE := Lib.hid ((HE.out.below hB0).below (Below.refl Wr.heap.size Wr).drew); have HB := Lib.hid (Below.refl Wr.heap.size Wr).drew
    have HB0 := Lib.hid hB0
    have hob : w.heap.size < w.heap.size + 2 := by omega
    have hwb : w.heap.size ≤ w.heap.size := Nat.le_refl _
    have hBr : w.heap.size + 2 ≤ Wr.heap.size := hzr
    have hB2r : w.heap.size + 2 ≤ Wr.heap.size := hBr
    clear hO hV hB0 hrel hes hzr
    obtain ⟨B, hBB⟩ : ∃ B, B = w.heap.size + 2 := ⟨_, rfl⟩
    cases hpar : tParse y with
    | no k =>
      have hk := no_num hpar
      rw [hpar] at hP
      rw [show errOf ea (Said.no k).num = errV (ea k) from if_neg hk] at hP
      have HPAR := Lib.hid hpar
      have HY := Lib.hid hy
      dsimp only [Said.get, evV, evC, ev0] at hP
      have HP := Lib.hid hP
      have HM := Lib.hid (fun W' => must_no ev0 (ea k) W')
      dsimp only [evV, evC, ev0] at HM
      have HDIE : Hid (∀ (c : List PanicEntry) (w6 : World), c = [{ v := errV (ea k), recovered := false }] → Below Wr.heap.size Wr w6 → KeepsFrom (w.heap.size + 2) Wr w6 ∧ RdP ea w (pre ++ [⟨x, hx⟩]) c w6) := Lib.hid (fun c w6 hc hb => ⟨keeps_of_below hb, k, hc, ⟨pre, ⟨x, hx⟩, es, rfl, HREL.out, by rw [← HPAR.out, HY.out]⟩, below_then HB0.out hb⟩)
      clear hP hpar hy hk hyl
      generalize Wr.drew = w5 at *
      obtain ⟨step, hstep⟩ : ∃ i : Int, i = 0 := ⟨_, rfl⟩
      obtain ⟨node, hnode⟩ : ∃ i : Int, i = 0 := ⟨_, rfl⟩
      obtain ⟨what, hwhat⟩ : ∃ i : Str, i = [] := ⟨_, rfl⟩
      obtain ⟨first, hfirst⟩ : ∃ i : Str, i = [] := ⟨_, rfl⟩
      obtain ⟨second, hsecond⟩ : ∃ i : Str, i = [] := ⟨_, rfl⟩
      have HP : Hid (∀ W', Env ea W' → Calls Tryz.prog 6 #[.string (bs y)] W' (Makes (.tuple #[.agg #[.int .i64 step, .string (bs what), .int .i64 node, .string (bs first), .string (bs second)], errV (ea k)]) W')) := by subst hstep; subst hnode; subst hwhat; subst hfirst; subst hsecond; exact HP
      have HM : Hid (∀ W', Calls Tryz.prog 34 #[.agg #[.int .i64 step, .string (bs what), .int .i64 node, .string (bs first), .string (bs second)], errV (ea k)] W' (Fails (errV (ea k)) W')) := by subst hstep; subst hnode; subst hwhat; subst hfirst; subst hsecond; exact HM
      clear hstep hnode hwhat hfirst hsecond
      have hHeld : (fun _ : World => True) w5 := trivial
      refine wpAnyH_takeAt (v := ?_) (d := some 8) 1 rfl rfl (by kernel_rfl) (by kernel_rfl) (by kernel_rfl) (fun _ _ _ h => h) hHeld (by rfl) ?_ ?_
      rotate_left 1
      · (intro w' hS'; (try dsimp only at hS'); go_simp; (try with_reducible rfl))
      simp only [Act.put, List.setIfInBounds_toArray, List.set_cons_zero, List.set_cons_succ]
      refine wpAnyH_two 0 2 (by kernel_rfl) ?_ ?_
      · skip
        have o0 : w5.cell? ⟨w.heap.size, 0, none⟩ = some (.slice av es.length cv) := HO.out.cell 0
        refine wpOp_step rfl (fun K' hK => ?_)
        go_simp
        refine hK _ _ ⟨trivial, ?_⟩
        clear o0 hK
        try simp only [Act.put, List.setIfInBounds_toArray, List.set_cons_zero, List.set_cons_succ]
        have hHeld : (fun _ : World => True) w5 := trivial
        refine wpAnyH_call (d := some 9) 2 35 _ _ [.string (bs x), .string ⟨#[10]⟩] rfl rfl (by kernel_rfl) rfl (enters_of Tryz.func35 (by kernel_rfl) rfl) (by rfl) (by rfl) ?_
        refine (HT.out _).mono ?_; rintro e w5 ⟨rfl, rfl⟩
        have hHeld : (fun _ : World => True) w5 := trivial
        refine ⟨_, rfl, _, fun _ h => h, hHeld, fun hHeld => ?_⟩
        simp only [Act.put, List.setIfInBounds_toArray, List.set_cons_zero, List.set_cons_succ]
        have hHeld : (fun _ : World => True) w5 := trivial
        refine wpAnyH_call (d := some 10) 3 6 _ _ [.string (bs y)] rfl rfl (by kernel_rfl) rfl (enters_of Tryz.func6 (by kernel_rfl) rfl) (by rfl) (by rfl) ?_
        refine (HP.out _ HE.out).mono ?_; rintro e w5 ⟨rfl, hb1⟩
        have HB := Lib.hid (below_then HB.out hb1)
        have HE := Lib.hid (HE.out.below hb1)
        have HO := Lib.hid (HO.out.below hb1)
        have HW := Lib.hid (HW.out.below hb1)
        have hHeld : (fun _ : World => True) w5 := trivial
        refine ⟨_, rfl, _, fun _ h => h, hHeld, fun hHeld => ?_⟩
        simp only [Act.put, List.setIfInBounds_toArray, List.set_cons_zero, List.set_cons_succ]
        refine wpAnyH_takeAt (v := ?_) (d := some 11) 4 rfl rfl (by kernel_rfl) (by kernel_rfl) (by kernel_rfl) (fun _ _ _ h => h) hHeld (by rfl) ?_ ?_
        rotate_left 1
        · (intro w' hS'; (try dsimp only at hS'); go_simp; (try with_reducible rfl))
        simp only [Act.put, List.setIfInBounds_toArray, List.set_cons_zero, List.set_cons_succ]
        refine wpAnyH_takeAt (v := ?_) (d := some 12) 5 rfl rfl (by kernel_rfl) (by kernel_rfl) (by kernel_rfl) (fun _ _ _ h => h) hHeld (by rfl) ?_ ?_
        rotate_left 1
        · (intro w' hS'; (try dsimp only at hS'); go_simp; (try with_reducible rfl))
        simp only [Act.put, List.setIfInBounds_toArray, List.set_cons_zero, List.set_cons_succ]
        refine wpAnyH_die [{ v := errV (ea k), recovered := false }] 6 34 _ _ [.agg #[.int .i64 step, .string (bs what), .int .i64 node, .string (bs first), .string (bs second)], errV (ea k)] rfl (by kernel_rfl) rfl (enters_of Tryz.func34 (by kernel_rfl) rfl) (by rfl) (by rfl) ?_
        refine (HM.out _).mono ?_
        rintro e w6 ⟨rfl, hb6⟩
        exact ⟨rfl, rfl, HDIE.out _ _ rfl (below_then HB.out hb6)⟩
      · skip
        refine wpOp_call (d := some 9) 2 35 _ _ [.string (bs x), .string ⟨#[10]⟩] rfl rfl rfl (enters_of Tryz.func35 (by kernel_rfl) rfl) (by rfl) (by rfl) ?_
        refine (HT.out _).mono ?_; rintro e w5 ⟨rfl, rfl⟩
        refine ⟨_, rfl, trivial, ?_⟩
        simp only [Act.put, List.setIfInBounds_toArray, List.set_cons_zero, List.set_cons_succ]
        refine wpAnyH_two 0 3 (by kernel_rfl) ?_ ?_
        · skip
          have o0 : w5.cell? ⟨w.heap.size, 0, none⟩ = some (.slice av es.length cv) := HO.out.cell 0
          refine wpOp_step rfl (fun K' hK => ?_)
          go_simp
          refine hK _ _ ⟨trivial, ?_⟩
          clear o0 hK
          try simp only [Act.put, List.setIfInBounds_toArray, List.set_cons_zero, List.set_cons_succ]
          have hHeld : (fun _ : World => True) w5 := trivial
          refine wpAnyH_call (d := some 10) 3 6 _ _ [.string (bs y)] rfl rfl (by kernel_rfl) rfl (enters_of Tryz.func6 (by kernel_rfl) rfl) (by rfl) (by rfl) ?_
          refine (HP.out _ HE.out).mono ?_; rintro e w5 ⟨rfl, hb1⟩
          have HB := Lib.hid (below_then HB.out hb1)
          have HE := Lib.hid (HE.out.below hb1)
          have HO := Lib.hid (HO.out.below hb1)
          have HW := Lib.hid (HW.out.below hb1)
          have hHeld : (fun _ : World => True) w5 := trivial
          refine ⟨_, rfl, _, fun _ h => h, hHeld, fun hHeld => ?_⟩
          simp only [Act.put, List.setIfInBounds_toArray, List.set_cons_zero, List.set_cons_succ]
          refine wpAnyH_takeAt (v := ?_) (d := some 11) 4 rfl rfl (by kernel_rfl) (by kernel_rfl) (by kernel_rfl) (fun _ _ _ h => h) hHeld (by rfl) ?_ ?_
          rotate_left 1
          · (intro w' hS'; (try dsimp only at hS'); go_simp; (try with_reducible rfl))
          simp only [Act.put, List.setIfInBounds_toArray, List.set_cons_zero, List.set_cons_succ]
          refine wpAnyH_takeAt (v := ?_) (d := some 12) 5 rfl rfl (by kernel_rfl) (by kernel_rfl) (by kernel_rfl) (fun _ _ _ h => h) hHeld (by rfl) ?_ ?_
          rotate_left 1
          · (intro w' hS'; (try dsimp only at hS'); go_simp; (try with_reducible rfl))
          simp only [Act.put, List.setIfInBounds_toArray, List.set_cons_zero, List.set_cons_succ]
          refine wpAnyH_die [{ v := errV (ea k), recovered := false }] 6 34 _ _ [.agg #[.int .i64 step, .string (bs what), .int .i64 node, .string (bs first), .string (bs second)], errV (ea k)] rfl (by kernel_rfl) rfl (enters_of Tryz.func34 (by kernel_rfl) rfl) (by rfl) (by rfl) ?_
          refine (HM.out _).mono ?_
          rintro e w6 ⟨rfl, hb6⟩
          exact ⟨rfl, rfl, HDIE.out _ _ rfl (below_then HB.out hb6)⟩
        · skip
          refine wpOp_call (d := some 10) 3 6 _ _ [.string (bs y)] rfl rfl rfl (enters_of Tryz.func6 (by kernel_rfl) rfl) (by rfl) (by rfl) ?_
          refine (HP.out _ HE.out).mono ?_; rintro e w5 ⟨rfl, hb1⟩
          have HB := Lib.hid (below_then HB.out hb1)
          have HE := Lib.hid (HE.out.below hb1)
          have HO := Lib.hid (HO.out.below hb1)
          have HW := Lib.hid (HW.out.below hb1)
          refine ⟨_, rfl, trivial, ?_⟩
          simp only [Act.put, List.setIfInBounds_toArray, List.set_cons_zero, List.set_cons_succ]
          have hHeld : (fun _ : World => True) w5 := trivial
          refine wpAnyH_takeAt (v := ?_) (d := some 11) 4 rfl rfl (by kernel_rfl) (by kernel_rfl) (by kernel_rfl) (fun _ _ _ h => h) hHeld (by rfl) ?_ ?_
          rotate_left 1
          · (intro w' hS'; (try dsimp only at hS'); go_simp; (try with_reducible rfl))
          simp only [Act.put, List.setIfInBounds_toArray, List.set_cons_zero, List.set_cons_succ]
          refine wpAnyH_takeAt (v := ?_) (d := some 12) 5 rfl rfl (by kernel_rfl) (by kernel_rfl) (by kernel_rfl) (fun _ _ _ h => h) hHeld (by rfl) ?_ ?_
          rotate_left 1
          · (intro w' hS'; (try dsimp only at hS'); go_simp; (try with_reducible rfl))
          simp only [Act.put, List.setIfInBounds_toArray, List.set_cons_zero, List.set_cons_succ]
          refine wpAnyH_two 0 6 (by kernel_rfl) ?_ ?_
          · skip
            have o0 : w5.cell? ⟨w.heap.size, 0, none⟩ = some (.slice av es.length cv) := HO.out.cell 0
            refine wpOp_step rfl (fun K' hK => ?_)
            go_simp
            refine hK _ _ ⟨trivial, ?_⟩
            clear o0 hK
            try simp only [Act.put, List.setIfInBounds_toArray, List.set_cons_zero, List.set_cons_succ]
            refine wpAnyH_die [{ v := errV (ea k), recovered := false }] 6 34 _ _ [.agg #[.int .i64 step, .string (bs what), .int .i64 node, .string (bs first), .string (bs second)], errV (ea k)] rfl (by kernel_rfl) rfl (enters_of Tryz.func34 (by kernel_rfl) rfl) (by rfl) (by rfl) ?_
            refine (HM.out _).mono ?_
            rintro e w6 ⟨rfl, hb6⟩
            exact ⟨rfl, rfl, HDIE.out _ _ rfl (below_then HB.out hb6)⟩
          · skip
            refine wpOp_die [{ v := errV (ea k), recovered := false }] 6 34 _ _ [.agg #[.int .i64 step, .string (bs what), .int .i64 node, .string (bs first), .string (bs second)], errV (ea k)] rfl rfl (enters_of Tryz.func34 (by kernel_rfl) rfl) (by rfl) (by rfl) ?_
            refine (HM.out _).mono ?_
            rintro e w6 ⟨rfl, hb6⟩
            exact ⟨rfl, rfl, HDIE.out _ _ rfl (below_then HB.out hb6)⟩
    | ev e =>
      rw [hpar] at hP
      rw [show errOf ea (Said.ev e).num = .nilIface from rfl] at hP
      have HPAR := Lib.hid hpar
      have HY := Lib.hid hy
      obtain ⟨step, what, node, first, second⟩ := e
      dsimp only [Said.get, evV, evC] at hP
      have HP := Lib.hid hP
      have HM := Lib.hid (fun W' => must_ok ⟨step, what, node, first, second⟩ W')
      dsimp only [evV, evC] at HM
      have HEND : Hid (∀ (g cap : Nat) (w6 : World), Blk w6 w.heap.size #[.slice av es.length cv] ∧ OwnV (w.heap.size + 2) (.slice (some ⟨g, 0, none⟩) (es.length + 1) cap) (es ++ [⟨step, what, node, first, second⟩]) w6 ∧ KeepsFrom (w.heap.size + 2) Wr w6 ∧ (∀ C sb, sb < w.heap.size + 2 → Blk Wr sb C → Blk w6 sb C) ∧ Below w.heap.size w w6 →
          KeepsFrom (w.heap.size + 2) Wr (w6.setCell ⟨w.heap.size, 0, none⟩ (.slice (some ⟨g, 0, none⟩) (es.length + 1) cap)) ∧ (∀ C, Blk Wr (w.heap.size + 1) C → Blk (w6.setCell ⟨w.heap.size, 0, none⟩ (.slice (some ⟨g, 0, none⟩) (es.length + 1) cap)) (w.heap.size + 1) C) ∧ RdI w (w.heap.size + 2) w.heap.size (pre ++ [⟨x, hx⟩]) (w6.setCell ⟨w.heap.size, 0, none⟩ (.slice (some ⟨g, 0, none⟩) (es.length + 1) cap))) := Lib.hid (fun g cap w6 ⟨h1, h2, h3, h4, h5⟩ =>
        ⟨h3.trans ((KeepsOthers.setCell w6 _ _).from _), fun C hC => (h4 C _ (by omega) hC).other (by dsimp only; omega) _,
          _, _, h1.store _, h2.store (by omega) 0 _, by rw [List.map_append, HREL.out, List.map_append]; simp only [List.map_cons, List.map_nil]; rw [← HY.out, HPAR.out], h5.setCell (Nat.le_refl _) _, by have := h3.size; simp; omega⟩)
      clear hP hpar hy hyl
      subst hBB
      generalize Wr.drew = w5 at *
      have hHeld : (fun _ : World => True) w5 := trivial
      refine wpAnyH_takeAt (v := ?_) (d := some 8) 1 rfl rfl (by kernel_rfl) (by kernel_rfl) (by kernel_rfl) (fun _ _ _ h => h) hHeld (by rfl) ?_ ?_
      rotate_left 1
      · (intro w' hS'; (try dsimp only at hS'); go_simp; (try with_reducible rfl))
      simp only [Act.put, List.setIfInBounds_toArray, List.set_cons_zero, List.set_cons_succ]
      refine wpAnyH_two 0 2 (by kernel_rfl) ?_ ?_
      · skip
        have o0 : w5.cell? ⟨w.heap.size, 0, none⟩ = some (.slice av es.length cv) := HO.out.cell 0
        refine wpOp_step rfl (fun K' hK => ?_)
        go_simp
        refine hK _ _ ⟨trivial, ?_⟩
        clear o0 hK
        try simp only [Act.put, List.setIfInBounds_toArray, List.set_cons_zero, List.set_cons_succ]
        have hHeld : (fun _ : World => True) w5 := trivial
        refine wpAnyH_call (d := some 9) 2 35 _ _ [.string (bs x), .string ⟨#[10]⟩] rfl rfl (by kernel_rfl) rfl (enters_of Tryz.func35 (by kernel_rfl) rfl) (by rfl) (by rfl) ?_
        refine (HT.out _).mono ?_; rintro e w5 ⟨rfl, rfl⟩
        have hHeld : (fun _ : World => True) w5 := trivial
        refine ⟨_, rfl, _, fun _ h => h, hHeld, fun hHeld => ?_⟩
        simp only [Act.put, List.setIfInBounds_toArray, List.set_cons_zero, List.set_cons_succ]
        have hHeld : (fun _ : World => True) w5 := trivial
        refine wpAnyH_call (d := some 10) 3 6 _ _ [.string (bs y)] rfl rfl (by kernel_rfl) rfl (enters_of Tryz.func6 (by kernel_rfl) rfl) (by rfl) (by rfl) ?_
        refine (HP.out _ HE.out).mono ?_; rintro e w5 ⟨rfl, hb1⟩
        have HB := Lib.hid (below_then HB.out hb1)
        have HE := Lib.hid (HE.out.below hb1)
        have HO := Lib.hid (HO.out.below hb1)
        have HW := Lib.hid (HW.out.below hb1)
        have hHeld : (fun _ : World => True) w5 := trivial
        refine ⟨_, rfl, _, fun _ h => h, hHeld, fun hHeld => ?_⟩
        simp only [Act.put, List.setIfInBounds_toArray, List.set_cons_zero, List.set_cons_succ]
        refine wpAnyH_takeAt (v := ?_) (d := some 11) 4 rfl rfl (by kernel_rfl) (by kernel_rfl) (by kernel_rfl) (fun _ _ _ h => h) hHeld (by rfl) ?_ ?_
        rotate_left 1
        · (intro w' hS'; (try dsimp only at hS'); go_simp; (try with_reducible rfl))
        simp only [Act.put, List.setIfInBounds_toArray, List.set_cons_zero, List.set_cons_succ]
        refine wpAnyH_takeAt (v := ?_) (d := some 12) 5 rfl rfl (by kernel_rfl) (by kernel_rfl) (by kernel_rfl) (fun _ _ _ h => h) hHeld (by rfl) ?_ ?_
        rotate_left 1
        · (intro w' hS'; (try dsimp only at hS'); go_simp; (try with_reducible rfl))
        simp only [Act.put, List.setIfInBounds_toArray, List.set_cons_zero, List.set_cons_succ]
        have hHeld : (fun _ : World => True) w5 := trivial
        refine wpAnyH_call (d := some 13) 6 34 _ _ [.agg #[.int .i64 step, .string (bs what), .int .i64 node, .string (bs first), .string (bs second)], .nilIface] rfl rfl (by kernel_rfl) rfl (enters_of Tryz.func34 (by kernel_rfl) rfl) (by rfl) (by rfl) ?_
        refine (HM.out _).mono ?_; rintro e w5 ⟨rfl, hb1⟩
        have HB := Lib.hid (below_then HB.out hb1)
        have HE := Lib.hid (HE.out.below hb1)
        have HO := Lib.hid (HO.out.below hb1)
        have HW := Lib.hid (HW.out.below hb1)
        have hHeld : (fun _ : World => True) w5 := trivial
        refine ⟨_, rfl, _, fun _ h => h, hHeld, fun hHeld => ?_⟩
        simp only [Act.put, List.setIfInBounds_toArray, List.set_cons_zero, List.set_cons_succ]
        refine wpAnyH_alone (d := some 14) 7 (.slice (some ⟨w5.heap.size, 0, none⟩) 1 1) (w5.alloc (.cells #[.int .i64 step, .string (bs what), .int .i64 node, .string (bs first), .string (bs second)] 24)) rfl rfl (by kernel_rfl) (by rfl) (by go_simp) trivial ?_
        simp only [Act.put, List.setIfInBounds_toArray, List.set_cons_zero, List.set_cons_succ]
        have HK := Lib.hid (Blk.fresh w5 #[.int .i64 step, .string (bs what), .int .i64 node, .string (bs first), .string (bs second)] 24 _ rfl)
        have HO := Lib.hid (HO.out.alloc (.cells #[.int .i64 step, .string (bs what), .int .i64 node, .string (bs first), .string (bs second)] 24))
        have HW := Lib.hid (HW.out.below ((Below.refl _ _).alloc (Nat.le_refl _) (.cells #[.int .i64 step, .string (bs what), .int .i64 node, .string (bs first), .string (bs second)] 24)))
        have HB := Lib.hid (HB.out.alloc HB.out.size (.cells #[.int .i64 step, .string (bs what), .int .i64 node, .string (bs first), .string (bs second)] 24))
        generalize w5.heap.size = E at HK ⊢
        generalize w5.alloc (.cells #[.int .i64 step, .string (bs what), .int .i64 node, .string (bs first), .string (bs second)] 24) = w5 at HK HO HW HB ⊢
        refine wpAnyH_all (rs := [8]) (by kernel_rfl) (by simp) (fun j hj => ?_)
        obtain rfl : j = 8 := by simpa using hj
        refine wpOp_step rfl (fun K' hK => ?_)
        refine step_append_lies _ rfl (.tmp 7) (.tmp 14) 33 rfl (w.heap.size + 2) 24 i0 (.agg #[.int .i64 0, .string ⟨#[]⟩, .int .i64 0, .string ⟨#[]⟩, .string ⟨#[]⟩]) 5 64 Tryz.underlying33 ei ez es0 eb rfl (by decide) _ _ _ (by rfl) HW.out ⟨E, 0, none⟩ 1 1 (evCells ⟨step, what, node, first, second⟩) (by rfl) rfl (cells_new HK.out) (by simp [evCells, Value.oneCell']) (by omega) (by unfold maxLen; omega) (by omega) (by have := HB.out.size; omega) _ rfl ?_
        intro g cap w6 hown6 hgrow hg6 hlt6
        have HL6 := Lib.hid (appended HO.out HW.out HB.out HB0.out hgrow hown6 hob hwb hBr)
        refine hK _ _ ⟨trivial, ?_⟩
        simp only [Act.put, List.setIfInBounds_toArray, List.set_cons_zero, List.set_cons_succ]
        clear hK hown6 hgrow
        refine wpAnyH_all (rs := [9]) (by kernel_rfl) (by simp) (fun j hj => ?_)
        obtain rfl : j = 9 := by simpa using hj
        have o0 := HL6.out.1.cell 0
        have o1 := HL6.out.1.free 0
        refine wpOp_step rfl (fun K' hK => ?_)
        go_simp
        refine hK _ _ ⟨trivial, wpAnyH_done (by kernel_rfl) ?_ _⟩
        exact HEND.out _ _ _ HL6.out
      · skip
        refine wpOp_call (d := some 9) 2 35 _ _ [.string (bs x), .string ⟨#[10]⟩] rfl rfl rfl (enters_of Tryz.func35 (by kernel_rfl) rfl) (by rfl) (by rfl) ?_
        refine (HT.out _).mono ?_; rintro e w5 ⟨rfl, rfl⟩
        refine ⟨_, rfl, trivial, ?_⟩
        simp only [Act.put, List.setIfInBounds_toArray, List.set_cons_zero, List.set_cons_succ]
        refine wpAnyH_two 0 3 (by kernel_rfl) ?_ ?_
        · skip
          have o0 : w5.cell? ⟨w.heap.size, 0, none⟩ = some (.slice av es.length cv) := HO.out.cell 0
          refine wpOp_step rfl (fun K' hK => ?_)
          go_simp
          refine hK _ _ ⟨trivial, ?_⟩
          clear o0 hK
          try simp only [Act.put, List.setIfInBounds_toArray, List.set_cons_zero, List.set_cons_succ]
          have hHeld : (fun _ : World => True) w5 := trivial
          refine wpAnyH_call (d := some 10) 3 6 _ _ [.string (bs y)] rfl rfl (by kernel_rfl) rfl (enters_of Tryz.func6 (by kernel_rfl) rfl) (by rfl) (by rfl) ?_
          refine (HP.out _ HE.out).mono ?_; rintro e w5 ⟨rfl, hb1⟩
          have HB := Lib.hid (below_then HB.out hb1)
          have HE := Lib.hid (HE.out.below hb1)
          have HO := Lib.hid (HO.out.below hb1)
          have HW := Lib.hid (HW.out.below hb1)
          have hHeld : (fun _ : World => True) w5 := trivial
          refine ⟨_, rfl, _, fun _ h => h, hHeld, fun hHeld => ?_⟩
          simp only [Act.put, List.setIfInBounds_toArray, List.set_cons_zero, List.set_cons_succ]
          refine wpAnyH_takeAt (v := ?_) (d := some 11) 4 rfl rfl (by kernel_rfl) (by kernel_rfl) (by kernel_rfl) (fun _ _ _ h => h) hHeld (by rfl) ?_ ?_
          rotate_left 1
          · (intro w' hS'; (try dsimp only at hS'); go_simp; (try with_reducible rfl))
          simp only [Act.put, List.setIfInBounds_toArray, List.set_cons_zero, List.set_cons_succ]
          refine wpAnyH_takeAt (v := ?_) (d := some 12) 5 rfl rfl (by kernel_rfl) (by kernel_rfl) (by kernel_rfl) (fun _ _ _ h => h) hHeld (by rfl) ?_ ?_
          rotate_left 1
          · (intro w' hS'; (try dsimp only at hS'); go_simp; (try with_reducible rfl))
          simp only [Act.put, List.setIfInBounds_toArray, List.set_cons_zero, List.set_cons_succ]
          have hHeld : (fun _ : World => True) w5 := trivial
          refine wpAnyH_call (d := some 13) 6 34 _ _ [.agg #[.int .i64 step, .string (bs what), .int .i64 node, .string (bs first), .string (bs second)], .nilIface] rfl rfl (by kernel_rfl) rfl (enters_of Tryz.func34 (by kernel_rfl) rfl) (by rfl) (by rfl) ?_
          refine (HM.out _).mono ?_; rintro e w5 ⟨rfl, hb1⟩
          have HB := Lib.hid (below_then HB.out hb1)
          have HE := Lib.hid (HE.out.below hb1)
          have HO := Lib.hid (HO.out.below hb1)
          have HW := Lib.hid (HW.out.below hb1)
          have hHeld : (fun _ : World => True) w5 := trivial
          refine ⟨_, rfl, _, fun _ h => h, hHeld, fun hHeld => ?_⟩
          simp only [Act.put, List.setIfInBounds_toArray, List.set_cons_zero, List.set_cons_succ]
          refine wpAnyH_alone (d := some 14) 7 (.slice (some ⟨w5.heap.size, 0, none⟩) 1 1) (w5.alloc (.cells #[.int .i64 step, .string (bs what), .int .i64 node, .string (bs first), .string (bs second)] 24)) rfl rfl (by kernel_rfl) (by rfl) (by go_simp) trivial ?_
          simp only [Act.put, List.setIfInBounds_toArray, List.set_cons_zero, List.set_cons_succ]
          have HK := Lib.hid (Blk.fresh w5 #[.int .i64 step, .string (bs what), .int .i64 node, .string (bs first), .string (bs second)] 24 _ rfl)
          have HO := Lib.hid (HO.out.alloc (.cells #[.int .i64 step, .string (bs what), .int .i64 node, .string (bs first), .string (bs second)] 24))
          have HW := Lib.hid (HW.out.below ((Below.refl _ _).alloc (Nat.le_refl _) (.cells #[.int .i64 step, .string (bs what), .int .i64 node, .string (bs first), .string (bs second)] 24)))
          have HB := Lib.hid (HB.out.alloc HB.out.size (.cells #[.int .i64 step, .string (bs what), .int .i64 node, .string (bs first), .string (bs second)] 24))
          generalize w5.heap.size = E at HK ⊢
          generalize w5.alloc (.cells #[.int .i64 step, .string (bs what), .int .i64 node, .string (bs first), .string (bs second)] 24) = w5 at HK HO HW HB ⊢
          refine wpAnyH_all (rs := [8]) (by kernel_rfl) (by simp) (fun j hj => ?_)
          obtain rfl : j = 8 := by simpa using hj
          refine wpOp_step rfl (fun K' hK => ?_)
          refine step_append_lies _ rfl (.tmp 7) (.tmp 14) 33 rfl (w.heap.size + 2) 24 i0 (.agg #[.int .i64 0, .string ⟨#[]⟩, .int .i64 0, .string ⟨#[]⟩, .string ⟨#[]⟩]) 5 64 Tryz.underlying33 ei ez es0 eb rfl (by decide) _ _ _ (by rfl) HW.out ⟨E, 0, none⟩ 1 1 (evCells ⟨step, what, node, first, second⟩) (by rfl) rfl (cells_new HK.out) (by simp [evCells, Value.oneCell']) (by omega) (by unfold maxLen; omega) (by omega) (by have := HB.out.size; omega) _ rfl ?_
          intro g cap w6 hown6 hgrow hg6 hlt6
          have HL6 := Lib.hid (appended HO.out HW.out HB.out HB0.out hgrow hown6 hob hwb hBr)
          refine hK _ _ ⟨trivial, ?_⟩
          simp only [Act.put, List.setIfInBounds_toArray, List.set_cons_zero, List.set_cons_succ]
          clear hK hown6 hgrow
          refine wpAnyH_all (rs := [9]) (by kernel_rfl) (by simp) (fun j hj => ?_)
          obtain rfl : j = 9 := by simpa using hj
          have o0 := HL6.out.1.cell 0
          have o1 := HL6.out.1.free 0
          refine wpOp_step rfl (fun K' hK => ?_)
          go_simp
          refine hK _ _ ⟨trivial, wpAnyH_done (by kernel_rfl) ?_ _⟩
          exact HEND.out _ _ _ HL6.out
        · skip
          refine wpOp_call (d := some 10) 3 6 _ _ [.string (bs y)] rfl rfl rfl (enters_of Tryz.func6 (by kernel_rfl) rfl) (by rfl) (by rfl) ?_
          refine (HP.out _ HE.out).mono ?_; rintro e w5 ⟨rfl, hb1⟩
          have HB := Lib.hid (below_then HB.out hb1)
          have HE := Lib.hid (HE.out.below hb1)
          have HO := Lib.hid (HO.out.below hb1)
          have HW := Lib.hid (HW.out.below hb1)
          refine ⟨_, rfl, trivial, ?_⟩
          simp only [Act.put, List.setIfInBounds_toArray, List.set_cons_zero, List.set_cons_succ]
          have hHeld : (fun _ : World => True) w5 := trivial
          refine wpAnyH_takeAt (v := ?_) (d := some 11) 4 rfl rfl (by kernel_rfl) (by kernel_rfl) (by kernel_rfl) (fun _ _ _ h => h) hHeld (by rfl) ?_ ?_
          rotate_left 1
          · (intro w' hS'; (try dsimp only at hS'); go_simp; (try with_reducible rfl))
          simp only [Act.put, List.setIfInBounds_toArray, List.set_cons_zero, List.set_cons_succ]
          refine wpAnyH_takeAt (v := ?_) (d := some 12) 5 rfl rfl (by kernel_rfl) (by kernel_rfl) (by kernel_rfl) (fun _ _ _ h => h) hHeld (by rfl) ?_ ?_
          rotate_left 1
          · (intro w' hS'; (try dsimp only at hS'); go_simp; (try with_reducible rfl))
          simp only [Act.put, List.setIfInBounds_toArray, List.set_cons_zero, List.set_cons_succ]
          refine wpAnyH_two 0 6 (by kernel_rfl) ?_ ?_
          · skip
            have o0 : w5.cell? ⟨w.heap.size, 0, none⟩ = some (.slice av es.length cv) := HO.out.cell 0
            refine wpOp_step rfl (fun K' hK => ?_)
            go_simp
            refine hK _ _ ⟨trivial, ?_⟩
            clear o0 hK
            try simp only [Act.put, List.setIfInBounds_toArray, List.set_cons_zero, List.set_cons_succ]
            have hHeld : (fun _ : World => True) w5 := trivial
            refine wpAnyH_call (d := some 13) 6 34 _ _ [.agg #[.int .i64 step, .string (bs what), .int .i64 node, .string (bs first), .string (bs second)], .nilIface] rfl rfl (by kernel_rfl) rfl (enters_of Tryz.func34 (by kernel_rfl) rfl) (by rfl) (by rfl) ?_
            refine (HM.out _).mono ?_; rintro e w5 ⟨rfl, hb1⟩
            have HB := Lib.hid (below_then HB.out hb1)
            have HE := Lib.hid (HE.out.below hb1)
            have HO := Lib.hid (HO.out.below hb1)
            have HW := Lib.hid (HW.out.below hb1)
            have hHeld : (fun _ : World => True) w5 := trivial
            refine ⟨_, rfl, _, fun _ h => h, hHeld, fun hHeld => ?_⟩
            simp only [Act.put, List.setIfInBounds_toArray, List.set_cons_zero, List.set_cons_succ]
            refine wpAnyH_alone (d := some 14) 7 (.slice (some ⟨w5.heap.size, 0, none⟩) 1 1) (w5.alloc (.cells #[.int .i64 step, .string (bs what), .int .i64 node, .string (bs first), .string (bs second)] 24)) rfl rfl (by kernel_rfl) (by rfl) (by go_simp) trivial ?_
            simp only [Act.put, List.setIfInBounds_toArray, List.set_cons_zero, List.set_cons_succ]
            have HK := Lib.hid (Blk.fresh w5 #[.int .i64 step, .string (bs what), .int .i64 node, .string (bs first), .string (bs second)] 24 _ rfl)
            have HO := Lib.hid (HO.out.alloc (.cells #[.int .i64 step, .string (bs what), .int .i64 node, .string (bs first), .string (bs second)] 24))
            have HW := Lib.hid (HW.out.below ((Below.refl _ _).alloc (Nat.le_refl _) (.cells #[.int .i64 step, .string (bs what), .int .i64 node, .string (bs first), .string (bs second)] 24)))
            have HB := Lib.hid (HB.out.alloc HB.out.size (.cells #[.int .i64 step, .string (bs what), .int .i64 node, .string (bs first), .string (bs second)] 24))
            generalize w5.heap.size = E at HK ⊢
            generalize w5.alloc (.cells #[.int .i64 step, .string (bs what), .int .i64 node, .string (bs first), .string (bs second)] 24) = w5 at HK HO HW HB ⊢
            refine wpAnyH_all (rs := [8]) (by kernel_rfl) (by simp) (fun j hj => ?_)
            obtain rfl : j = 8 := by simpa using hj
            refine wpOp_step rfl (fun K' hK => ?_)
            refine step_append_lies _ rfl (.tmp 7) (.tmp 14) 33 rfl (w.heap.size + 2) 24 i0 (.agg #[.int .i64 0, .string ⟨#[]⟩, .int .i64 0, .string ⟨#[]⟩, .string ⟨#[]⟩]) 5 64 Tryz.underlying33 ei ez es0 eb rfl (by decide) _ _ _ (by rfl) HW.out ⟨E, 0, none⟩ 1 1 (evCells ⟨step, what, node, first, second⟩) (by rfl) rfl (cells_new HK.out) (by simp [evCells, Value.oneCell']) (by omega) (by unfold maxLen; omega) (by omega) (by have := HB.out.size; omega) _ rfl ?_
            intro g cap w6 hown6 hgrow hg6 hlt6
            have HL6 := Lib.hid (appended HO.out HW.out HB.out HB0.out hgrow hown6 hob hwb hBr)
            refine hK _ _ ⟨trivial, ?_⟩
            simp only [Act.put, List.setIfInBounds_toArray, List.set_cons_zero, List.set_cons_succ]
            clear hK hown6 hgrow
            refine wpAnyH_all (rs := [9]) (by kernel_rfl) (by simp) (fun j hj => ?_)
            obtain rfl : j = 9 := by simpa using hj
            have o0 := HL6.out.1.cell 0
            have o1 := HL6.out.1.free 0
            refine wpOp_step rfl (fun K' hK => ?_)
            go_simp
            refine hK _ _ ⟨trivial, wpAnyH_done (by kernel_rfl) ?_ _⟩
            exact HEND.out _ _ _ HL6.out
          · skip
            refine wpOp_call (d := some 13) 6 34 _ _ [.agg #[.int .i64 step, .string (bs what), .int .i64 node, .string (bs first), .string (bs second)], .nilIface] rfl rfl rfl (enters_of Tryz.func34 (by kernel_rfl) rfl) (by rfl) (by rfl) ?_
            refine (HM.out _).mono ?_; rintro e w5 ⟨rfl, hb1⟩
            have HB := Lib.hid (below_then HB.out hb1)
            have HE := Lib.hid (HE.out.below hb1)
            have HO := Lib.hid (HO.out.below hb1)
            have HW := Lib.hid (HW.out.below hb1)
            refine ⟨_, rfl, trivial, ?_⟩
            simp only [Act.put, List.setIfInBounds_toArray, List.set_cons_zero, List.set_cons_succ]
            refine wpAnyH_two 0 7 (by kernel_rfl) ?_ ?_
            · skip
              have o0 : w5.cell? ⟨w.heap.size, 0, none⟩ = some (.slice av es.length cv) := HO.out.cell 0
              refine wpOp_step rfl (fun K' hK => ?_)
              go_simp
              refine hK _ _ ⟨trivial, ?_⟩
              clear o0 hK
              try simp only [Act.put, List.setIfInBounds_toArray, List.set_cons_zero, List.set_cons_succ]
              refine wpAnyH_alone (d := some 14) 7 (.slice (some ⟨w5.heap.size, 0, none⟩) 1 1) (w5.alloc (.cells #[.int .i64 step, .string (bs what), .int .i64 node, .string (bs first), .string (bs second)] 24)) rfl rfl (by kernel_rfl) (by rfl) (by go_simp) trivial ?_
              simp only [Act.put, List.setIfInBounds_toArray, List.set_cons_zero, List.set_cons_succ]
              have HK := Lib.hid (Blk.fresh w5 #[.int .i64 step, .string (bs what), .int .i64 node, .string (bs first), .string (bs second)] 24 _ rfl)
              have HO := Lib.hid (HO.out.alloc (.cells #[.int .i64 step, .string (bs what), .int .i64 node, .string (bs first), .string (bs second)] 24))
              have HW := Lib.hid (HW.out.below ((Below.refl _ _).alloc (Nat.le_refl _) (.cells #[.int .i64 step, .string (bs what), .int .i64 node, .string (bs first), .string (bs second)] 24)))
              have HB := Lib.hid (HB.out.alloc HB.out.size (.cells #[.int .i64 step, .string (bs what), .int .i64 node, .string (bs first), .string (bs second)] 24))
              generalize w5.heap.size = E at HK ⊢
              generalize w5.alloc (.cells #[.int .i64 step, .string (bs what), .int .i64 node, .string (bs first), .string (bs second)] 24) = w5 at HK HO HW HB ⊢
              refine wpAnyH_all (rs := [8]) (by kernel_rfl) (by simp) (fun j hj => ?_)
              obtain rfl : j = 8 := by simpa using hj
              refine wpOp_step rfl (fun K' hK => ?_)
              refine step_append_lies _ rfl (.tmp 7) (.tmp 14) 33 rfl (w.heap.size + 2) 24 i0 (.agg #[.int .i64 0, .string ⟨#[]⟩, .int .i64 0, .string ⟨#[]⟩, .string ⟨#[]⟩]) 5 64 Tryz.underlying33 ei ez es0 eb rfl (by decide) _ _ _ (by rfl) HW.out ⟨E, 0, none⟩ 1 1 (evCells ⟨step, what, node, first, second⟩) (by rfl) rfl (cells_new HK.out) (by simp [evCells, Value.oneCell']) (by omega) (by unfold maxLen; omega) (by omega) (by have := HB.out.size; omega) _ rfl ?_
              intro g cap w6 hown6 hgrow hg6 hlt6
              have HL6 := Lib.hid (appended HO.out HW.out HB.out HB0.out hgrow hown6 hob hwb hBr)
              refine hK _ _ ⟨trivial, ?_⟩
              simp only [Act.put, List.setIfInBounds_toArray, List.set_cons_zero, List.set_cons_succ]
              clear hK hown6 hgrow
              refine wpAnyH_all (rs := [9]) (by kernel_rfl) (by simp) (fun j hj => ?_)
              obtain rfl : j = 9 := by simpa using hj
              have o0 := HL6.out.1.cell 0
              have o1 := HL6.out.1.free 0
              refine wpOp_step rfl (fun K' hK => ?_)
              go_simp
              refine hK _ _ ⟨trivial, wpAnyH_done (by kernel_rfl) ?_ _⟩
              exact HEND.out _ _ _ HL6.out
            · skip
              refine wpOp_alone (d := some 14) 7 (.slice (some ⟨w5.heap.size, 0, none⟩) 1 1) (w5.alloc (.cells #[.int .i64 step, .string (bs what), .int .i64 node, .string (bs first), .string (bs second)] 24)) rfl rfl (by rfl) (by go_simp) ?_
              refine ⟨trivial, ?_⟩
              simp only [Act.put, List.setIfInBounds_toArray, List.set_cons_zero, List.set_cons_succ]
              skip
              have HK := Lib.hid (Blk.fresh w5 #[.int .i64 step, .string (bs what), .int .i64 node, .string (bs first), .string (bs second)] 24 _ rfl)
              have HO := Lib.hid (HO.out.alloc (.cells #[.int .i64 step, .string (bs what), .int .i64 node, .string (bs first), .string (bs second)] 24))
              have HW := Lib.hid (HW.out.below ((Below.refl _ _).alloc (Nat.le_refl _) (.cells #[.int .i64 step, .string (bs what), .int .i64 node, .string (bs first), .string (bs second)] 24)))
              have HB := Lib.hid (HB.out.alloc HB.out.size (.cells #[.int .i64 step, .string (bs what), .int .i64 node, .string (bs first), .string (bs second)] 24))
              generalize w5.heap.size = E at HK ⊢
              generalize w5.alloc (.cells #[.int .i64 step, .string (bs what), .int .i64 node, .string (bs first), .string (bs second)] 24) = w5 at HK HO HW HB ⊢
              refine wpAnyH_all (rs := [0]) (by kernel_rfl) (by simp) (fun j hj => ?_)
              obtain rfl : j = 0 := by simpa using hj
              have o0 : w5.cell? ⟨w.heap.size, 0, none⟩ = some (.slice av es.length cv) := HO.out.cell 0
              refine wpOp_step rfl (fun K' hK => ?_)
              go_simp
              refine hK _ _ ⟨trivial, ?_⟩
              clear o0 hK
              try simp only [Act.put, List.setIfInBounds_toArray, List.set_cons_zero, List.set_cons_succ]
              refine wpAnyH_all (rs := [8]) (by kernel_rfl) (by simp) (fun j hj => ?_)
              obtain rfl : j = 8 := by simpa using hj
              refine wpOp_step rfl (fun K' hK => ?_)
              refine step_append_lies _ rfl (.tmp 7) (.tmp 14) 33 rfl (w.heap.size + 2) 24 i0 (.agg #[.int .i64 0, .string ⟨#[]⟩, .int .i64 0, .string ⟨#[]⟩, .string ⟨#[]⟩]) 5 64 Tryz.underlying33 ei ez es0 eb rfl (by decide) _ _ _ (by rfl) HW.out ⟨E, 0, none⟩ 1 1 (evCells ⟨step, what, node, first, second⟩) (by rfl) rfl (cells_new HK.out) (by simp [evCells, Value.oneCell']) (by omega) (by unfold maxLen; omega) (by omega) (by have := HB.out.size; omega) _ rfl ?_
              intro g cap w6 hown6 hgrow hg6 hlt6
              have HL6 := Lib.hid (appended HO.out HW.out HB.out HB0.out hgrow hown6 hob hwb hBr)
              refine hK _ _ ⟨trivial, ?_⟩
              simp only [Act.put, List.setIfInBounds_toArray, List.set_cons_zero, List.set_cons_succ]
              clear hK hown6 hgrow
              refine wpAnyH_all (rs := [9]) (by kernel_rfl) (by simp) (fun j hj => ?_)
              obtain rfl : j = 9 := by simpa using hj
              have o0 := HL6.out.1.cell 0
              have o1 := HL6.out.1.free 0
              refine wpOp_step rfl (fun K' hK => ?_)
              go_simp
              refine hK _ _ ⟨trivial, wpAnyH_done (by kernel_rfl) ?_ _⟩
              exact HEND.out _ _ _ HL6.out
  case hdone =>
    rintro D xs W hD hS ⟨v, es, hO, hV, hrel, hB, _⟩ hK
    have hread : tReads (tLines s) = .evs es := reads_all _ es (by rw [← hS, ← hrel, List.map_map, List.map_map]; rfl)
    have HREAD := Lib.hid hread; have HV := Lib.hid hV
    obtain ⟨av, cv, rfl⟩ := hV.slice
    have o0 := hO.cell 0
    clear hread hV hO hrel hS
    refine hK3 _ _ ?_
    clear hK3
    refine at_of_wp ?_
    gi_wp2
    refine ⟨by simp, .inl ⟨_, _, rfl, run_takeDeferred hK, ?_⟩⟩
    have hPB : Below w.heap.size w (W.putObj D (.deferred none)) := hB.trans (belowK_b (w := w) (Nat.le_refl _) W D _ _ (by omega) hK rfl rfl)
    have hPV : OwnV (w.heap.size + 2) (.slice av es.length cv) es (W.putObj D (.deferred none)) := ownsRow_putObj HV.out _ hK rfl
    rw [HREAD.out]
    exact ⟨_, results_tmp rfl _ _ _, ⟨_, rfl, hPV.mono (by omega), hPB⟩⟩
  case hpan =>
    rintro D c pre W hD ⟨rest, hsp⟩ ⟨n, rfl, ⟨p', x, es, rfl, hrel, hno⟩, hB⟩ hK
    have hread : tReads (tLines s) = .no n := by
      rw [← hsp]
      have := reads_no ((p'.map (·.1)).map trimN) es (trimN x.1) rest n (by rw [← hrel, List.map_map, List.map_map]; rfl) hno
      rw [← this]
      simp
    refine ⟨by simp, .inl ⟨_, _, rfl, run_takeDeferred hK, ?_⟩⟩
    rw [hread]
    have hPB : Below w.heap.size w (W.putObj D (.deferred none)) := hB.trans (belowK_b (w := w) (Nat.le_refl _) W D _ _ (by omega) hK rfl rfl)
    exact ⟨rfl, hPB⟩
end Go.Proofs.YthjdaehiebcoaaaGreatDoor
