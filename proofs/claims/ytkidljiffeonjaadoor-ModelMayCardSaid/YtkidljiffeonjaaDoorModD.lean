/- May, walked. -/
import Derived.Test.YtkidljiffeonjaaDoorRows
import Derived.WalkKit
import Derived.WalkSpells
import Derived.WalkLawsBesides
import Derived.BigQuiet
import Derived.Deep.QuietTactic
import Derived.StillTailTactics
import Derived.Handy
import Derived.Lib.Hide
import Derived.Test.YtkidljiffeonjaaDoorModC
set_option linter.unusedSimpArgs false
set_option linter.unusedVariables false
namespace Go.Proofs.YtkidljiffeonjaaDoor
open Go.RowKit Go.Shelf
attribute [local go_sem] Oper.semAt_some

theorem seatEq (p d s h p' d' s' h' : Int) (w : World) : (binOp .eql 52 (.agg #[.int .i64 p, .int .i64 d, .int .i64 s, .int .i64 h]) (.agg #[.int .i64 p', .int .i64 d', .int .i64 s', .int .i64 h'])).run Tryd.prog w = .ok (.bool (decide ((⟨p, d, s, h⟩ : MSeat) = ⟨p', d', s', h'⟩))) w := by
  by_cases h1 : p = p' <;> by_cases h2 : d = d' <;> by_cases h3 : s = s' <;> by_cases h4 : h = h' <;> (go_simp; try simp [h1, h2, h3, h4])
set_option maxRecDepth 100000 in
set_option maxHeartbeats 2000000 in
theorem may_eq (a : MSeat) (w : World) : Calls Tryd.prog 28 #[seatV a, seatV a] w (Makes (.bool true) w) := by
  obtain ⟨p, d, s, h⟩ := a
  dsimp only [seatV]
  go_enter Tryd.func28, Tryd.ntmps28
  go_wp2
  exact bodyPost_ret (v := .bool true) (by simp [results, Tryd.results28, go_sem]) rfl ⟨rfl, by go_grown⟩
theorem blk_own {β : Type} {B b : Nat} {C : Array Value} (hC : 0 < C.size) : OwnFrom B (fun (_ : β) W => Blk W b C) := fun s X Y row h hg hr => by
  have hc : X.cell? ⟨b, 0, none⟩ = some C[0] := by rw [h.cell]; exact Array.getElem?_eq_getElem hC
  obtain ⟨o, ho, hcells⟩ := cells_of_cell hc
  have hb := grownBy_keeps_cells hg (fun r e => (hr r e).2) ho hcells
  exact ⟨Nat.lt_of_lt_of_le h.lt hg.size, fun i => (World.cell?_of_block (a := ⟨b, i, none⟩) hb).trans (h.cell i), fun i => (World.frozen?_of_block (a := ⟨b, i, none⟩) hb).trans (h.free i)⟩
/-- May's own boxes: both seats, the result -/
structure MayIn (w : World) (p d s h p' d' s' h' : Int) (v : Bool) (W : World) : Prop where
  ra : Blk W w.heap.size #[.int .i64 p, .int .i64 d, .int .i64 s, .int .i64 h]
  rb : Blk W (w.heap.size + 1) #[.int .i64 p', .int .i64 d', .int .i64 s', .int .i64 h']
  rr : Blk W (w.heap.size + 1 + 1) #[.bool v]
  be : Below w.heap.size w W
theorem MayIn.own {w : World} {p d s h p' d' s' h' : Int} {v : Bool} {β : Type} {B : Nat} (hB : w.heap.size ≤ B) : OwnFrom B (fun (_ : β) W => MayIn w p d s h p' d' s' h' v W) := fun x X Y row hm hg hr =>
  ⟨blk_own (by simp) x X Y row hm.ra hg hr, blk_own (by simp) x X Y row hm.rb hg hr, blk_own (by simp) x X Y row hm.rr hg hr, ownFrom_below (Nat.le_refl _) hB x X Y row hm.be hg hr⟩
theorem MayIn.below {w W W' : World} {p d s h p' d' s' h' : Int} {v : Bool} (m : MayIn w p d s h p' d' s' h' v W) (hb : Below W.heap.size W W') : MayIn w p d s h p' d' s' h' v W' :=
  ⟨m.ra.below hb, m.rb.below hb, m.rr.below hb, below_then m.be hb⟩
theorem MayIn.yes {w W : World} {p d s h p' d' s' h' : Int} {v : Bool} (m : MayIn w p d s h p' d' s' h' v W) : MayIn w p d s h p' d' s' h' true (W.setCell ⟨w.heap.size + 1 + 1, 0, none⟩ (.bool true)) := by
  have hb : ∀ k, k ≠ w.heap.size + 1 + 1 → (W.setCell ⟨w.heap.size + 1 + 1, 0, none⟩ (.bool true)).heap[k]? = W.heap[k]? := fun k hk => Below.heap_setCell W ⟨w.heap.size + 1 + 1, 0, none⟩ _ k hk
  have keep : ∀ {b : Nat} {C : Array Value}, Blk W b C → b ≠ w.heap.size + 1 + 1 → Blk (W.setCell ⟨w.heap.size + 1 + 1, 0, none⟩ (.bool true)) b C := fun hm hk =>
    ⟨by simpa using hm.lt, fun i => (World.cell?_of_block (a := ⟨_, i, none⟩) (hb _ hk)).trans (hm.cell i), fun i => (World.frozen?_of_block (a := ⟨_, i, none⟩) (hb _ hk)).trans (hm.free i)⟩
  refine ⟨keep m.ra (by omega), keep m.rb (by omega), ⟨by simpa using m.rr.lt, fun i => ?_, fun i => by rw [World.frozen?_setCell]; exact m.rr.free i⟩, m.be.setCell (by simp; omega) _⟩
  by_cases hi : i = 0
  · subst hi
    rw [World.cell?_setCell_same (h := m.rr.cell 0)]
    rfl
  · rw [World.cell?_setCell_other (h := by intro e; injection e with _ e2; exact hi e2.symm), m.rr.cell]
    cases i with
    | zero => exact absurd rfl hi
    | succ j => rfl
set_option maxRecDepth 100000 in
set_option maxHeartbeats 4000000 in
theorem may_ne (n : Nat) (hn : 16 ≤ n) (a b : MSeat) (ea : Int → Addr) (w : World) (hE : Err39 ea w) (hab : a ≠ b) : CallsIn Fence.wide n Tryd.prog 28 #[seatV a, seatV b] w (Makes (.bool (mMay a b)) w) := by
  have hmm : mMay a b = (decide (b ∈ mflat a (kupto 14)) || ((lateS a).2 && decide ((lateS a).1 = b))) := by
    unfold mMay; rw [decide_eq_false hab, late_eq, Bool.false_or]
  rw [hmm]
  clear hmm
  have hlt := fun W hW => late_of a ea W hW
  obtain ⟨ls, hls⟩ : ∃ ls, ls = lateS a := ⟨_, rfl⟩
  rw [← hls] at hlt ⊢
  clear hls
  obtain ⟨⟨p2, d2, s2, h2⟩, lc⟩ := ls
  have HLt := Lib.hid hlt
  have HE := Lib.hid hE
  clear hlt hE
  obtain ⟨p, d, s, h⟩ := a
  obtain ⟨p', d', s', h'⟩ := b
  have HSE := Lib.hid seatEq
  have hse := fun w => seatEq p d s h p' d' s' h' w
  rw [decide_eq_false hab] at hse
  dsimp only [seatV] at *
  have h1 : 1 ≤ n := by omega
  refine callsIn_of_wp_marks Tryd.func28 rfl trivial ?_ rfl
  simp only [Tryd.ntmps28, List.size_toArray, List.length_cons, List.length_nil, Nat.reduceAdd, Nat.reduceSub, Array.replicate_succ, Array.replicate_zero, List.push_toArray, List.append_toArray, List.nil_append, List.cons_append]
  gi_wp2_with fail
  refine ⟨trivial, ?_⟩
  refine (nexts_in (n - 1) ⟨p, d, s, h⟩ _).mono ?_
  rintro e w4 ⟨rfl, rfl⟩
  clear hse
  have e3 : (((w.alloc (.cells #[.int .i64 p, .int .i64 d, .int .i64 s, .int .i64 h] 52)).alloc (.cells #[.int .i64 p', .int .i64 d', .int .i64 s', .int .i64 h'] 52)).alloc (.cells #[.bool false] 4)).heap.size = w.heap.size + 3 := by simp
  have hm0 : MayIn w p d s h p' d' s' h' false (((w.alloc (.cells #[.int .i64 p, .int .i64 d, .int .i64 s, .int .i64 h] 52)).alloc (.cells #[.int .i64 p', .int .i64 d', .int .i64 s', .int .i64 h'] 52)).alloc (.cells #[.bool false] 4)) :=
    ⟨((Blk.fresh w _ _ _ rfl).alloc _).alloc _, (Blk.fresh _ _ _ _ (by simp)).alloc _, Blk.fresh _ _ _ _ (by simp), (((Below.refl _ w).alloc (Nat.le_refl _) _).alloc (by simp) _).alloc (by simp; omega) _⟩
  generalize hW3 : ((w.alloc (.cells #[.int .i64 p, .int .i64 d, .int .i64 s, .int .i64 h] 52)).alloc (.cells #[.int .i64 p', .int .i64 d', .int .i64 s', .int .i64 h'] 52)).alloc (.cells #[.bool false] 4) = W3 at *
  have hb4 : Below W3.heap.size W3 (W3.alloc (.cells #[.int .i64 p, .int .i64 d, .int .i64 s, .int .i64 h] 52)) := (Below.refl _ _).alloc (Nat.le_refl _) _
  have hm4 := hm0.below hb4
  have hbx : Blk (W3.alloc (.cells #[.int .i64 p, .int .i64 d, .int .i64 s, .int .i64 h] 52)) W3.heap.size #[.int .i64 p, .int .i64 d, .int .i64 s, .int .i64 h] := Blk.fresh W3 _ _ _ rfl
  have hz4 : (W3.alloc (.cells #[.int .i64 p, .int .i64 d, .int .i64 s, .int .i64 h] 52)).heap.size = w.heap.size + 4 := by simp [e3]
  have E3 := Lib.hid e3
  have Z4 := Lib.hid hz4
  have e3' : w.heap.size + 3 ≤ W3.heap.size := by omega
  clear e3 hz4 hW3
  gi_wp2_with fail
  refine rangeRet rfl h1 (gf := 103) (lb := #[.pointer (some ⟨W3.heap.size, 0, none⟩)]) rfl trivial (enters_of Tryd.func103 (by kernel_rfl) rfl)
    (nexts_owes (n - 1) (by omega) ⟨p, d, s, h⟩ ea W3.heap.size _ hbx (HE.out.below hm4.be)) (fun _ => rfl)
    (fun pre W => MayIn w p d s h p' d' s' h' false W ∧ (⟨p', d', s', h'⟩ : MSeat) ∉ pre) (fun pre W => MayIn w p d s h p' d' s' h' true W ∧ (⟨p', d', s', h'⟩ : MSeat) ∈ pre)
    (fun pre X Y row hh hg hr => ⟨MayIn.own (β := Unit) (by rw [Z4.out]; omega) () X Y row hh.1 hg hr, hh.2⟩) (fun pre X Y row hh hg hr => ⟨MayIn.own (β := Unit) (by rw [Z4.out]; omega) () X Y row hh.1 hg hr, hh.2⟩) ⟨hm4, by simp⟩ ?round ?done ?stop
  case round =>
    rintro l pre ⟨x1, x2, x3, x4⟩ W ⟨hm, hnot⟩
    dsimp only [seatV]
    gi_wp2
    refine ⟨(Below.refl _ _).alloc (Nat.le_refl _) _, fun o hi hq => ?_⟩
    have hbs := blk_own (β := Unit) (B := 0) (by simp) () _ _ _ (Blk.fresh W #[.int .i64 x1, .int .i64 x2, .int .i64 x3, .int .i64 x4] 52 _ rfl) (grownBy_putObj' _ l o) (fun r e => by cases e; exact ⟨Nat.zero_le _, hq⟩)
    generalize (W.alloc (.cells #[.int .i64 x1, .int .i64 x2, .int .i64 x3, .int .i64 x4] 52)).putObj l o = WB at *
    have qs := hbs.cell
    have qb := hi.1.rb.cell
    have qr : WB.cell? ⟨w.heap.size + 1 + 1, 0, none⟩ = some (.bool false) := hi.1.rr.cell 0
    have fr : WB.frozen? ⟨w.heap.size + 1 + 1, 0, none⟩ = false := hi.1.rr.free 0
    by_cases hx : (⟨x1, x2, x3, x4⟩ : MSeat) = ⟨p', d', s', h'⟩
    · have hse := fun w => HSE.out x1 x2 x3 x4 p' d' s' h' w
      rw [decide_eq_true hx] at hse
      gi_wp2_with fail
      exact ⟨(KeepsOthers.setCell _ _ _).from _, hi.1.yes, by rw [hx]; simp⟩
    · have hse := fun w => HSE.out x1 x2 x3 x4 p' d' s' h' w
      rw [decide_eq_false hx] at hse
      gi_wp2_with fail
      exact ⟨Below.refl _ _, hi.1, fun hmem => (List.mem_append.1 hmem).elim hi.2 (fun hh => hx (List.mem_singleton.1 hh).symm)⟩
  case done =>
    rintro D xs W hD rfl ⟨hm, hnot⟩ hK
    rw [Z4.out] at hD
    have qa := hm.ra.cell
    gi_wp2_with fail
    refine ⟨trivial, ?_⟩
    refine (callsIn_wide.2 (HLt.out _ (HE.out.below hm.be))).mono ?_
    rintro e w6 ⟨rfl, hb6⟩
    have hm6 := hm.below hb6
    have hK6 : w6.heap[D]? = some (.deferred (some [])) := (hb6.block D (Array.getElem?_eq_some_iff.1 hK).1).trans hK
    clear qa
    have qb := hm6.rb.cell
    have qr : w6.cell? ⟨w.heap.size + 1 + 1, 0, none⟩ = some (.bool false) := hm6.rr.cell 0
    have fr : w6.frozen? ⟨w.heap.size + 1 + 1, 0, none⟩ = false := hm6.rr.free 0
    have hzl := hm6.rr.lt
    have qb2 := (hm6.rb.alloc (.cells #[.int .i64 p2, .int .i64 d2, .int .i64 s2, .int .i64 h2] 52)).cell
    have hzb := hm6.rb.lt
    cases lc with
    | false =>
      have HEND : Hid (Ending.returned (.bool false) = .returned (.bool (decide ((⟨p', d', s', h'⟩ : MSeat) ∈ mflat ⟨p, d, s, h⟩ (kupto 14)) || (false && decide ((⟨p2, d2, s2, h2⟩ : MSeat) = ⟨p', d', s', h'⟩))))) := Lib.hid (by rw [decide_eq_false hnot]; rfl)
      gi_wp2_with fail
      have hq : (w6.setCell ⟨w.heap.size + 1 + 1, 0, none⟩ (.bool false)).cell? ⟨w.heap.size + 1 + 1, 0, none⟩ = some (.bool false) := World.cell?_setCell_same _ _ _ qr
      have hKs : (w6.setCell ⟨w.heap.size + 1 + 1, 0, none⟩ (.bool false)).heap[D]? = some (.deferred (some [])) := (Below.heap_setCell w6 ⟨w.heap.size + 1 + 1, 0, none⟩ _ D (by show D ≠ w.heap.size + 1 + 1; omega)).trans hK6
      have hKf := (Below.heap_alloc (w6.setCell ⟨w.heap.size + 1 + 1, 0, none⟩ (.bool false)) (.cells #[.int .i64 p2, .int .i64 d2, .int .i64 s2, .int .i64 h2] 52) D (Array.getElem?_eq_some_iff.1 hKs).1).trans hKs
      have hqf := (World.cell?_alloc_lt (w := (w6.setCell ⟨w.heap.size + 1 + 1, 0, none⟩ (.bool false))) (o := (.cells #[.int .i64 p2, .int .i64 d2, .int .i64 s2, .int .i64 h2] 52)) (a := ⟨w.heap.size + 1 + 1, 0, none⟩) (by simpa using hzl)).trans hq
      refine ⟨by simp, .inl ⟨_, _, rfl, run_takeDeferred hKf, ?_⟩⟩
      have q0 := cell_kept hqf (grownBy_putObj' _ D (.deferred none)) (fun r e => by cases e; exact ⟨_, hKf, rfl⟩)
      refine ⟨.bool false, by simp [results, Tryd.results28, go_sem, q0], HEND.out, ?_⟩
      have hbs := hm6.be.setCell (p := ⟨w.heap.size + 1 + 1, 0, none⟩) (by show w.heap.size ≤ w.heap.size + 1 + 1; omega) (.bool false)
      exact (hbs.alloc hbs.size (.cells #[.int .i64 p2, .int .i64 d2, .int .i64 s2, .int .i64 h2] 52)).trans (belowK_b (w := w) (Nat.le_refl _) _ D _ _ (by omega) hKf rfl rfl)
    | true =>
      have hse := fun w => HSE.out p2 d2 s2 h2 p' d' s' h' w
      obtain ⟨dc, hdc⟩ : ∃ dc, dc = decide ((⟨p2, d2, s2, h2⟩ : MSeat) = ⟨p', d', s', h'⟩) := ⟨_, rfl⟩
      rw [← hdc] at hse
      have HEND : Hid (Ending.returned (.bool dc) = .returned (.bool (decide ((⟨p', d', s', h'⟩ : MSeat) ∈ mflat ⟨p, d, s, h⟩ (kupto 14)) || (true && decide ((⟨p2, d2, s2, h2⟩ : MSeat) = ⟨p', d', s', h'⟩))))) := Lib.hid (by rw [decide_eq_false hnot, ← hdc]; rfl)
      clear hdc
      gi_wp2_with fail
      have hq : (w6.setCell ⟨w.heap.size + 1 + 1, 0, none⟩ (.bool dc)).cell? ⟨w.heap.size + 1 + 1, 0, none⟩ = some (.bool dc) := World.cell?_setCell_same _ _ _ qr
      have hKs : (w6.setCell ⟨w.heap.size + 1 + 1, 0, none⟩ (.bool dc)).heap[D]? = some (.deferred (some [])) := (Below.heap_setCell w6 ⟨w.heap.size + 1 + 1, 0, none⟩ _ D (by show D ≠ w.heap.size + 1 + 1; omega)).trans hK6
      have hKf := (Below.heap_alloc (w6.setCell ⟨w.heap.size + 1 + 1, 0, none⟩ (.bool dc)) (.cells #[.int .i64 p2, .int .i64 d2, .int .i64 s2, .int .i64 h2] 52) D (Array.getElem?_eq_some_iff.1 hKs).1).trans hKs
      have hqf := (World.cell?_alloc_lt (w := (w6.setCell ⟨w.heap.size + 1 + 1, 0, none⟩ (.bool dc))) (o := (.cells #[.int .i64 p2, .int .i64 d2, .int .i64 s2, .int .i64 h2] 52)) (a := ⟨w.heap.size + 1 + 1, 0, none⟩) (by simpa using hzl)).trans hq
      refine ⟨by simp, .inl ⟨_, _, rfl, run_takeDeferred hKf, ?_⟩⟩
      have q0 := cell_kept hqf (grownBy_putObj' _ D (.deferred none)) (fun r e => by cases e; exact ⟨_, hKf, rfl⟩)
      refine ⟨.bool dc, by simp [results, Tryd.results28, go_sem, q0], HEND.out, ?_⟩
      have hbs := hm6.be.setCell (p := ⟨w.heap.size + 1 + 1, 0, none⟩) (by show w.heap.size ≤ w.heap.size + 1 + 1; omega) (.bool dc)
      exact (hbs.alloc hbs.size (.cells #[.int .i64 p2, .int .i64 d2, .int .i64 s2, .int .i64 h2] 52)).trans (belowK_b (w := w) (Nat.le_refl _) _ D _ _ (by omega) hKf rfl rfl)
  case stop =>
    rintro D pre W hD hok ⟨hm, hmem⟩ hK
    rw [Z4.out] at hD
    have hin := hok _ hmem
    rw [decide_eq_true hin, Bool.true_or]
    gi_wp2_with fail
    refine ⟨by simp, .inl ⟨_, _, rfl, run_takeDeferred hK, ?_⟩⟩
    have qr := blk_own (β := Unit) (B := 0) (by simp) () _ _ _ hm.rr (grownBy_putObj' W D (.deferred none)) (fun r e => by cases e; exact ⟨Nat.zero_le _, _, hK, rfl⟩)
    have q0 := qr.cell 0
    refine ⟨_, by simp [results, Tryd.results28, go_sem, q0], rfl, ?_⟩
    exact hm.be.trans (belowK_b (w := w) (Nat.le_refl _) W D _ _ (by omega) hK rfl rfl)
end Go.Proofs.YtkidljiffeonjaaDoor
