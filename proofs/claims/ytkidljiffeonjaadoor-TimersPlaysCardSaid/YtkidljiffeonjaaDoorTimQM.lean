/- The document's clock in memory: a row of timers behind a pointer. -/
import Derived.Test.YtkidljiffeonjaaDoorRows
import Derived.WalkKit
import Derived.WalkSpells
import Derived.WalkLawsBesides
import Derived.BigQuiet
import Derived.Deep.QuietTactic
import Derived.StillTailTactics
import Derived.Handy
import Derived.Lib.Hide
import Derived.Test.YtkidljiffeonjaaDoorTimM
import Derived.Deep.Onto
import Derived.Deep.RegionWith
import Derived.Laws.FloatArith
import Derived.Test.YtkidljiffeonjaaDoorTimF
import Derived.Deep.RegionHeld3
import Derived.Deep.RegionLaw
import Derived.Deep.AppendLies
import Derived.Test.YtkidljiffeonjaaDoorTimN
import Derived.Deep.CutRange
import Derived.Test.YtkidljiffeonjaaDoorNum
import Derived.Test.YtkidljiffeonjaaDoorLawFull
import Derived.Test.YtkidljiffeonjaaDoorTimD
set_option linter.unusedSimpArgs false
set_option linter.unusedVariables false
namespace Go.Proofs.YtkidljiffeonjaaDoor
open Go.RowKit

theorem infoRT : (Tryd.prog.info? 103).map (fun i => (i.zero, i.size, i.bytes)) = some (some (timerV timer0), 5, 48) := by kernel_rfl
/-- the document's clock: its block m, its row v (a block from B on) -/
structure RefAt (B m : Nat) (v : Value) (now : Nat) (L : List MTimer) (w : World) : Prop where
  base : B ≤ m
  blk : Blk w m #[.float .f64 now, v]
  own : w.ownsRow B 103 5 v L.length (rowC L)
  apart : v.ownBlock ≠ some m
/-- nothing but the clock's block and its row has changed; a row that is another is new -/
structure RGo (m : Nat) (v v' : Value) (w w' : World) : Prop where
  os : w'.os = w.os
  tape : w'.tape = w.tape
  output : w'.output = w.output
  size : w.heap.size ≤ w'.heap.size
  block : ∀ k, k < w.heap.size → k ≠ m → v.ownBlock ≠ some k → w'.heap[k]? = w.heap[k]?
  new : ∀ k, v'.ownBlock = some k → v.ownBlock = some k ∨ w.heap.size ≤ k
theorem RGo.of_below {m : Nat} {v : Value} {w w' : World} (h : Below w.heap.size w w') : RGo m v v w w' := ⟨h.os, h.tape, h.output, h.size, fun k hk _ _ => h.block k hk, fun k hk => .inl hk⟩
theorem RGo.trans {m : Nat} {v v1 v2 : Value} {w w1 w2 : World} (h1 : RGo m v v1 w w1) (h2 : RGo m v1 v2 w1 w2) : RGo m v v2 w w2 := by
  refine ⟨h2.os.trans h1.os, h2.tape.trans h1.tape, h2.output.trans h1.output, Nat.le_trans h1.size h2.size, fun k hk hm hv => ?_, fun k hk => ?_⟩
  · refine (h2.block k (Nat.lt_of_lt_of_le hk h1.size) hm (fun e => ?_)).trans (h1.block k hk hm hv)
    rcases h1.new k e with h | h
    · exact hv h
    · omega
  · rcases h2.new k hk with h | h
    · exact h1.new k h
    · exact .inr (Nat.le_trans h1.size h)
theorem RGo.below {m B : Nat} {v v' : Value} {w w' : World} (h : RGo m v v' w w') (hB : B ≤ w.heap.size) (hm : B ≤ m) (hv : ∀ k, v.ownBlock = some k → B ≤ k) : Below B w w' :=
  ⟨h.os, h.tape, h.output, h.size, fun k hk => h.block k (by omega) (by omega) (fun e => by have := hv k e; omega)⟩
theorem own_heap {w w' : World} {B : Nat} {e : TypeId} {size : Nat} {v : Value} {n : Nat} {xs : List Value} (h : w.ownsRow B e size v n xs) (he : ∀ k, v.ownBlock = some k → w'.heap[k]? = w.heap[k]?) : w'.ownsRow B e size v n xs := by
  refine ⟨h.1, ?_⟩
  rcases h.2 with hn | ⟨g, cap, cur, rfl, hb, hg, r⟩
  · exact .inl hn
  · exact .inr ⟨g, cap, cur, rfl, hb, (he g rfl).trans hg, r⟩
theorem Blk.keep {w w' : World} {b : Nat} {C : Array Value} (h : Blk w b C) (hs : w.heap.size ≤ w'.heap.size) (he : w'.heap[b]? = w.heap[b]?) : Blk w' b C :=
  ⟨Nat.lt_of_lt_of_le h.lt hs, fun i => (World.cell?_of_block (a := ⟨b, i, none⟩) he).trans (h.cell i), fun i => (World.frozen?_of_block (a := ⟨b, i, none⟩) he).trans (h.free i)⟩
theorem RefAt.keep {B m now : Nat} {v : Value} {L : List MTimer} {w w' : World} (h : RefAt B m v now L w) (hs : w.heap.size ≤ w'.heap.size) (he : ∀ k, B ≤ k → k < w.heap.size → w'.heap[k]? = w.heap[k]?) : RefAt B m v now L w' :=
  ⟨h.base, h.blk.keep hs (he m h.base h.blk.lt), own_heap h.own (fun k hk => he k (h.own.lt k hk).1 (h.own.lt k hk).2), h.apart⟩
theorem RefAt.below {B m now : Nat} {v : Value} {L : List MTimer} {w w' : World} (h : RefAt B m v now L w) (hb : Below w.heap.size w w') : RefAt B m v now L w' := h.keep hb.size (fun k _ hk => hb.block k hk)
theorem RefAt.two {B m now c b : Nat} {v : Value} {L : List MTimer} {w w' : World} (h : RefAt B m v now L w) (ht : Two c b w w') (hc : c < B) (hb : b < B) : RefAt B m v now L w' := h.keep ht.size (fun k h1 hk => ht.block k hk (by omega) (by omega))
theorem RefAt.owns {B m now : Nat} {v : Value} {L : List MTimer} {w : World} (h : RefAt B m v now L w) : ∀ k, v.ownBlock = some k → B ≤ k := fun k hk => (h.own.lt k hk).1
theorem ClockAt.rgo {B m c b now now2 : Nat} {v v' : Value} {L L2 : List MTimer} {w w' : World} (h : ClockAt c b now L w) (hr : RefAt B m v now2 L2 w) (hg : RGo m v v' w w') (hc : c < B) (hb : b < B) : ClockAt c b now L w' := by
  have hk : ∀ k, k < w.heap.size → k < B → w'.heap[k]? = w.heap[k]? := fun k h1 h2 => hg.block k h1 (by have := hr.base; omega) (fun e => by have := hr.owns k e; omega)
  obtain ⟨D, h1, h2⟩ := h.ex
  have hc2 := hk c h2.blk.lt hc
  have e2 := h2.own
  refine ⟨⟨D, h1, ⟨h2.blk.keep hg.size hc2, ?_, h2.top, h2.ne⟩⟩, h.good⟩
  obtain ⟨es, clock, hb1, F, hs, hD⟩ := e2
  have hlt := h2.own.lt
  exact ⟨es, clock, (hk b hlt hb).trans hb1, F, hs, hD⟩
theorem Blk.set {w : World} {b : Nat} {C : Array Value} (h : Blk w b C) (i : Nat) (hi : i < C.size) (v : Value) : Blk (w.setCell ⟨b, i, none⟩ v) b (C.set i v hi) := by
  refine ⟨by simpa using h.lt, fun j => ?_, fun j => by rw [World.frozen?_setCell]; exact h.free j⟩
  by_cases hj : j = i
  · subst hj
    have h1 : w.cell? ⟨b, j, none⟩ = some C[j] := by rw [h.cell]; exact Array.getElem?_eq_getElem hi
    rw [World.cell?_setCell_same (h := h1), Array.getElem?_set_self]
  · rw [World.cell?_setCell_other (h := by intro e; injection e with _ e2; exact hj e2.symm), h.cell, Array.getElem?_set_ne]
    exact fun e => hj e.symm
/-- the place of a key's timer; -1: there is none -/
def Fidx (L : List MTimer) (k : ByteArray) (z : Int) : Prop := (z = -1 ∧ ∀ i (h : i < L.length), L[i].key ≠ k) ∨ ∃ i, ∃ h : i < L.length, z = i ∧ L[i].key = k ∧ ∀ j (hj : j < i), (L[j]'(by omega)).key ≠ k
theorem fidx_none {L : List MTimer} {k : ByteArray} (h : tfind L k = none) : Fidx L k (-1) := .inl ⟨rfl, fun i hi => tfind_none h _ (List.getElem_mem hi)⟩
theorem fidx_some {L : List MTimer} (hL : TApart L) {k : ByteArray} {t : MTimer} (h : tfind L k = some t) : ∃ i, ∃ hi : i < L.length, L[i] = t ∧ Fidx L k i ∧ ∀ u : MTimer, u.key = k → trep L u = L.set i u := by
  obtain ⟨hm, hk⟩ := tfind_some h
  obtain ⟨i, hi, e⟩ := List.getElem_of_mem hm
  have hne : ∀ j (hj : j < L.length), j ≠ i → L[j].key ≠ k := fun j hj hij e2 => by
    rcases Nat.lt_or_gt_of_ne hij with h1 | h1
    · exact List.pairwise_iff_getElem.1 hL j i hj hi h1 (e2.trans (by rw [e]; exact hk.symm))
    · exact List.pairwise_iff_getElem.1 hL i j hi hj h1 ((by rw [e]; exact hk : L[i].key = k).trans e2.symm)
  refine ⟨i, hi, e, .inr ⟨i, hi, rfl, by rw [e]; exact hk, fun j hj => hne j (by omega) (by omega)⟩, fun u hu => ?_⟩
  unfold trep
  apply List.ext_getElem
  · simp
  · intro j h1 h2
    have hj : j < L.length := by simpa using h1
    rw [List.getElem_map, List.getElem_set]
    by_cases hij : i = j
    · subst hij
      rw [if_pos rfl, if_pos (by rw [e, hk, hu])]
    · rw [if_neg hij, if_neg (fun e2 => hne j hj (fun e3 => hij e3.symm) (e2.trans hu))]
theorem tdel_idx {L : List MTimer} (hL : TApart L) {i : Nat} (hi : i < L.length) {k : ByteArray} (hk : L[i].key = k) : tdel L k = L.take i ++ L.drop (i + 1) := by
  have e : L = L.take i ++ L[i] :: L.drop (i + 1) := by simp
  have h1 : (L.take i).filter (fun t => decide (t.key ≠ k)) = L.take i := List.filter_eq_self.2 fun t ht => by
    obtain ⟨j, hj, rfl⟩ := List.getElem_of_mem ht
    rw [List.length_take] at hj
    rw [List.getElem_take, ← hk]
    simpa using List.pairwise_iff_getElem.1 hL j i (by omega) hi (by omega)
  have h2 : (L.drop (i + 1)).filter (fun t => decide (t.key ≠ k)) = L.drop (i + 1) := List.filter_eq_self.2 fun t ht => by
    obtain ⟨j, hj, rfl⟩ := List.getElem_of_mem ht
    rw [List.length_drop] at hj
    rw [List.getElem_drop, ← hk]
    simpa using fun e => List.pairwise_iff_getElem.1 hL i (i + 1 + j) hi (by omega) (by omega) e.symm
  unfold tdel
  refine (congrArg (List.filter fun t => decide (t.key ≠ k)) e).trans ?_
  rw [List.filter_append, List.filter_cons_of_neg (by simpa using hk), h1, h2]
end Go.Proofs.YtkidljiffeonjaaDoor

namespace Go.Proofs.YtkidljiffeonjaaDoor
open Go.RowKit
attribute [local go_sem] store_float

/-- what a row's slice reads -/
theorem RefAt.row {B m now : Nat} {v : Value} {L : List MTimer} {w : World} (h : RefAt B m v now L w) (hne : L ≠ []) : ∃ g cap, v = .slice (some ⟨g, 0, none⟩) L.length cap ∧ RowT w g L ∧ g < w.heap.size ∧ B ≤ g := by
  have ho := h.own
  rcases h.own.2 with ⟨_, hn⟩ | ⟨g, cap, cur, rfl, hb, _⟩
  · exact absurd (List.length_eq_zero_iff.1 hn) hne
  · exact ⟨g, cap, rfl, row_own ho, (ho.lt g rfl).2, hb⟩
theorem RefAt.form {B m now : Nat} {v : Value} {L : List MTimer} {w : World} (h : RefAt B m v now L w) : ∃ a cap, v = .slice a L.length cap := own_slice h.own
theorem RowT.below {w w' : World} {g : Nat} {L : List MTimer} (h : RowT w g L) (hg : g < w.heap.size) (hb : Below w.heap.size w w') : RowT w' g L := fun j hj i hi =>
  (World.cell?_of_block (a := ⟨g, j * 5 + i, none⟩) (hb.block g hg)).trans (h j hj i hi)
theorem RowT.five {w : World} {g : Nat} {L : List MTimer} (h : RowT w g L) (k : Nat) (hk : k < L.length) : w.cell? ⟨g, k * 5, none⟩ = some (.string L[k].key) ∧ w.cell? ⟨g, k * 5 + 1, none⟩ = some (.float .f64 L[k].at_) ∧ w.cell? ⟨g, k * 5 + 2, none⟩ = some (.int .i64 L[k].times) ∧ w.cell? ⟨g, k * 5 + 3, none⟩ = some (.float .f64 L[k].base) ∧ w.cell? ⟨g, k * 5 + 4, none⟩ = some (.float .f64 L[k].most) :=
  ⟨h k hk 0 (by decide), h k hk 1 (by decide), h k hk 2 (by decide), h k hk 3 (by decide), h k hk 4 (by decide)⟩
theorem beq_key {a b : ByteArray} (h : a ≠ b) : (a.toList == b.toList) = false := by
  cases e : (a.toList == b.toList)
  · rfl
  · exfalso
    have e2 : a.toList = b.toList := by simpa using e
    rw [Lib.toList_data, Lib.toList_data] at e2
    exact h (bytes_inj e2)
set_option maxRecDepth 100000 in
set_option maxHeartbeats 2000000 in
theorem find_of (B m now : Nat) (v : Value) (L : List MTimer) (k : ByteArray) (z : Int) (w : World) (h : RefAt B m v now L w) (hl : L.length ≤ 200) (hz : Fidx L k z) : Calls Tryd.prog 47 #[.pointer (some ⟨m, 0, none⟩), .string k] w (Makes (.int .i64 z) w) := by
  have h1 : w.cell? ⟨m, 1, none⟩ = some v := h.blk.cell 1
  have H := Lib.hid h
  have HZ := Lib.hid hz
  obtain ⟨a, cap, rfl⟩ := h.form
  obtain ⟨n, hn⟩ : ∃ n, n = L.length := ⟨_, rfl⟩
  rw [← hn] at h1 hl
  have HN := Lib.hid hn
  have HR : Hid (L ≠ [] → ∃ g, a = some ⟨g, 0, none⟩ ∧ RowT w g L ∧ g < w.heap.size) := Lib.hid (fun hne => by
    obtain ⟨g, cap', e, r1, r2, _⟩ := h.row hne
    simp only [Value.slice.injEq] at e
    exact ⟨g, e.1, r1, r2⟩)
  clear h hz hn H
  go_enter Tryd.func47, Tryd.ntmps47
  go_wp2_with fail
  clear h1
  go_loopw [12] (fun i wr => ∃ q : Nat, q ≤ n ∧ i = .int .i64 q ∧ Hid (∀ j (hj : j < L.length), j < q → L[j].key ≠ k) ∧ Below w.heap.size w wr) (fun i _ => n - (intOf i).toNat)
  case atStart => exact ⟨0, by omega, rfl, Lib.hid (fun j _ hj => absurd hj (by omega)), Below.refl _ _⟩
  case round =>
    obtain ⟨q, hq, rfl, HF, hB⟩ := hrel
    have hzB := hB.size
    by_cases hlt : q < n
    · have hlt' : q < L.length := by rw [← HN.out]; exact hlt
      obtain ⟨g, rfl, hr, hg⟩ := HR.out (by intro e; rw [e] at hlt'; simp at hlt')
      obtain ⟨c0, c1, c2, c3, c4⟩ := (hr.below hg hB).five q hlt'
      clear hr
      by_cases hk : L[q].key = k
      · have hzq : z = q := by
          rcases HZ.out with ⟨_, hno⟩ | ⟨i, hi, rfl, e1, e2⟩
          · exact absurd hk (hno q hlt')
          · rcases Nat.lt_trichotomy i q with h1 | h1 | h1
            · exact absurd e1 (HF.out i hi h1)
            · rw [h1]
            · exact absurd hk (e2 q h1)
        subst hzq
        have hbe : (L[q].key.toList == k.toList) = true := by rw [hk]; simp
        clear hk
        generalize L[q] = t at *
        go_wp2_with fail
        go_ret
        exact ⟨rfl, below_then hB (by go_grown)⟩
      · have hbe := beq_key hk
        have HK := Lib.hid hk
        have HF2 : Hid (∀ j (hj : j < L.length), j < q + 1 → L[j].key ≠ k) := Lib.hid (fun j hj hjq => by
          rcases Nat.lt_succ_iff_lt_or_eq.1 hjq with h1 | h1
          · exact HF.out j hj h1
          · subst h1; exact HK.out)
        clear hk HK
        generalize L[q] = t at *
        go_wp2_with fail
        go_roundw
        case rel => exact ⟨q + 1, by omega, by go_num, HF2, below_then hB (by go_grown)⟩
        case measure => simp [intOf]; omega
    · obtain rfl : q = n := by omega
      have hz1 : z = -1 := by
        rcases HZ.out with ⟨e, _⟩ | ⟨i, hi, rfl, e1, _⟩
        · exact e
        · exact absurd e1 (HF.out i hi (by rw [HN.out]; exact hi))
      subst hz1
      go_wp2_with fail
      go_ret
      exact ⟨rfl, hB⟩
theorem rtick_no (B m now y : Nat) (v : Value) (L : List MTimer) (w : World) (h : RefAt B m v now L w) (hy : F64 y) (dy : fdelay y = false) : Calls Tryd.prog 81 #[.pointer (some ⟨m, 0, none⟩), flV y] w (Gives (.int .i64 4) w) := by
  have hD := fun W => rdelay_of y hy W
  rw [dy] at hD
  have HD := Lib.hid hD
  clear hD h
  go_enter Tryd.func81, Tryd.ntmps81
  go_wp2_with fail
  refine (HD.out _).mono ?_; rintro e w1 ⟨rfl, rfl⟩
  go_wp2_with fail
  go_ret
  exact ⟨rfl, rfl⟩
set_option maxRecDepth 100000 in
set_option maxHeartbeats 2000000 in
theorem rtick_yes (B m now y : Nat) (v : Value) (L : List MTimer) (w : World) (h : RefAt B m v now L w) (hn : now ≤ 9218868437227405312) (hy : F64 y) (dy : fdelay y = true) :
    Calls Tryd.prog 81 #[.pointer (some ⟨m, 0, none⟩), flV y] w fun e w' => e = .returned (.int .i64 0) ∧ RefAt B m v (fsum now (fplain y)) L w' ∧ RGo m v v w w' := by
  have hD := fun W => rdelay_of y hy W
  rw [dy] at hD
  have HD := Lib.hid hD
  have HP := Lib.hid (fun W => rplain_of y hy W)
  have hs := fun (w : World) => run_float_arith (P := Tryd.prog) w .add 22 .f64 _ _ _ (fsum_some now (fplain y) hn (plain_le y dy)).1
  have h0 : w.drew.cell? ⟨m, 0, none⟩ = some (.float .f64 now) := h.blk.cell 0
  have f0 : w.drew.frozen? ⟨m, 0, none⟩ = false := h.blk.free 0
  have H := Lib.hid h
  clear hD h hy dy hn
  generalize fplain y = d at *
  generalize fsum now d = r at *
  go_enter Tryd.func81, Tryd.ntmps81
  go_wp2_with fail
  refine (HD.out _).mono ?_; rintro e w1 ⟨rfl, rfl⟩
  go_upto_region 3 with fail
  go_still_tail 8, (by kernel_rfl)
  still_call ((HP.out _).mono fun _ _ h => ⟨h.1, h.2.symm⟩)
  repeat still_step
  refine wpStill_nil ?_
  change wpList _ _ _ _ _ w.drew
  have HB := Lib.hid (H.out.blk.drew.set 0 (by simp) (.float .f64 r))
  clear hs
  go_wp2_with fail
  go_ret
  refine ⟨rfl, ⟨H.out.base, HB.out, own_heap H.out.own (fun k hk => ?_), H.out.apart⟩, rfl, rfl, rfl, by simp, fun k hk hm _ => ?_, fun k hk => .inl hk⟩
  · exact Below.heap_setCell w.drew ⟨m, 0, none⟩ _ k (fun e => H.out.apart (by rw [hk]; exact congrArg some e))
  · exact Below.heap_setCell w.drew ⟨m, 0, none⟩ _ k (fun e => hm (by simpa using e))
theorem fmin_first (x : Nat) (xs : List Nat) (hx : x ≤ 9218868437227405312) : fminP (x :: xs) = xs.foldl (fun m y => if y < m then y else m) x := by
  unfold fminP
  rw [List.foldl_cons]
  congr 1
  split <;> omega
/-- the least of the first k+1 times -/
theorem next_step (L : List MTimer) (x : Nat) (k : Nat) (h : k < L.length) : ((L.take (k + 1)).map (·.at_)).foldl (fun m y => if y < m then y else m) x = if L[k].at_ < ((L.take k).map (·.at_)).foldl (fun m y => if y < m then y else m) x then L[k].at_ else ((L.take k).map (·.at_)).foldl (fun m y => if y < m then y else m) x := by
  rw [List.take_succ_eq_append_getElem h, List.map_append, List.foldl_append]; rfl
theorem next_all : ∀ (L : List MTimer) (h : 0 < L.length), L[0].at_ ≤ 9218868437227405312 → (L.map (·.at_)).foldl (fun m y => if y < m then y else m) L[0].at_ = fminP (L.map (·.at_))
  | t :: r, _, ht => by
    simp only [List.getElem_cons_zero] at ht ⊢
    unfold fminP
    rw [List.map_cons, List.foldl_cons, List.foldl_cons]
    congr 1
    show (if t.at_ < t.at_ then t.at_ else t.at_) = if t.at_ < 9218868437227405312 then t.at_ else 9218868437227405312
    split <;> split <;> omega
theorem fold_le (xs : List Nat) (x : Nat) (hx : x ≤ 9218868437227405312) : xs.foldl (fun m y => if y < m then y else m) x ≤ 9218868437227405312 := Nat.le_trans (fmin_fold xs x) hx
set_option maxRecDepth 100000 in
set_option maxHeartbeats 2000000 in
theorem rnext_of (B m now : Nat) (v : Value) (L : List MTimer) (w : World) (h : RefAt B m v now L w) (hl : L.length ≤ 200) (hg : ∀ t ∈ L, t.at_ ≤ 9218868437227405312) :
    Calls Tryd.prog 46 #[.pointer (some ⟨m, 0, none⟩)] w (Makes (.tuple #[.float .f64 (if L = [] then 0 else fminP (L.map (·.at_))), .bool (!decide (L = []))]) w) := by
  have h1 : w.cell? ⟨m, 1, none⟩ = some v := h.blk.cell 1
  by_cases hL : L = []
  · subst hL
    obtain ⟨a, cap, rfl⟩ := h.form
    clear h
    go_enter Tryd.func46, Tryd.ntmps46
    go_wp2_with fail
    go_ret2
    exact ⟨rfl, Below.refl _ _⟩
  obtain ⟨g, cap, rfl, hr, hgl, _⟩ := h.row hL
  obtain ⟨z, hz⟩ : ∃ z, z = fminP (L.map (·.at_)) := ⟨_, rfl⟩
  have e1 : (if L = [] then 0 else fminP (L.map (·.at_))) = z := by rw [if_neg hL, hz]
  have e2 : (!decide (L = [])) = true := by simp [hL]
  rw [e1, e2]
  have hpos : 0 < L.length := List.length_pos_iff.2 hL
  obtain ⟨c0, c1, c2, c3, c4⟩ := hr.five 0 hpos
  have HZ : Hid (((L.take L.length).map (·.at_)).foldl (fun m y => if y < m then y else m) L[0].at_ = z) := Lib.hid (by
    rw [List.take_length, hz]
    exact next_all L hpos (hg _ (List.getElem_mem hpos)))
  have HS := Lib.hid (next_step L L[0].at_)
  have HX := Lib.hid (hg _ (List.getElem_mem hpos))
  have HR := Lib.hid hr
  have HG := Lib.hid hg
  obtain ⟨n, hn⟩ : ∃ n, n = L.length := ⟨_, rfl⟩
  rw [← hn] at HZ h1 hl hpos
  have HN := Lib.hid hn
  clear h hr hz e1 e2 hL hg hn
  have HO := Lib.hid (fun x y (h1 : x ≤ 9218868437227405312) (h2 : y ≤ 9218868437227405312) W => (forder_le x y h1 h2) ▸ rorder_of x y (delay_of_le x h1).1 (delay_of_le y h2).1 W)
  generalize L[0] = t0 at *
  have hn0 : ((n : Int) == 0) = false := beq_eq_false_iff_ne.2 (by omega)
  go_enter Tryd.func46, Tryd.ntmps46
  go_wp2_with fail
  clear c0 c1 c2 c3 c4 h1 hn0
  go_loopw [4, 25] (fun x i wr => ∃ q : Nat, q ≤ n ∧ i = .int .i64 q ∧ x = flV (((L.take q).map (·.at_)).foldl (fun m y => if y < m then y else m) t0.at_) ∧ Below w.heap.size w wr) (fun _ i _ => n - (intOf i).toNat)
  case atStart => exact ⟨0, by omega, rfl, rfl, Below.refl _ _⟩
  case round =>
    obtain ⟨q, hq, rfl, rfl, hB⟩ := hrel
    have hzB := hB.size
    by_cases hlt : q < n
    · have hlt' : q < L.length := by rw [← HN.out]; exact hlt
      obtain ⟨c0, c1, c2, c3, c4⟩ := (HR.out.below hgl hB).five q hlt'
      have hxk := HG.out _ (List.getElem_mem hlt')
      have HT := Lib.hid (HS.out q hlt')
      have hF := HO.out L[q].at_ (((L.take q).map (·.at_)).foldl (fun m y => if y < m then y else m) t0.at_) hxk (fold_le _ _ HX.out)
      generalize ((L.take q).map (·.at_)).foldl (fun m y => if y < m then y else m) t0.at_ = mm at *
      obtain ⟨fz, hz, hz2⟩ : ∃ z, fcp (L[q].at_ : Int) (mm : Int) = z ∧ (z = -1 ∧ L[q].at_ < mm ∨ z = 0 ∧ ¬ L[q].at_ < mm ∨ z = 1 ∧ ¬ L[q].at_ < mm) := by
        refine ⟨_, rfl, ?_⟩
        unfold fcp
        rcases Nat.lt_trichotomy L[q].at_ mm with h | h | h
        · rw [if_pos (by omega)]; exact .inl ⟨rfl, h⟩
        · rw [if_neg (by omega), if_neg (by omega)]; exact .inr (.inl ⟨rfl, by omega⟩)
        · rw [if_neg (by omega), if_pos (by omega)]; exact .inr (.inr ⟨rfl, by omega⟩)
      rw [hz] at hF
      have HF := Lib.hid hF
      clear hF hz
      generalize L[q] = t at *
      rcases hz2 with ⟨rfl, hxm⟩ | ⟨rfl, hxm⟩ | ⟨rfl, hxm⟩
      all_goals
        have HM := Lib.hid hxm
        clear hxm
        go_wp2_with fail
        refine (HF.out _).mono ?_; rintro e w1 ⟨rfl, rfl⟩
        go_wp2_with fail
        go_roundw
        case rel => exact ⟨q + 1, by omega, by go_num, (by rw [HT.out]; first | rw [if_pos HM.out] | rw [if_neg HM.out]), below_then hB (by go_grown)⟩
        case measure => simp [intOf]; omega
    · obtain rfl : q = n := by omega
      have e3 := HZ.out
      go_wp2_with fail
      go_ret2
      exact ⟨by rw [e3]; rfl, hB⟩
end Go.Proofs.YtkidljiffeonjaaDoor

namespace Go.Proofs.YtkidljiffeonjaaDoor
open Go.RowKit
attribute [local go_sem] store_float

theorem step_append_at {w : World} {ops : Array Oper} {o : Oper} {a : Act} {K : Act → World → Prop} {Q : Exit → Act → World → Prop} {E : Prop} (hgd : o.guard = none) (s x : Operand) (t : TypeId)
    (ho : o.op = .call { callee := .builtin .append, args := #[s, x], argTypes := #[t, t] })
    (base : Nat) (e : TypeId) (i : TypeInfo) (z : Value) (size bytes : Nat) (ht : Tryd.prog.underlying t = some (.slice e)) (hi : Tryd.prog.info? e = some i) (hz : i.zero = some z)
    (hsize : i.size = size) (hby : i.bytes = bytes) (hzs : z.cells.size = size) (hsz : 0 < size)
    (v : Value) (n : Nat) (xs : List Value) (hs : a.eval s = v) (hown : w.ownsRow base e size v n xs)
    (ad : Addr) (m c : Nat) (news : List Value) (hx : a.eval x = .slice (some ad) m c) (hl : news.length = m * size) (hnews : ∀ j u, news[j]? = some u → w.cell? (ad.add j) = some u) (h1 : ∀ u ∈ news, u.oneCell' = true)
    (h63 : n + m ≤ maxLen) (hbytes : (n + m) * bytes ≤ 140737488355328) (hbase : base ≤ w.heap.size) (H : Nat) (hH : w.heap.size = H)
    (h : ∀ v' w', w'.ownsRow base e size v' (n + m) (xs ++ news) → w.grownBy w' v.ownBlock → (v'.ownBlock = v.ownBlock ∨ v'.ownBlock = some H) → K (a.put o.dst v') w') :
    if Region.wanted o (yielded ops a.tmps) = true then Oper.wp Tryd.prog o a w K Q else E := by
  have hw : Region.wanted o (yielded ops a.tmps) = true := by simp [Region.wanted, hgd]
  rw [if_pos hw]
  subst hH
  obtain ⟨v', w', hr, h2, h3, h4, h5⟩ := run_append_own_at (P := Tryd.prog) w base t o.type e i z size bytes ht hi hz hsize hby hzs hsz v n xs hown ad m c news hl hnews h1 h63 hbytes hbase
  unfold Oper.wp
  simp only [execOp, ho, resolve, invoke, builtin, Sem.run_bind, Sem.run_pure, Result.andThen_ok, List.map_toArray, List.map_cons, List.map_nil, hs, hx, hr]
  exact h v' w' h2 h3 h5

theorem two_step1 {w W w1 : World} {x y : Nat} (h : Below w.heap.size w W) (hg : W.grownBy w1 (Value.slice (some ⟨w.heap.size, 0, none⟩) x y).ownBlock) : Below w.heap.size w w1 :=
  h.grown hg h.size (fun k hk => by simp [Value.ownBlock] at hk; omega)
theorem two_step2 {w W w1 : World} {A : Addr} {b x y : Nat} {news : List Value} (h : ∀ t u, news[t]? = some u → W.cell? (A.add t) = some u) (hg : W.grownBy w1 (Value.slice (some ⟨w.heap.size, 0, none⟩) x y).ownBlock) (hA : ∀ t, (A.add t).block = b) (hb : b < w.heap.size) : ∀ t u, news[t]? = some u → w1.cell? (A.add t) = some u :=
  fun t u hu => hg.cell (h t u hu) (by rw [hA t]; simp [Value.ownBlock]; omega)
theorem two_step3 {w : World} {v1 : Value} {x y : Nat} (h : v1.ownBlock = (Value.slice (some ⟨w.heap.size, 0, none⟩) x y).ownBlock ∨ v1.ownBlock = some (w.heap.size + 1)) : ∃ m, w.heap.size ≤ m ∧ v1.ownBlock = some m := by
  rcases h with h | h
  · exact ⟨w.heap.size, Nat.le_refl _, h⟩
  · exact ⟨_, by omega, h⟩
theorem two_step4 {w w1 : World} {B : Nat} (h : Below w.heap.size w w1) (hB : B ≤ w.heap.size) : B ≤ w1.heap.size := Nat.le_trans hB h.size
theorem two_step5 {w w1 w2 : World} {v1 : Value} (h : Below w.heap.size w w1) (hg : w1.grownBy w2 v1.ownBlock) (hv : ∃ m, w.heap.size ≤ m ∧ v1.ownBlock = some m) : Below w.heap.size w w2 := by
  obtain ⟨m, hm, hv⟩ := hv
  exact h.grown hg h.size (fun k hk => by rw [hv] at hk; injection hk with hk; omega)
theorem two_step6 {w w1 : World} {v1 v2 : Value} (h : v2.ownBlock = v1.ownBlock ∨ v2.ownBlock = some w1.heap.size) (hv : ∃ m, w.heap.size ≤ m ∧ v1.ownBlock = some m) (hb : Below w.heap.size w w1) : ∃ m, w.heap.size ≤ m ∧ v2.ownBlock = some m := by
  rcases h with h | h
  · obtain ⟨m, hm, hv⟩ := hv; exact ⟨m, hm, h.trans hv⟩
  · exact ⟨_, hb.size, h⟩

theorem rowC_take (ts : List MTimer) (i : Nat) : (rowC ts).take (i * 5) = rowC (ts.take i) := by
  by_cases h : i ≤ ts.length
  · have e : rowC ts = rowC (ts.take i) ++ rowC (ts.drop i) := by unfold rowC; rw [← List.flatMap_append, List.take_append_drop]
    rw [e]
    have hl : (rowC (ts.take i)).length = i * 5 := by rw [rowC_length, List.length_take, Nat.min_eq_left h]
    rw [← hl, List.take_left]
  · have hl := rowC_length ts
    rw [List.take_of_length_le (by omega), List.take_of_length_le (by omega)]
theorem rowC_drop (ts : List MTimer) (i : Nat) : (rowC ts).drop (i * 5) = rowC (ts.drop i) := by
  by_cases h : i ≤ ts.length
  · have e : rowC ts = rowC (ts.take i) ++ rowC (ts.drop i) := by unfold rowC; rw [← List.flatMap_append, List.take_append_drop]
    rw [e]
    have hl : (rowC (ts.take i)).length = i * 5 := by rw [rowC_length, List.length_take, Nat.min_eq_left h]
    rw [← hl, List.drop_left]
  · have hl := rowC_length ts
    rw [List.drop_eq_nil_of_le (by omega), List.drop_eq_nil_of_le (by omega)]; rfl
theorem rowC_app (a b : List MTimer) : rowC (a ++ b) = rowC a ++ rowC b := by simp [rowC]
/-- the clock's block bears another row -/
theorem RefAt.swap {B m now : Nat} {v v2 : Value} {L L2 : List MTimer} {w w2 : World} (h : RefAt B m v now L w) (hs : w.heap.size ≤ w2.heap.size) (he : w2.heap[m]? = w.heap[m]?) (ho : w2.ownsRow B 103 5 v2 L2.length (rowC L2)) (hne : v2.ownBlock ≠ some m) : RefAt B m v2 now L2 (w2.setCell ⟨m, 1, none⟩ v2) :=
  ⟨h.base, (h.blk.keep hs he).set 1 (by simp) v2, own_heap ho (fun k hk => Below.heap_setCell w2 ⟨m, 1, none⟩ v2 k (fun e => hne (by rw [hk]; exact congrArg some e))), hne⟩
theorem RGo.store {m : Nat} {v v2 : Value} {w w2 : World} (h : RGo m v v2 w w2) (u : Value) : RGo m v v2 w (w2.setCell ⟨m, 1, none⟩ u) :=
  ⟨h.os, h.tape, h.output, by simpa using h.size, fun k hk hm hv => (Below.heap_setCell w2 ⟨m, 1, none⟩ u k (fun e => hm (by simpa using e))).trans (h.block k hk hm hv), h.new⟩
theorem RGo.of_grown {m : Nat} {v v2 : Value} {w W w2 : World} (hb : Below w.heap.size w W) (hg : W.grownBy w2 v.ownBlock) (hat : v2.ownBlock = v.ownBlock ∨ v2.ownBlock = some W.heap.size) : RGo m v v2 w w2 :=
  ⟨hg.os.trans hb.os, hg.tape.trans hb.tape, hg.output.trans hb.output, Nat.le_trans hb.size hg.size, fun k hk _ hv => (hg.block k (Nat.lt_of_lt_of_le hk hb.size) (fun e => hv e.symm)).trans (hb.block k hk), fun k hk => by
    rcases hat with h | h
    · exact .inl (h ▸ hk)
    · rw [h] at hk; injection hk with hk; exact .inr (by rw [← hk]; exact hb.size)⟩
/-- Set, refused -/
theorem rset_bad (B m now : Nat) (v : Value) (L : List MTimer) (k : ByteArray) (x y : Nat) (w : World) (hx : F64 x) (hy : F64 y) (hd : (fdelay x && fdelay y) = false) : Calls Tryd.prog 82 #[.pointer (some ⟨m, 0, none⟩), .string k, flV x, flV y] w (Gives (.int .i64 4) w) := by
  cases dx : fdelay x
  · have hD := fun W => rdelay_of x hx W
    rw [dx] at hD
    have HD := Lib.hid hD
    clear hD hd
    go_enter Tryd.func82, Tryd.ntmps82
    go_wp2_with fail
    refine (HD.out _).mono ?_; rintro e w1 ⟨rfl, rfl⟩
    go_wp2_with fail
    go_ret
    exact ⟨rfl, rfl⟩
  · rw [dx] at hd
    have dy : fdelay y = false := by simpa using hd
    have hD := fun W => rdelay_of x hx W
    rw [dx] at hD
    have hE := fun W => rdelay_of y hy W
    rw [dy] at hE
    have HD := Lib.hid hD; have HE := Lib.hid hE
    clear hD hE hd
    go_enter Tryd.func82, Tryd.ntmps82
    go_wp2_with fail
    refine (HD.out _).mono ?_; rintro e w1 ⟨rfl, rfl⟩
    go_wp2_with fail
    refine (HE.out _).mono ?_; rintro e w1 ⟨rfl, rfl⟩
    go_wp2_with fail
    go_ret
    exact ⟨rfl, rfl⟩
set_option maxRecDepth 100000 in
set_option maxHeartbeats 2000000 in
theorem rset_full (B m now : Nat) (v : Value) (L : List MTimer) (k : ByteArray) (x y : Nat) (w : World) (h : RefAt B m v now L w) (hl : L.length ≤ 200) (h64 : 64 ≤ L.length) (hf : tfind L k = none) (hx : F64 x) (hy : F64 y) (dx : fdelay x = true) (dy : fdelay y = true) : Calls Tryd.prog 82 #[.pointer (some ⟨m, 0, none⟩), .string k, flV x, flV y] w (Makes (.int .i64 6) w) := by
  have hD := fun W => rdelay_of x hx W
  rw [dx] at hD
  have hE := fun W => rdelay_of y hy W
  rw [dy] at hE
  have HD := Lib.hid hD; have HE := Lib.hid hE
  have HF := Lib.hid (find_of B m now v L k (-1) w h hl (fidx_none hf))
  have H := Lib.hid h
  obtain ⟨a, cap, rfl⟩ := h.form
  clear hD hE hx hy dx dy hf h
  go_enter Tryd.func82, Tryd.ntmps82
  go_wp2_with fail
  refine (HD.out _).mono ?_; rintro e w1 ⟨rfl, rfl⟩
  go_wp2_with fail
  refine (HE.out _).mono ?_; rintro e w1 ⟨rfl, rfl⟩
  go_wp2_with fail
  refine HF.out.mono ?_; rintro e w2 ⟨rfl, hb2⟩
  have h1 : w2.cell? ⟨m, 1, none⟩ = some (.slice a L.length cap) := (H.out.below hb2).blk.cell 1
  generalize L.length = n at *
  go_wp2_with fail
  go_ret
  exact ⟨rfl, hb2⟩
set_option maxRecDepth 100000 in
set_option maxHeartbeats 4000000 in
theorem rset_new (B m now : Nat) (v : Value) (L : List MTimer) (k : ByteArray) (x y : Nat) (w : World) (h : RefAt B m v now L w) (hB : B ≤ w.heap.size) (hl : L.length < 64) (hf : tfind L k = none) (hn : now ≤ 9218868437227405312) (hx : F64 x) (hy : F64 y) (dx : fdelay x = true) (dy : fdelay y = true) :
    Calls Tryd.prog 82 #[.pointer (some ⟨m, 0, none⟩), .string k, flV x, flV y] w fun e w' => e = .returned (.int .i64 0) ∧ ∃ v', RefAt B m v' now (L ++ [tnew now k x y]) w' ∧ RGo m v v' w w' := by
  have hD := fun W => rdelay_of x hx W
  rw [dx] at hD
  have hE := fun W => rdelay_of y hy W
  rw [dy] at hE
  have HD := Lib.hid hD; have HE := Lib.hid hE
  have HF := Lib.hid (find_of B m now v L k (-1) w h (by omega) (fidx_none hf))
  have HBk := Lib.hid (fun W => rbackoff_of x y 0 hx hy dx dy (by decide) W)
  have hs := fun (w : World) => run_float_arith (P := Tryd.prog) w .add 22 .f64 _ _ _ (fsum_some now (bko (fplain x) (fplain y) 0) hn (bko_le _ _ _ (plain_le x dx) (plain_le y dy))).1
  unfold tnew tat
  generalize bko (fplain x) (fplain y) 0 = d at *
  generalize fsum now d = r at *
  have H := Lib.hid h
  obtain ⟨a, cap, hv⟩ := h.form
  obtain ⟨n, hnn⟩ : ∃ n, n = L.length := ⟨_, rfl⟩
  have HN := Lib.hid hnn
  rw [← hnn] at hl hv
  have h1 : ∀ W, Below w.heap.size w W → W.cell? ⟨m, 1, none⟩ = some (.slice a n cap) := fun W hb => by rw [← hv]; exact (h.below hb).blk.cell 1
  have H1 := Lib.hid h1
  have H0 : Hid (∀ W, Below w.heap.size w W → W.cell? ⟨m, 0, none⟩ = some (.float .f64 now)) := Lib.hid (fun W hb => (h.below hb).blk.cell 0)
  have hml := h.blk.lt
  clear hD hE hx hy dx dy hf h h1 hnn hn
  obtain ⟨i0, ei, ez, es, eb⟩ := info_parts infoRT
  go_enter Tryd.func82, Tryd.ntmps82
  go_wp2_with fail
  refine (HD.out _).mono ?_; rintro e w1 ⟨rfl, rfl⟩
  go_wp2_with fail
  refine (HE.out _).mono ?_; rintro e w1 ⟨rfl, rfl⟩
  go_wp2_with fail
  refine HF.out.mono ?_; rintro e w2 ⟨rfl, hb2⟩
  have h1 := H1.out w2 hb2
  go_wp2_with fail
  refine (HBk.out _).mono ?_; rintro e w3 ⟨rfl, rfl⟩
  have h0 := H0.out w2 hb2
  go_upto_region 9 with fail
  obtain ⟨W, hW⟩ : ∃ W, W = w2.alloc (.cells #[.string k, .float .f64 r, .int .i64 0, .float .f64 x, .float .f64 y] 103) := ⟨_, rfl⟩
  rw [← hW]
  have hbW : Below w.heap.size w W := hW ▸ hb2.alloc hb2.size _
  have q5 : ∀ i, (World.drew W).cell? ⟨w2.heap.size, i, none⟩ = #[Value.string k, .float .f64 r, .int .i64 0, .float .f64 x, .float .f64 y][i]? := hW ▸ (Blk.fresh w2 _ _ _ rfl).cell
  have hzW : W.heap.size = w2.heap.size + 1 := by rw [hW]; simp
  obtain ⟨Wd, hWd⟩ : ∃ Wd, Wd = World.drew (W.alloc (.cells #[.string k, .float .f64 r, .int .i64 0, .float .f64 x, .float .f64 y] 103)) := ⟨_, rfl⟩
  have hbd : Below w.heap.size w Wd := hWd ▸ (hbW.alloc hbW.size _).drew
  have hzd : Wd.heap.size = W.heap.size + 1 := by rw [hWd]; simp
  have HR := Lib.hid (H.out.below hbd)
  have HO : Hid (Wd.ownsRow B 103 5 (.slice a n cap) n (rowC L)) := by
    have := (H.out.below hbd).own
    rw [hv, ← HN.out] at this
    exact this
  have HNw : Hid (∀ j u, (cells5 ⟨k, r, 0, x, y⟩)[j]? = some u → Wd.cell? ((⟨W.heap.size, 0, none⟩ : Addr).add j) = some u) := Lib.hid (hWd ▸ five_new W ⟨k, r, 0, x, y⟩ 103)
  have s0 : (World.drew W).cell? ⟨m, 1, none⟩ = some (.slice a n cap) := H1.out W hbW
  have s00 := H1.out Wd hbd
  have HBd := Lib.hid hbd
  have p1 : Hid (n + 1 ≤ maxLen ∧ (n + 1) * 48 ≤ 140737488355328 ∧ B ≤ Wd.heap.size) := ⟨by unfold maxLen; omega, by omega, by have := hbd.size; omega⟩
  have hap : Hid ((Value.slice a n cap).ownBlock ≠ some m) := Lib.hid (hv ▸ H.out.apart)
  have HZd := Lib.hid hzd
  clear hW hbW hbd h0 h1 hzd hs hzW
  subst hWd
  go_region_law (first
    | (refine step_append_at rfl (.tmp 56) (.tmp 58) 93 rfl B 103 i0 (timerV timer0) 5 48 Tryd.underlying93 ei ez es eb rfl (by decide) (.slice a n cap) n (rowC L) (by rfl) HO.out ⟨W.heap.size, 0, none⟩ 1 1 (cells5 ⟨k, r, 0, x, y⟩) (by rfl) rfl HNw.out (five_cells _) p1.out.1 p1.out.2.1 p1.out.2.2 (W.heap.size + 1) HZd.out ?_; intro v2 w5 hown5 hgrow5 hat5; have HG5 := Lib.hid hgrow5; have HO5 := Lib.hid hown5; have HA5 := Lib.hid hat5; have s5 : w5.cell? ⟨m, 1, none⟩ = some (.slice a n cap) := (hgrow5.cell s00 (fun e => hap.out e.symm)); have f5 : w5.frozen? ⟨m, 1, none⟩ = false := (World.frozen?_of_block (a := ⟨m, 1, none⟩) (hgrow5.block m HR.out.blk.lt (fun e => hap.out e.symm))).trans (HR.out.blk.free 1); obtain ⟨a2, c2, rfl⟩ := own_slice hown5; clear hown5 hgrow5 hat5))
  all_goals go_wp2_with fail
  all_goals go_ret
  all_goals exact ⟨rfl, _, HR.out.swap (L2 := L ++ [⟨k, r, 0, x, y⟩]) HG5.out.size (HG5.out.block m HR.out.blk.lt (fun e => hap.out e.symm)) (by rw [List.length_append, rowC_append]; exact HN.out ▸ HO5.out) (by
    rcases HA5.out with e | e
    · rw [e]; exact hap.out
    · rw [e]; intro e2; have h9 := HBd.out.size; have h8 := HZd.out; have h7 := Option.some.inj e2; omega), by rw [hv]; exact (RGo.of_grown HBd.out HG5.out (by rw [HZd.out]; exact HA5.out)).store _⟩
end Go.Proofs.YtkidljiffeonjaaDoor

namespace Go.Proofs.YtkidljiffeonjaaDoor
open Go.RowKit
attribute [local go_sem] store_float

/-- five cells of a row, stored -/
def World.five (W : World) (g o : Nat) (t : MTimer) : World := ((((W.setCell ⟨g, o, none⟩ (.string t.key)).setCell ⟨g, o + 1, none⟩ (.float .f64 t.at_)).setCell ⟨g, o + 2, none⟩ (.int .i64 t.times)).setCell ⟨g, o + 3, none⟩ (.float .f64 t.base)).setCell ⟨g, o + 4, none⟩ (.float .f64 t.most)
theorem rowC_set (L : List MTimer) (i : Nat) (t : MTimer) (h : i < L.length) : (((((rowC L).set (i * 5) (.string t.key)).set (i * 5 + 1) (.float .f64 t.at_)).set (i * 5 + 2) (.int .i64 t.times)).set (i * 5 + 3) (.float .f64 t.base)).set (i * 5 + 4) (.float .f64 t.most) = rowC (L.set i t) := by
  apply List.ext_getElem?
  intro j
  by_cases hj : j < L.length * 5
  · have hq : j / 5 < L.length := by omega
    have e : j = j / 5 * 5 + j % 5 := by omega
    have hr : j % 5 < 5 := Nat.mod_lt _ (by decide)
    have h2 := rowC_at (L.set i t) (j / 5) (j % 5) (by rw [List.length_set]; exact hq) hr
    rw [← e] at h2
    rw [h2]
    have hlen := rowC_length L
    simp only [List.getElem?_set, List.length_set]
    by_cases hi : i = j / 5
    · subst hi
      rw [List.getElem_set_self]
      have h5 : j % 5 = 0 ∨ j % 5 = 1 ∨ j % 5 = 2 ∨ j % 5 = 3 ∨ j % 5 = 4 := by omega
      rcases h5 with h5 | h5 | h5 | h5 | h5
      · rw [h5, if_neg (by omega), if_neg (by omega), if_neg (by omega), if_neg (by omega), if_pos (by omega), if_pos (by omega)]; rfl
      · rw [h5, if_neg (by omega), if_neg (by omega), if_neg (by omega), if_pos (by omega), if_pos (by omega)]; rfl
      · rw [h5, if_neg (by omega), if_neg (by omega), if_pos (by omega), if_pos (by omega)]; rfl
      · rw [h5, if_neg (by omega), if_pos (by omega), if_pos (by omega)]; rfl
      · rw [h5, if_pos (by omega), if_pos (by omega)]; rfl
    · rw [List.getElem_set_ne hi, if_neg (by omega), if_neg (by omega), if_neg (by omega), if_neg (by omega), if_neg (by omega)]
      have h3 := rowC_at L (j / 5) (j % 5) hq hr
      rw [← e] at h3
      exact h3
  · have h1 : (rowC (L.set i t)).length = L.length * 5 := by rw [rowC_length, List.length_set]
    rw [List.getElem?_eq_none (by simp only [List.length_set]; rw [rowC_length]; omega), List.getElem?_eq_none (by rw [h1]; omega)]
theorem five_own {W : World} {B g n cap : Nat} {e : TypeId} {L : List MTimer} (h : W.ownsRow B e 5 (.slice (some ⟨g, 0, none⟩) n cap) n (rowC L)) (i : Nat) (t : MTimer) (hi : i < L.length) :
    (World.five W g (i * 5) t).ownsRow B e 5 (.slice (some ⟨g, 0, none⟩) n cap) n (rowC (L.set i t)) ∧ W.grownBy (World.five W g (i * 5) t) (some g) := by
  obtain ⟨h1, g1⟩ := h.stored (i * 5) (.string t.key)
  obtain ⟨h2, g2⟩ := h1.stored (i * 5 + 1) (.float .f64 t.at_)
  obtain ⟨h3, g3⟩ := h2.stored (i * 5 + 2) (.int .i64 t.times)
  obtain ⟨h4, g4⟩ := h3.stored (i * 5 + 3) (.float .f64 t.base)
  obtain ⟨h5, g5⟩ := h4.stored (i * 5 + 4) (.float .f64 t.most)
  rw [rowC_set L i t hi] at h5
  have tr : ∀ {a b c : World}, a.grownBy b (some g) → b.grownBy c (some g) → a.grownBy c (some g) := fun x y => ⟨y.os.trans x.os, y.tape.trans x.tape, y.output.trans x.output, Nat.le_trans x.size y.size, fun k hk hne => (y.block k (Nat.lt_of_lt_of_le hk x.size) hne).trans (x.block k hk hne)⟩
  exact ⟨h5, tr (tr (tr (tr g1 g2) g3) g4) g5⟩
theorem grownBy_drew {W X : World} {r : Option Nat} (h : W.grownBy X r) : W.grownBy X.drew r := ⟨h.os, h.tape, h.output, h.size, h.block⟩
/-- the row's own block has changed: the clock bears the other row -/
theorem RefAt.rowed {B m now g cap n : Nat} {L L2 : List MTimer} {w W w2 : World} (h : RefAt B m (.slice (some ⟨g, 0, none⟩) n cap) now L w) (hb : Below w.heap.size w W) (hg : W.grownBy w2 (some g)) (ho : w2.ownsRow B 103 5 (.slice (some ⟨g, 0, none⟩) n cap) n (rowC L2)) (hn : n = L2.length) :
    RefAt B m (.slice (some ⟨g, 0, none⟩) n cap) now L2 w2 ∧ RGo m (.slice (some ⟨g, 0, none⟩) n cap) (.slice (some ⟨g, 0, none⟩) n cap) w w2 := by
  have h1 := h.below hb
  refine ⟨⟨h.base, h1.blk.keep hg.size (hg.block m h1.blk.lt (fun e => h.apart e.symm)), by rw [← hn]; exact ho, h.apart⟩, hg.os.trans hb.os, hg.tape.trans hb.tape, hg.output.trans hb.output, Nat.le_trans hb.size hg.size, fun k hk _ hv => (hg.block k (Nat.lt_of_lt_of_le hk hb.size) (fun e => hv e.symm)).trans (hb.block k hk), fun k hk => .inl hk⟩
set_option maxRecDepth 100000 in
set_option maxHeartbeats 4000000 in
theorem rset_at (B m now : Nat) (v : Value) (L : List MTimer) (k : ByteArray) (i x y : Nat) (w : World) (h : RefAt B m v now L w) (hl : L.length ≤ 200) (hi : i < L.length) (hf : Fidx L k i) (hn : now ≤ 9218868437227405312) (hx : F64 x) (hy : F64 y) (dx : fdelay x = true) (dy : fdelay y = true) :
    Calls Tryd.prog 82 #[.pointer (some ⟨m, 0, none⟩), .string k, flV x, flV y] w fun e w' => e = .returned (.int .i64 0) ∧ ∃ v', RefAt B m v' now (L.set i (tnew now k x y)) w' ∧ RGo m v v' w w' := by
  have hD := fun W => rdelay_of x hx W
  rw [dx] at hD
  have hE := fun W => rdelay_of y hy W
  rw [dy] at hE
  have HD := Lib.hid hD; have HE := Lib.hid hE
  have HF := Lib.hid (find_of B m now v L k i w h hl hf)
  have HBk := Lib.hid (fun W => rbackoff_of x y 0 hx hy dx dy (by decide) W)
  have hs := fun (w : World) => run_float_arith (P := Tryd.prog) w .add 22 .f64 _ _ _ (fsum_some now (bko (fplain x) (fplain y) 0) hn (bko_le _ _ _ (plain_le x dx) (plain_le y dy))).1
  unfold tnew tat
  generalize bko (fplain x) (fplain y) 0 = d at *
  generalize fsum now d = r at *
  obtain ⟨g, cap, rfl, hr, hgl, hBg⟩ := h.row (by intro e; rw [e] at hi; simp at hi)
  have H := Lib.hid h
  obtain ⟨n, hnn⟩ : ∃ n, n = L.length := ⟨_, rfl⟩
  have HN := Lib.hid hnn
  rw [← hnn] at hl hi H
  have hml := h.blk.lt
  clear hD hE hx hy dx dy hf h hnn hn hr
  go_enter Tryd.func82, Tryd.ntmps82
  go_wp2_with fail
  refine (HD.out _).mono ?_; rintro e w1 ⟨rfl, rfl⟩
  go_wp2_with fail
  refine (HE.out _).mono ?_; rintro e w1 ⟨rfl, rfl⟩
  go_wp2_with fail
  refine HF.out.mono ?_; rintro e w2 ⟨rfl, hb2⟩
  go_wp2_with fail
  refine (HBk.out _).mono ?_; rintro e w3 ⟨rfl, rfl⟩
  have h0 : w2.cell? ⟨m, 0, none⟩ = some (.float .f64 now) := (H.out.below hb2).blk.cell 0
  go_upto_region 10 with fail
  obtain ⟨W, hW⟩ : ∃ W, W = w2.alloc (.cells #[.string k, .float .f64 r, .int .i64 0, .float .f64 x, .float .f64 y] 103) := ⟨_, rfl⟩
  rw [← hW]
  have hbW : Below w.heap.size w W := hW ▸ hb2.alloc hb2.size _
  have q5 : ∀ i, (World.drew W).cell? ⟨w2.heap.size, i, none⟩ = #[Value.string k, .float .f64 r, .int .i64 0, .float .f64 x, .float .f64 y][i]? := hW ▸ (Blk.fresh w2 _ _ _ rfl).cell
  have HO : Hid (W.ownsRow B 103 5 (.slice (some ⟨g, 0, none⟩) n cap) n (rowC L)) := by
    have := (H.out.below hbW).own
    rw [← HN.out] at this
    exact this
  have s0 : (World.drew W).cell? ⟨m, 1, none⟩ = some (.slice (some ⟨g, 0, none⟩) n cap) := (H.out.below hbW).blk.cell 1
  have hcell : ∀ j, j < 5 → ∃ u, W.cell? ⟨g, i * 5 + j, none⟩ = some u := fun j hj => by
    rw [HO.out.cellAt (i * 5 + j) (by omega)]
    exact ⟨_, List.getElem?_eq_getElem (by rw [rowC_length, ← HN.out]; omega)⟩
  have hfr : ∀ j, W.frozen? ⟨g, j, none⟩ = false := HO.out.frozenAt
  obtain ⟨u0, c0⟩ := hcell 0 (by decide)
  obtain ⟨u1, c1⟩ := hcell 1 (by decide)
  obtain ⟨u2, c2⟩ := hcell 2 (by decide)
  obtain ⟨u3, c3⟩ := hcell 3 (by decide)
  obtain ⟨u4, c4⟩ := hcell 4 (by decide)
  rw [Nat.add_zero] at c0
  have HF5 := Lib.hid (five_own HO.out i ⟨k, r, 0, x, y⟩ (by rw [← HN.out]; exact hi))
  have HBd := Lib.hid hbW
  clear hW hbW h0 hs hcell
  go_region
  all_goals go_wp2_with fail
  all_goals go_ret
  all_goals
    have h5 := H.out.rowed (L2 := L.set i ⟨k, r, 0, x, y⟩) HBd.out (grownBy_drew HF5.out.2) (World.ownsRow.drew HF5.out.1) (by rw [List.length_set]; exact HN.out)
    unfold World.five at h5
    dsimp only at h5
    rw [← HN.out]
    exact ⟨rfl, _, h5.1, h5.2⟩
end Go.Proofs.YtkidljiffeonjaaDoor

namespace Go.Proofs.YtkidljiffeonjaaDoor
open Go.RowKit
attribute [local go_sem] store_float

set_option maxRecDepth 100000 in
theorem ragain_none (B m now : Nat) (v : Value) (L : List MTimer) (k : ByteArray) (w : World) (h : RefAt B m v now L w) (hl : L.length ≤ 200) (hf : tfind L k = none) : Calls Tryd.prog 83 #[.pointer (some ⟨m, 0, none⟩), .string k] w (Makes (.int .i64 8) w) := by
  have HF := Lib.hid (find_of B m now v L k (-1) w h hl (fidx_none hf))
  clear h hf
  go_enter Tryd.func83, Tryd.ntmps83
  go_wp2_with fail
  refine HF.out.mono ?_; rintro e w2 ⟨rfl, hb2⟩
  go_wp2_with fail
  go_ret
  exact ⟨rfl, hb2⟩
set_option maxRecDepth 100000 in
set_option maxHeartbeats 4000000 in
theorem ragain_at (B m now : Nat) (v : Value) (L : List MTimer) (k : ByteArray) (i : Nat) (w : World) (h : RefAt B m v now L w) (hl : L.length ≤ 200) (hi : i < L.length) (hf : Fidx L k i) (hn : now ≤ 9218868437227405312) (gd : TGood L[i]) :
    Calls Tryd.prog 83 #[.pointer (some ⟨m, 0, none⟩), .string k] w fun e w' => e = .returned (.int .i64 0) ∧ ∃ v', RefAt B m v' now (L.set i (tagain now L[i])) w' ∧ RGo m v v' w w' := by
  have HF := Lib.hid (find_of B m now v L k i w h hl hf)
  obtain ⟨g, cap, rfl, hr, hgl, hBg⟩ := h.row (by intro e; rw [e] at hi; simp at hi)
  have HR := Lib.hid (fun W (hb : Below w.heap.size w W) => (hr.below hgl hb).five i hi)
  have H := Lib.hid h
  obtain ⟨n, hnn⟩ : ∃ n, n = L.length := ⟨_, rfl⟩
  have HN := Lib.hid hnn
  have hi' := hi
  rw [← hnn] at hl hi H
  have hml := h.blk.lt
  clear hf h hnn hr
  generalize L[i] = t at *
  clear hi'
  obtain ⟨kk, at0, tm, bs, ms⟩ := t
  obtain ⟨tn, rfl⟩ : ∃ tn : Nat, tm = tn := ⟨tm.toNat, by have := gd.t0; simp only at this; omega⟩
  have htn : tn ≤ 1000000 := by have := gd.t1; simp only at this; omega
  simp only at HR
  by_cases hlt : tn < 1000000
  · have HBk := Lib.hid (fun W => rbackoff_of bs ms (tn + 1 : Nat) gd.fb gd.fm gd.db gd.dm (by omega) W)
    have hs := fun (w : World) => run_float_arith (P := Tryd.prog) w .add 22 .f64 _ _ _ (fsum_some now (bko (fplain bs) (fplain ms) (tn + 1 : Nat)) hn (bko_le _ _ _ (plain_le bs gd.db) (plain_le ms gd.dm))).1
    have hT : tagain now ⟨kk, at0, tn, bs, ms⟩ = ⟨kk, fsum now (bko (fplain bs) (fplain ms) (tn + 1 : Nat)), (tn + 1 : Nat), bs, ms⟩ := by
      have e : tnext ⟨kk, at0, tn, bs, ms⟩ = (tn + 1 : Nat) := by unfold tnext; simp only [Int.toNat_natCast]; omega
      unfold tagain tat; rw [e]
    rw [hT]
    rw [show (((tn + 1 : Nat)) : Int) = (tn : Int) + 1 by omega] at *
    generalize bko (fplain bs) (fplain ms) (tn + 1 : Nat) = d at *
    generalize fsum now d = r at *
    clear hT hn gd
    have hcm : decide ((tn : Int) < 1000000) = true := decide_eq_true (by omega)
    have hw1 := IntWalk.i64_in ((tn : Int) + 1) (by omega)
    have hb63 : (tn : Int) + 1 ≤ 9223372036854775807 := by omega
    have hb0 : (0 : Int) ≤ (tn : Int) + 1 := by omega
    clear hlt htn
    generalize (tn : Int) = tz at *
    go_enter Tryd.func83, Tryd.ntmps83
    go_wp2_with fail
    refine HF.out.mono ?_; rintro e w2 ⟨rfl, hb2⟩
    have h0 : w2.cell? ⟨m, 0, none⟩ = some (.float .f64 now) := (H.out.below hb2).blk.cell 0
    have h1 : w2.cell? ⟨m, 1, none⟩ = some (.slice (some ⟨g, 0, none⟩) n cap) := (H.out.below hb2).blk.cell 1
    have h00 := fun o => ((H.out.below hb2).blk.alloc o).cell 0
    obtain ⟨c0, c1, c2, c3, c4⟩ := HR.out w2 hb2
    have hz2 := hb2.size
    go_wp2_with fail
    refine (HBk.out _).mono ?_; rintro e w3 ⟨rfl, rfl⟩
    go_upto_region 9 with fail
    obtain ⟨W, hW⟩ : ∃ W, W = w2.alloc (.cells #[.string kk, .float .f64 r, .int .i64 (tz + 1), .float .f64 bs, .float .f64 ms] 103) := ⟨_, rfl⟩
    rw [← hW]
    have hbW : Below w.heap.size w W := hW ▸ hb2.alloc hb2.size _
    have q5 : ∀ i, (World.drew W).cell? ⟨w2.heap.size, i, none⟩ = #[Value.string kk, .float .f64 r, .int .i64 (tz + 1), .float .f64 bs, .float .f64 ms][i]? := hW ▸ (Blk.fresh w2 _ _ _ rfl).cell
    have HO : Hid (W.ownsRow B 103 5 (.slice (some ⟨g, 0, none⟩) n cap) n (rowC L)) := by
      have := (H.out.below hbW).own
      rw [← HN.out] at this
      exact this
    have s0 : (World.drew W).cell? ⟨m, 1, none⟩ = some (.slice (some ⟨g, 0, none⟩) n cap) := (H.out.below hbW).blk.cell 1
    have hcell : ∀ j, j < 5 → ∃ u, W.cell? ⟨g, i * 5 + j, none⟩ = some u := fun j hj => by
      rw [HO.out.cellAt (i * 5 + j) (by omega)]
      exact ⟨_, List.getElem?_eq_getElem (by rw [rowC_length, ← HN.out]; omega)⟩
    have hfr : ∀ j, W.frozen? ⟨g, j, none⟩ = false := HO.out.frozenAt
    clear c0 c1 c2 c3 c4
    obtain ⟨u0, c0⟩ := hcell 0 (by decide)
    obtain ⟨u1, c1⟩ := hcell 1 (by decide)
    obtain ⟨u2, c2⟩ := hcell 2 (by decide)
    obtain ⟨u3, c3⟩ := hcell 3 (by decide)
    obtain ⟨u4, c4⟩ := hcell 4 (by decide)
    rw [Nat.add_zero] at c0
    have HF5 := Lib.hid (five_own HO.out i ⟨kk, r, (tz + 1), bs, ms⟩ (by rw [← HN.out]; exact hi))
    have HBd := Lib.hid hbW
    clear hW hbW h0 h00 h1 hs hcell
    go_region
    all_goals go_wp2_with fail
    all_goals go_ret
    all_goals
      have h5 := H.out.rowed (L2 := L.set i ⟨kk, r, (tz + 1), bs, ms⟩) HBd.out (grownBy_drew HF5.out.2) (World.ownsRow.drew HF5.out.1) (by rw [List.length_set]; exact HN.out)
      unfold World.five at h5
      dsimp only at h5
      rw [← HN.out]
      exact ⟨rfl, _, h5.1, h5.2⟩
  · have HBk := Lib.hid (fun W => rbackoff_of bs ms (1000000 : Nat) gd.fb gd.fm gd.db gd.dm (by omega) W)
    have hs := fun (w : World) => run_float_arith (P := Tryd.prog) w .add 22 .f64 _ _ _ (fsum_some now (bko (fplain bs) (fplain ms) (1000000 : Nat)) hn (bko_le _ _ _ (plain_le bs gd.db) (plain_le ms gd.dm))).1
    have hT : tagain now ⟨kk, at0, tn, bs, ms⟩ = ⟨kk, fsum now (bko (fplain bs) (fplain ms) (1000000 : Nat)), (1000000 : Nat), bs, ms⟩ := by
      have e : tnext ⟨kk, at0, tn, bs, ms⟩ = (1000000 : Nat) := by unfold tnext; simp only [Int.toNat_natCast]; omega
      unfold tagain tat; rw [e]
    rw [hT]
    rw [show ((1000000 : Nat) : Int) = 1000000 by rfl] at *
    generalize bko (fplain bs) (fplain ms) (1000000 : Nat) = d at *
    generalize fsum now d = r at *
    clear hT hn gd
    obtain rfl : tn = 1000000 := by omega
    skip
    skip
    skip
    skip
    skip
    go_enter Tryd.func83, Tryd.ntmps83
    go_wp2_with fail
    refine HF.out.mono ?_; rintro e w2 ⟨rfl, hb2⟩
    have h0 : w2.cell? ⟨m, 0, none⟩ = some (.float .f64 now) := (H.out.below hb2).blk.cell 0
    have h1 : w2.cell? ⟨m, 1, none⟩ = some (.slice (some ⟨g, 0, none⟩) n cap) := (H.out.below hb2).blk.cell 1
    have h00 := fun o => ((H.out.below hb2).blk.alloc o).cell 0
    obtain ⟨c0, c1, c2, c3, c4⟩ := HR.out w2 hb2
    have hz2 := hb2.size
    go_wp2_with fail
    refine (HBk.out _).mono ?_; rintro e w3 ⟨rfl, rfl⟩
    go_upto_region 9 with fail
    obtain ⟨W, hW⟩ : ∃ W, W = w2.alloc (.cells #[.string kk, .float .f64 r, .int .i64 1000000, .float .f64 bs, .float .f64 ms] 103) := ⟨_, rfl⟩
    rw [← hW]
    have hbW : Below w.heap.size w W := hW ▸ hb2.alloc hb2.size _
    have q5 : ∀ i, (World.drew W).cell? ⟨w2.heap.size, i, none⟩ = #[Value.string kk, .float .f64 r, .int .i64 1000000, .float .f64 bs, .float .f64 ms][i]? := hW ▸ (Blk.fresh w2 _ _ _ rfl).cell
    have HO : Hid (W.ownsRow B 103 5 (.slice (some ⟨g, 0, none⟩) n cap) n (rowC L)) := by
      have := (H.out.below hbW).own
      rw [← HN.out] at this
      exact this
    have s0 : (World.drew W).cell? ⟨m, 1, none⟩ = some (.slice (some ⟨g, 0, none⟩) n cap) := (H.out.below hbW).blk.cell 1
    have hcell : ∀ j, j < 5 → ∃ u, W.cell? ⟨g, i * 5 + j, none⟩ = some u := fun j hj => by
      rw [HO.out.cellAt (i * 5 + j) (by omega)]
      exact ⟨_, List.getElem?_eq_getElem (by rw [rowC_length, ← HN.out]; omega)⟩
    have hfr : ∀ j, W.frozen? ⟨g, j, none⟩ = false := HO.out.frozenAt
    clear c0 c1 c2 c3 c4
    obtain ⟨u0, c0⟩ := hcell 0 (by decide)
    obtain ⟨u1, c1⟩ := hcell 1 (by decide)
    obtain ⟨u2, c2⟩ := hcell 2 (by decide)
    obtain ⟨u3, c3⟩ := hcell 3 (by decide)
    obtain ⟨u4, c4⟩ := hcell 4 (by decide)
    rw [Nat.add_zero] at c0
    have HF5 := Lib.hid (five_own HO.out i ⟨kk, r, 1000000, bs, ms⟩ (by rw [← HN.out]; exact hi))
    have HBd := Lib.hid hbW
    clear hW hbW h0 h00 h1 hs hcell
    go_region
    all_goals go_wp2_with fail
    all_goals go_ret
    all_goals
      have h5 := H.out.rowed (L2 := L.set i ⟨kk, r, 1000000, bs, ms⟩) HBd.out (grownBy_drew HF5.out.2) (World.ownsRow.drew HF5.out.1) (by rw [List.length_set]; exact HN.out)
      unfold World.five at h5
      dsimp only at h5
      rw [← HN.out]
      exact ⟨rfl, _, h5.1, h5.2⟩
end Go.Proofs.YtkidljiffeonjaaDoor

namespace Go.Proofs.YtkidljiffeonjaaDoor
open Go.RowKit
attribute [local go_sem] store_float

theorem RGo.of_new {m : Nat} {v v2 : Value} {w w2 : World} (hb : Below w.heap.size w w2) (hat : ∃ q, w.heap.size ≤ q ∧ v2.ownBlock = some q) : RGo m v v2 w w2 :=
  ⟨hb.os, hb.tape, hb.output, hb.size, fun k hk _ _ => hb.block k hk, fun k hk => by
    obtain ⟨q, hq, e⟩ := hat
    rw [e] at hk; injection hk with hk; exact .inr (by omega)⟩
theorem ndrop_end {B m now : Nat} {v v2 : Value} {L L2 : List MTimer} {w w2 : World} {len : Nat} {xs : List Value} (H : RefAt B m v now L w) (hb : Below w.heap.size w w2) (ho : w2.ownsRow B 103 5 v2 len xs) (hlen : L2.length = len) (hx : rowC L2 = xs) (hat : ∃ q, w.heap.size ≤ q ∧ v2.ownBlock = some q) :
    RefAt B m v2 now L2 (w2.setCell ⟨m, 1, none⟩ v2) ∧ RGo m v v2 w (w2.setCell ⟨m, 1, none⟩ v2) := by
  refine ⟨H.swap hb.size (hb.block m H.blk.lt) (by rw [hlen, hx]; exact ho) ?_, (RGo.of_new hb hat).store _⟩
  obtain ⟨q, hq, e⟩ := hat
  rw [e]; intro e2; injection e2 with e2
  have := H.blk.lt
  omega
set_option maxRecDepth 100000 in
theorem rdrop_none (B m now : Nat) (v : Value) (L : List MTimer) (k : ByteArray) (w : World) (h : RefAt B m v now L w) (hl : L.length ≤ 200) (hf : tfind L k = none) : Calls Tryd.prog 84 #[.pointer (some ⟨m, 0, none⟩), .string k] w (Makes (.bool false) w) := by
  have HF := Lib.hid (find_of B m now v L k (-1) w h hl (fidx_none hf))
  clear h hf
  go_enter Tryd.func84, Tryd.ntmps84
  go_wp2_with fail
  refine HF.out.mono ?_; rintro e w2 ⟨rfl, hb2⟩
  go_wp2_with fail
  go_ret
  exact ⟨by first | rfl | exact ret_bool (by simp), hb2⟩
set_option maxRecDepth 100000 in
set_option maxHeartbeats 4000000 in
theorem rdrop_at (B m now : Nat) (v : Value) (L : List MTimer) (k : ByteArray) (j : Nat) (w0 : World) (h : RefAt B m v now L w0) (hl : L.length ≤ 200) (hj : j < L.length) (hf : Fidx L k j) (hB0 : B ≤ w0.heap.size) :
    Calls Tryd.prog 84 #[.pointer (some ⟨m, 0, none⟩), .string k] w0 fun e w' => e = .returned (.bool true) ∧ ∃ v', RefAt B m v' now (L.take j ++ L.drop (j + 1)) w' ∧ RGo m v v' w0 w' := by
  have HF0 := Lib.hid (find_of B m now v L k j w0 h hl hf)
  rcases h.own.2 with ⟨_, h0⟩ | ⟨b, cap, cur, rfl, hbB, hbh, hcap, hcm, hcs, htk⟩
  · omega
  have H0 := Lib.hid h
  clear hbh htk hf hcs
  obtain ⟨n, hn⟩ : ∃ n, n = L.length := ⟨_, rfl⟩
  have HN := Lib.hid hn
  rw [← hn] at hl hj H0 hcap
  clear h hn
  have hc3 : cap ≤ 9223372036854775807 := by simpa [maxLen] using hcm
  obtain ⟨i0, ei, ez, es, eb⟩ := info_parts infoRT
  have hjc : j ≤ cap := by omega
  have hjc1 : j + 1 ≤ cap := by omega
  have h01 : (0 : Int) ≤ (j : Int) + 1 := by omega
  have h02 : (j : Int) + 1 ≤ (n : Int) := by omega
  have hw1 : IntKind.i64.wrap ((j : Int) + 1) = (j : Int) + 1 := IntWalk.i64_in _ (by omega)
  have htn : ((j : Int) + 1).toNat = j + 1 := by omega
  go_enter Tryd.func84, Tryd.ntmps84
  go_wp2_with fail
  refine HF0.out.mono ?_; rintro e w ⟨rfl, hb0⟩
  have HB0 := Lib.hid hb0
  have H := Lib.hid (H0.out.below hb0)
  have hbl : b < w.heap.size := (H.out.own.lt b rfl).2
  have hgl : m < w.heap.size := H.out.blk.lt
  have hB : B ≤ w.heap.size := Nat.le_trans hB0 hb0.size
  have hcell : ∀ t u, (rowC L)[t]? = some u → w.cell? ⟨b, t, none⟩ = some u := fun t u hu => by
    have ht := (List.getElem?_eq_some_iff.1 hu).1
    rw [rowC_length] at ht
    have ho := H.out.own
    rw [← HN.out] at ho
    exact (ho.cellAt t (by rw [HN.out]; exact ht)).trans hu
  obtain ⟨news1, hn1⟩ : ∃ news, news = rowC (L.take j) := ⟨_, rfl⟩
  obtain ⟨news2, hn2⟩ : ∃ news, news = rowC (L.drop (j + 1)) := ⟨_, rfl⟩
  have L1 : Hid (news1.length = j * 5) := by rw [hn1, rowC_length, List.length_take, Nat.min_eq_left (by rw [← HN.out]; omega)]; exact Lib.hid rfl
  have L2 : Hid (news2.length = (n - (j + 1)) * 5) := by rw [hn2, rowC_length, List.length_drop, HN.out]; exact Lib.hid rfl
  have O1 : Hid (∀ u ∈ news1, u.oneCell' = true) := by
    intro u hu; rw [hn1] at hu; obtain ⟨m, _, hm⟩ := List.mem_flatMap.1 hu; exact five_cells _ u hm
  have O2 : Hid (∀ u ∈ news2, u.oneCell' = true) := by
    intro u hu; rw [hn2] at hu; obtain ⟨m, _, hm⟩ := List.mem_flatMap.1 hu; exact five_cells _ u hm
  have C1 : Hid (∀ t u, news1[t]? = some u → w.cell? ((⟨b, 0, none⟩ : Addr).add t) = some u) := by
    intro t u hu
    rw [Addr.add_lit, Nat.zero_add]
    refine hcell t u ?_
    rw [hn1, ← rowC_take, List.getElem?_take] at hu
    split at hu
    · exact hu
    · cases hu
  obtain ⟨A, hA, C2⟩ : ∃ A : Addr, (if cap = j + 1 then some (⟨b, 0, none⟩ : Addr) else some ⟨b, (j + 1) * 5, none⟩) = some A ∧ Hid ((∀ t, (A.add t).block = b) ∧ ∀ t u, news2[t]? = some u → w.cell? (A.add t) = some u) := by
    by_cases hh : cap = j + 1
    · refine ⟨⟨b, 0, none⟩, by simp [hh], fun t => by rw [Addr.add_lit], fun t u hu => ?_⟩
      have h0 : news2.length = 0 := by rw [L2.out]; omega
      rw [List.length_eq_zero_iff.1 h0] at hu
      simp at hu
    · refine ⟨⟨b, (j + 1) * 5, none⟩, by simp [hh], fun t => by rw [Addr.add_lit], fun t u hu => ?_⟩
      rw [hn2, ← rowC_drop, List.getElem?_drop] at hu
      rw [Addr.add_lit]
      exact hcell _ u hu
  have hfin : rowC (L.take j ++ L.drop (j + 1)) = [] ++ news1 ++ news2 := by rw [hn1, hn2, List.nil_append, rowC_app]
  have hfl : (L.take j ++ L.drop (j + 1)).length = 0 + j + (n - (j + 1)) := by rw [List.length_append, List.length_take, List.length_drop, ← HN.out]; omega
  have HF := Lib.hid (And.intro hfin hfl)
  have hown0 : (World.drew (w.alloc (.cells #[] 103))).ownsRow B 103 5 (.slice (some ⟨w.heap.size, 0, none⟩) 0 0) 0 [] := (World.ownsRow_lit w #[] 0 hB (by decide) rfl)
  have HO0 := Lib.hid hown0
  clear hcell hn1 hn2 hfin hfl hown0 hb0 hB0
  have hsz0 : (World.drew (w.alloc (.cells #[] 103))).heap.size = w.heap.size + 1 := by simp
  have C1a : Hid (∀ t u, news1[t]? = some u → (World.drew (w.alloc (.cells #[] 103))).cell? ((⟨b, 0, none⟩ : Addr).add t) = some u) := by
    intro t u hu
    have := C1.out t u hu
    rw [Addr.add_lit] at this ⊢
    exact ((Below.refl w.heap.size w).alloc (Nat.le_refl _) _ |>.drew |>.cell (p := ⟨b, 0 + t, none⟩) hbl).trans this
  have C2a : Hid (∀ t u, news2[t]? = some u → (World.drew (w.alloc (.cells #[] 103))).cell? (A.add t) = some u) := by
    intro t u hu
    have := C2.out.2 t u hu
    have hAb : (A.add t).block = b := C2.out.1 t
    exact ((Below.refl w.heap.size w).alloc (Nat.le_refl _) _ |>.drew |>.cell (p := A.add t) (by rw [hAb]; exact hbl)).trans this
  have p1 : Hid (0 + j ≤ maxLen ∧ (0 + j) * 48 ≤ 140737488355328 ∧ 0 + j + (n - (j + 1)) ≤ maxLen ∧ (0 + j + (n - (j + 1))) * 48 ≤ 140737488355328 ∧ B ≤ (World.drew (w.alloc (.cells #[] 103))).heap.size) := ⟨by unfold maxLen; omega, by omega, by unfold maxLen; omega, by omega, by rw [hsz0]; omega⟩
  have HZ := Lib.hid hsz0; clear hsz0
  have HBW0 : Below w.heap.size w (World.drew (w.alloc (.cells #[] 103))) := ((Below.refl w.heap.size w).alloc (Nat.le_refl _) _).drew
  have HW0 := Lib.hid HBW0; clear HBW0
  have HA2 := Lib.hid (show ∀ t, (A.add t).block = b from C2.out.1)
  have a1 : w.cell? ⟨m, 1, none⟩ = some (.slice (some ⟨b, 0, none⟩) n cap) := H.out.blk.cell 1
  go_upto_region 3 with fail
  have s0 : (World.drew (w.alloc (.cells #[] 103))).cell? ⟨m, 1, none⟩ = some (.slice (some ⟨b, 0, none⟩) n cap) := (HW0.out.cell (p := ⟨m, 1, none⟩) hgl).trans a1
  have s00 : (World.drew w).cell? ⟨m, 1, none⟩ = some (.slice (some ⟨b, 0, none⟩) n cap) := a1
  go_region_law
    (first
      | (refine step_append_at rfl (.tmp 12) (.tmp 18) 93 rfl B 103 i0 (timerV timer0) 5 48 Tryd.underlying93 ei ez es eb rfl (by decide) (.slice (some ⟨w.heap.size, 0, none⟩) 0 0) 0 [] (by rfl) HO0.out ⟨b, 0, none⟩ j cap news1 (by rfl) L1.out C1a.out O1.out p1.out.1 p1.out.2.1 p1.out.2.2.2.2 (w.heap.size + 1) HZ.out ?_; intro v1 w1 hown1 hgrow1 hat1; have HB1 := Lib.hid (two_step1 HW0.out hgrow1); have s1 : w1.cell? ⟨m, 1, none⟩ = some (.slice (some ⟨b, 0, none⟩) n cap) := (HB1.out.cell (p := ⟨m, 1, none⟩) hgl).trans a1; have C2b := Lib.hid (two_step2 C2a.out hgrow1 HA2.out hbl); have HO1 := Lib.hid hown1; have HAT1 := Lib.hid (two_step3 hat1); clear hown1 hgrow1 hat1)
      | (refine step_append_at rfl (.tmp 19) (.tmp 26) 93 rfl B 103 i0 (timerV timer0) 5 48 Tryd.underlying93 ei ez es eb rfl (by decide) v1 (0 + j) ([] ++ news1) (by rfl) HO1.out A (n - (j + 1)) (cap - (j + 1)) news2 (by rfl) L2.out C2b.out O2.out p1.out.2.2.1 p1.out.2.2.2.1 (two_step4 HB1.out hB) w1.heap.size rfl ?_; intro v2 w2 hown2 hgrow2 hat2; have HB2 := Lib.hid (two_step5 HB1.out hgrow2 HAT1.out); have s2 : w2.cell? ⟨m, 1, none⟩ = some (.slice (some ⟨b, 0, none⟩) n cap) := (HB2.out.cell (p := ⟨m, 1, none⟩) hgl).trans a1; have f2 : w2.frozen? ⟨m, 1, none⟩ = false := (HB2.out.frozen (p := ⟨m, 1, none⟩) hgl).trans (H.out.blk.free 1); have HO2 := Lib.hid hown2; have HAT2 := Lib.hid (two_step6 hat2 HAT1.out HB1.out); obtain ⟨a2, c2, rfl⟩ := own_slice hown2; clear hown2 hgrow2 hat2))
  all_goals go_wp2_with fail
  all_goals go_ret
  all_goals
    have ho := HO2.out
    have hat := HAT2.out
    have hf := HF.out
    simp only [Nat.zero_add] at ho hat hf
    have h5 := ndrop_end H.out HB2.out ho hf.2 hf.1 hat
    exact ⟨by first | rfl | exact ret_bool (by simp), _, h5.1, HN.out ▸ (RGo.of_below HB0.out).trans h5.2⟩
end Go.Proofs.YtkidljiffeonjaaDoor

namespace Go.Proofs.YtkidljiffeonjaaDoor
open Go.RowKit
attribute [local go_sem] store_float

/-- the due ones among the first q, in order -/
def dpre (now : Nat) (L : List MTimer) (q : Nat) : List MTimer := tdue now (L.take q)
theorem dpre_all (now : Nat) (L : List MTimer) : dpre now L L.length = tdue now L := by unfold dpre; rw [List.take_length]
theorem dpre_yes (now : Nat) (L : List MTimer) (q : Nat) (h : q < L.length) (hd : L[q].at_ ≤ now) : dpre now L (q + 1) = tins L[q] (dpre now L q) := by
  unfold dpre tdue
  rw [List.take_succ_eq_append_getElem h, List.filter_append, List.foldl_append]
  simp [hd]
theorem dpre_no (now : Nat) (L : List MTimer) (q : Nat) (h : q < L.length) (hd : ¬ L[q].at_ ≤ now) : dpre now L (q + 1) = dpre now L q := by
  unfold dpre tdue
  rw [List.take_succ_eq_append_getElem h, List.filter_append, List.foldl_append]
  have : decide (L[q].at_ ≤ now) = false := decide_eq_false hd
  simp [List.filter_cons, this]
theorem dpre_len (now : Nat) (L : List MTimer) (hL : TApart L) (q : Nat) : (dpre now L q).length ≤ q := by
  have := (tdue_spec now (L := L.take q) (hL.sublist (List.take_sublist q L))).2.length_eq
  unfold dpre
  rw [this]
  exact Nat.le_trans (List.length_filter_le _ _) (by rw [List.length_take]; omega)
theorem dpre_mem (now : Nat) (L : List MTimer) (hL : TApart L) (q : Nat) : ∀ t ∈ dpre now L q, t ∈ L := fun t ht => by
  have := (tdue_spec now (L := L.take q) (hL.sublist (List.take_sublist q L))).2.mem_iff.1 ht
  exact List.mem_of_mem_take (List.mem_filter.1 this).1
theorem dpre_sorted (now : Nat) (L : List MTimer) (hL : TApart L) (q : Nat) : TSorted (dpre now L q) := (tdue_spec now (L := L.take q) (hL.sublist (List.take_sublist q L))).1
/-- where a timer is put in -/
theorem tins_at (t : MTimer) : ∀ (S : List MTimer) (k : Nat), TSorted S → k ≤ S.length → (∀ i (h : i < S.length), k ≤ i → tlt t S[i] = true) → (k = 0 ∨ ∃ h : k - 1 < S.length, tlt t S[k - 1] = false) → tins t S = S.take k ++ t :: S.drop k
  | [], k, _, hk, _, _ => by
    have : k = 0 := by simpa using hk
    subst this; rfl
  | u :: r, 0, _, _, h1, _ => by
    have := h1 0 (by simp) (Nat.le_refl _)
    simp only [List.getElem_cons_zero] at this
    unfold tins; rw [if_pos this]; rfl
  | u :: r, k + 1, hs, hk, h1, h2 => by
    obtain ⟨s1, s2⟩ := List.pairwise_cons.1 hs
    have hk' : k ≤ r.length := by simpa using hk
    have hlast : tlt t (u :: r)[k] = false ∧ k < (u :: r).length := by
      rcases h2 with h2 | ⟨h, e⟩
      · omega
      · exact ⟨by simpa using e, by simpa using h⟩
    have hu : tlt t u = false := by
      cases hc : tlt t u
      · rfl
      · exfalso
        cases k with
        | zero => have := hlast.1; simp only [List.getElem_cons_zero] at this; rw [hc] at this; cases this
        | succ k =>
          have hkr : k < r.length := by have := hlast.2; simp at this; omega
          have := hlast.1
          simp only [List.getElem_cons_succ] at this
          rw [tlt_trans hc (s1 _ (List.getElem_mem hkr))] at this
          cases this
    unfold tins
    rw [if_neg (by rw [hu]; simp)]
    rw [tins_at t r k s2 hk' (fun i h hi => by have := h1 (i + 1) (by simp; omega) (by omega); simpa using this) (by
      cases k with
      | zero => exact .inl rfl
      | succ k =>
        have hkr : k < r.length := by have := hlast.2; simp at this; omega
        exact .inr ⟨by simpa using hkr, by have := hlast.1; simpa using this⟩)]
    rfl
/-- the shifted row -/
theorem shift_row (S : List MTimer) (j : Nat) (x : MTimer) (h : j < S.length) : (S.take (j + 1) ++ x :: S.drop (j + 1)).set (j + 1) S[j] = S.take j ++ S[j] :: S.drop j := by
  have hl : (S.take (j + 1)).length = j + 1 := by rw [List.length_take]; omega
  rw [List.set_append_right _ _ (by omega), hl, Nat.sub_self, List.set_cons_zero, List.take_succ_eq_append_getElem h, List.append_assoc]
  congr 1
  rw [List.drop_eq_getElem_cons h]; rfl
theorem put_row (S : List MTimer) (k : Nat) (x t : MTimer) (h : k ≤ S.length) : (S.take k ++ x :: S.drop k).set k t = S.take k ++ t :: S.drop k := by
  have hl : (S.take k).length = k := by rw [List.length_take]; omega
  rw [List.set_append_right _ _ (by omega), hl, Nat.sub_self, List.set_cons_zero]
theorem shift_at (S : List MTimer) (j : Nat) (x : MTimer) (h : j < S.length) (k : Nat) (hk : j < k) (hk2 : k ≤ S.length) : (S.take k ++ x :: S.drop k)[j]? = some S[j] := by
  rw [List.getElem?_append_left (by rw [List.length_take]; omega), List.getElem?_take, if_pos hk, List.getElem?_eq_getElem h]
theorem shift_len (S : List MTimer) (k : Nat) (x : MTimer) (h : k ≤ S.length) : (S.take k ++ x :: S.drop k).length = S.length + 1 := by
  rw [List.length_append, List.length_take, List.length_cons, List.length_drop]; omega
end Go.Proofs.YtkidljiffeonjaaDoor

namespace Go.Proofs.YtkidljiffeonjaaDoor
open Go.RowKit
attribute [local go_sem] store_float

theorem fcp_cases (a b : Nat) : ∃ z : Int, fcp (a : Int) (b : Int) = z ∧ (z = -1 ∧ a < b ∨ z = 0 ∧ a = b ∨ z = 1 ∧ b < a) := by
  refine ⟨_, rfl, ?_⟩
  unfold fcp
  rcases Nat.lt_trichotomy a b with h | h | h
  · rw [if_pos (by omega)]; exact .inl ⟨rfl, h⟩
  · rw [if_neg (by omega), if_neg (by omega)]; exact .inr (.inl ⟨rfl, h⟩)
  · rw [if_neg (by omega), if_pos (by omega)]; exact .inr (.inr ⟨rfl, h⟩)
set_option maxRecDepth 100000 in
set_option maxHeartbeats 8000000 in
theorem rdue_of (B m now : Nat) (v : Value) (L : List MTimer) (w : World) (h : RefAt B m v now L w) (hl : L.length ≤ 64) (hap : TApart L) (hn : now ≤ 9218868437227405312) (hg : ∀ t ∈ L, t.at_ ≤ 9218868437227405312) :
    Calls Tryd.prog 45 #[.pointer (some ⟨m, 0, none⟩)] w (MakesKeys ((tdue now L).map (·.key)) w) := by
  have h1 : w.cell? ⟨m, 1, none⟩ = some v := h.blk.cell 1
  have hml := h.blk.lt
  have HKe := Lib.hid (fun wr (hB : Below w.heap.size w wr) => (h.below hB).blk.cell 0)
  obtain ⟨a, cap, rfl⟩ := h.form
  have HR : Hid (L ≠ [] → ∃ g, a = some ⟨g, 0, none⟩ ∧ RowT w g L ∧ g < w.heap.size) := Lib.hid (fun hne => by
    obtain ⟨g, cap', e, r1, r2, _⟩ := h.row hne
    simp only [Value.slice.injEq] at e
    exact ⟨g, e.1, r1, r2⟩)
  have HO := Lib.hid (fun x y (h1 : x ≤ 9218868437227405312) (h2 : y ≤ 9218868437227405312) W => (forder_le x y h1 h2) ▸ rorder_of x y (delay_of_le x h1).1 (delay_of_le y h2).1 W)
  have HNow := Lib.hid hn
  have HG := Lib.hid hg
  have HAp := Lib.hid hap
  obtain ⟨ks, hks⟩ : ∃ ks, ks = (tdue now L).map (·.key) := ⟨_, rfl⟩
  rw [← hks]
  have HK := Lib.hid hks
  obtain ⟨n, hnn⟩ : ∃ n, n = L.length := ⟨_, rfl⟩
  rw [← hnn] at h1 hl
  have HN := Lib.hid hnn
  clear h hn hg hap hks hnn
  obtain ⟨i0, ei, ez, es, eb⟩ := info_parts infoRT
  obtain ⟨j0, di, dz, ds, db⟩ := info_parts infoStr
  go_enter Tryd.func45, Tryd.ntmps45
  have hown0 : (w.alloc (.cells #[] 103)).ownsRow w.heap.size 103 5 (.slice (some ⟨w.heap.size, 0, none⟩) 0 0) 0 [] := World.ownsRow_lit w #[] 0 (Nat.le_refl _) (by decide) rfl
  have HO0 := Lib.hid hown0
  have h1a := fun o => (((Below.refl w.heap.size w).alloc (Nat.le_refl _) o).cell (p := ⟨m, 1, none⟩) hml).trans h1
  clear hown0
  go_wp2_with fail
  clear h1 h1a
  go_loopw [3, 16] (fun v i wr => ∃ q : Nat, q ≤ n ∧ i = .int .i64 q ∧ wr.ownsRow w.heap.size 103 5 v (dpre now L q).length (rowC (dpre now L q)) ∧ Below w.heap.size w wr) (fun _ i _ => n - (intOf i).toNat)
  case atStart => exact ⟨0, by omega, rfl, HO0.out, (Below.refl _ _).alloc (Nat.le_refl _) _⟩
  case round =>
    obtain ⟨q, hq, rfl, hrow, hB⟩ := hrel
    have hzB := hB.size
    by_cases hlt : q < n
    · have hlt' : q < L.length := by rw [← HN.out]; exact hlt
      obtain ⟨g, rfl, hr, hgl⟩ := HR.out (by intro e; rw [e] at hlt'; simp at hlt')
      obtain ⟨c0, c1, c2, c3, c4⟩ := (hr.below hgl hB).five q hlt'
      have hat := HG.out _ (List.getElem_mem hlt')
      have HAt := Lib.hid hat
      have hYes := fun hd => dpre_yes now L q hlt' hd
      have hNo := fun hd => dpre_no now L q hlt' hd
      have hlen := dpre_len now L HAp.out q
      have HMs := Lib.hid (fun t ht => HG.out t (dpre_mem now L HAp.out q t ht))
      have HSo := Lib.hid (dpre_sorted now L HAp.out q)
      obtain ⟨z, hz, hz2⟩ := fcp_cases L[q].at_ now
      have hF := HO.out L[q].at_ now hat HNow.out
      rw [hz] at hF
      have HF := Lib.hid hF
      have HYes := Lib.hid hYes; have HNo := Lib.hid hNo
      clear hF hz hr hYes hNo hat
      generalize L[q] = t at *
      have q0 := HKe.out _ (hB.alloc hzB (.cells #[.string t.key, .float .f64 t.at_, .int .i64 t.times, .float .f64 t.base, .float .f64 t.most] 103))
      by_cases hdue : t.at_ ≤ now
      · have hzc : decide (0 < z) = false := decide_eq_false (by rcases hz2 with ⟨rfl, _⟩ | ⟨rfl, _⟩ | ⟨rfl, h⟩ <;> omega)
        have hS := HYes.out hdue
        have HS2 := Lib.hid hS
        clear hz2 hdue hS HYes HNo
        go_upto_region 5 with fail
        go_quiet ((go_at_call 54; exact Calls.quiet_of_same ((HF.out _).mono fun e w' h => ⟨h.1, h.2.symm⟩)))
        obtain ⟨W4, hW4⟩ : ∃ W4, W4 = (wr.alloc (.cells #[.string t.key, .float .f64 t.at_, .int .i64 t.times, .float .f64 t.base, .float .f64 t.most] 103)).drewN nq := ⟨_, rfl⟩
        rw [← hW4]
        have hgA : wr.grownBy W4 none := by
          have h := World.grownBy_alloc wr (.cells #[.string t.key, .float .f64 t.at_, .int .i64 t.times, .float .f64 t.base, .float .f64 t.most] 103) none
          subst hW4
          exact ⟨h.os, h.tape, h.output, h.size, h.block⟩
        have hz4 : wr.heap.size + 1 ≤ W4.heap.size := by subst hW4; simp [World.drewN]
        have hB5 : Blk W4 wr.heap.size #[.string t.key, .float .f64 t.at_, .int .i64 t.times, .float .f64 t.base, .float .f64 t.most] := by
          have hb := Blk.fresh wr #[.string t.key, .float .f64 t.at_, .int .i64 t.times, .float .f64 t.base, .float .f64 t.most] 103 wr.heap.size rfl
          subst hW4
          exact ⟨hb.lt, hb.cell, hb.free⟩
        have hrow4 := hrow.kept hgA (by cases u3.ownBlock <;> simp)
        have hB4 := hB.grown hgA hzB (fun k hk => by cases hk)
        have hne3 : u3.ownBlock ≠ some wr.heap.size := fun e => by have := (hrow.lt _ e).2; omega
        have q5 := hB5.cell
        have HB5 := Lib.hid hB5
        have HB4 := Lib.hid hB4
        obtain ⟨a3, cap3, rfl⟩ := own_slice hrow4
        generalize dpre now L q = S at *
        clear hW4 hgA hrow q0 hB c0 c1 c2 c3 c4 hzc hB5 hB4
        go_wp2_with (at_builtin; go_loud (refine wpList_append_own_at _ rfl _ _ 93 rfl w.heap.size 103 i0 (timerV timer0) 5 48 Tryd.underlying93 ei ez es eb rfl (by decide) _ _ _ rfl (hrow4.alloc _) ⟨W4.heap.size, 0, none⟩ 1 1 (cells5 t) rfl rfl (five_new _ _ _) (five_cells _) ?c3 ?c4 ?c5 ?_))
        case c3 => unfold maxLen; omega
        case c4 => omega
        case c5 => simp; omega
        · intro v2 w5 hown5 hgrow5 _ hat5
          have hgrow5 : W4.grownBy w5 (Value.slice a3 S.length cap3).ownBlock := ⟨hgrow5.os, hgrow5.tape, hgrow5.output, Nat.le_trans (by simp) hgrow5.size, fun k hk hr => (hgrow5.block k (by simp; omega) hr).trans (World.grownBy_alloc W4 _ none |>.block k hk (by simp))⟩
          have HB6 := Lib.hid (HB5.out.keep hgrow5.size (hgrow5.block _ HB5.out.lt (fun e => hne3 e.symm)))
          have hB6 : Below w.heap.size w w5 := HB4.out.grown hgrow5 (by omega) (fun k hk => (hrow4.lt k hk).1)
          have hne6 : v2.ownBlock ≠ some wr.heap.size := by
            rcases hat5 with e | e
            · rw [e]; exact hne3
            · rw [e]; intro e2; injection e2 with e2; omega
          have HB6b := Lib.hid hB6
          have hapd : rowC S ++ cells5 t = rowC (S ++ [t]) := (rowC_append S t).symm
          rw [hapd] at hown5
          have hown6 : w5.ownsRow w.heap.size 103 5 v2 (S.length + 1) (rowC (S ++ [t])) := hown5
          obtain ⟨g2, cap2, rfl, hg2, hg2l⟩ := hown6.form (by omega)
          have hpg : wr.heap.size ≠ g2 := fun e => hne6 (by rw [e]; rfl)
          have HO6 := Lib.hid hown6
          have hsl : S.length ≤ 64 := by omega
          have hcs := HB6.out.cell
          clear hown5 hown6 hgrow5 hat5 hrow4 q5 hapd hne3 hne6 hB6
          go_upto_region 8 with fail
          go_loopw [6] (fun kv ws => ∃ (kk : Nat) (x : MTimer), kk ≤ S.length ∧ kv = .int .i64 kk ∧ ws.ownsRow w.heap.size 103 5 (.slice (some ⟨g2, 0, none⟩) (S.length + 1) cap2) (S.length + 1) (rowC (S.take kk ++ x :: S.drop kk)) ∧ Hid (∀ i (h : i < S.length), kk ≤ i → tlt t S[i] = true) ∧ w5.grownBy ws (some g2)) (fun kv _ => (intOf kv).toNat)
          case atStart => exact ⟨S.length, t, Nat.le_refl _, rfl, by rw [List.take_length, List.drop_length]; exact HO6.out, Lib.hid (fun i h hi => absurd hi (by omega)), ⟨rfl, rfl, rfl, Nat.le_refl _, fun _ _ _ => rfl⟩⟩
          case round =>
            clear hcs
            obtain ⟨kk, x, hkS, rfl, hrw, HT, hgr⟩ := hrel
            cases kk with
            | zero =>
              have q6 := (HB6.out.keep hgr.size (hgr.block _ HB6.out.lt (fun e => hpg (by injection e)))).cell
              go_upto_region 8 with fail
              go_quiet (fail)
              obtain ⟨W7, hW7⟩ : ∃ W7, W7 = wr.drewN nq := ⟨_, rfl⟩
              rw [← hW7]
              have hW7own : W7.ownsRow w.heap.size 103 5 (.slice (some ⟨g2, 0, none⟩) (S.length + 1) cap2) (S.length + 1) (rowC (S.take 0 ++ x :: S.drop 0)) := by subst hW7; exact hrw
              have hgr7 : w5.grownBy W7 (some g2) := by subst hW7; exact ⟨hgr.os, hgr.tape, hgr.output, hgr.size, hgr.block⟩
              have hB7 : Below w.heap.size w W7 := HB6b.out.grown hgr7 HB6b.out.size (fun k hk => by injection hk with hk; omega)
              have q7 := (HB6.out.keep hgr7.size (hgr7.block _ HB6.out.lt (fun e => hpg (by injection e)))).cell
              have hr7 : RowT W7 g2 (S.take 0 ++ x :: S.drop 0) := row_own (by rw [shift_len S 0 x hkS]; exact hW7own)
              have hfr7 := hW7own.frozenAt
              clear q6 hrw hgr
              obtain ⟨e0, e1, e2, e3, e4⟩ := hr7.five 0 (by rw [shift_len S 0 x hkS]; omega)
              simp only [Nat.zero_mul, Nat.zero_add] at e0 e1 e2 e3 e4
              clear hr7 hW7
              have hown9 := five_own hW7own 0 t (by rw [shift_len S 0 x hkS]; omega)
              have hput := put_row S 0 x t hkS
              rw [hput, ← tins_at t S 0 HSo.out hkS HT.out (.inl rfl), ← HS2.out] at hown9
              have HO9 := Lib.hid hown9
              have hl9 : (dpre now L (q + 1)).length = S.length + 1 := by rw [HS2.out, (tins_perm t S).length_eq]; rfl
              have Hl9 := Lib.hid hl9
              have HB9 := Lib.hid (hB7.grown hown9.2 hB7.size (fun k hk => by injection hk with hk; omega))
              clear hown9 hput hl9
              go_wp2_with fail
              go_roundw
              case rel => exact ⟨q + 1, by omega, by go_num, by rw [Hl9.out]; have := HO9.out.1; unfold World.five at this; exact this, by have := HB9.out; unfold World.five at this; exact this⟩
              case measure => simp [intOf]; omega
            | succ j =>
              have hj : j < S.length := by omega
              have hrw2 : wr.ownsRow w.heap.size 103 5 (.slice (some ⟨g2, 0, none⟩) (S.take (j + 1) ++ x :: S.drop (j + 1)).length cap2) (S.take (j + 1) ++ x :: S.drop (j + 1)).length (rowC (S.take (j + 1) ++ x :: S.drop (j + 1))) := by rw [shift_len S (j + 1) x hkS]; exact hrw
              have hjl : j < (S.take (j + 1) ++ x :: S.drop (j + 1)).length := by rw [shift_len S (j + 1) x hkS]; omega
              have hjl2 : j + 1 < (S.take (j + 1) ++ x :: S.drop (j + 1)).length := by rw [shift_len S (j + 1) x hkS]; omega
              have hSj : (S.take (j + 1) ++ x :: S.drop (j + 1))[j] = S[j] := by
                have := shift_at S j x hj (j + 1) (by omega) hkS
                rw [List.getElem?_eq_getElem hjl] at this
                exact Option.some.inj this
              have q6 := (HB6.out.keep hgr.size (hgr.block _ HB6.out.lt (fun e => hpg (by injection e)))).cell
              obtain ⟨d0, d1, d2, d3, d4⟩ := (row_own hrw2).five j hjl
              rw [hSj] at d0 d1 d2 d3 d4
              have hi1 : (0 : Int) ≤ (j : Int) + 1 := by omega
              have hi2 : (j : Int) + 1 < (S.length : Int) + 1 := by omega
              have hi3 : (j : Int) < (S.length : Int) + 1 := by omega
              have hi4 : (0 : Int) < (j : Int) + 1 := by omega
              have htn : ((j : Int) + 1).toNat = j + 1 := by omega
              have hat8 := HMs.out _ (List.getElem_mem hj)
              obtain ⟨z8, hz8, hz9⟩ := fcp_cases t.at_ S[j].at_
              have hF8 := HO.out t.at_ S[j].at_ HAt.out hat8
              rw [hz8] at hF8
              have HF8 := Lib.hid hF8
              have hsh := shift_row S j x hj
              have HSh := Lib.hid hsh
              clear hF8 hz8 hrw2 hSj hat8 hsh
              rcases hz9 with ⟨rfl, hd⟩ | ⟨rfl, hd⟩ | ⟨rfl, hd⟩
              · skip
                have hlt8 : tlt t S[j] = true := decide_eq_true (.inl hd)
                have HT2 : Hid (∀ i (h : i < S.length), j ≤ i → tlt t S[i] = true) := Lib.hid (fun i h hi => by
                  rcases Nat.lt_or_eq_of_le hi with h1 | h1
                  · exact HT.out i h h1
                  · subst h1; exact hlt8)
                clear hlt8 hd
                go_upto_region 8 with fail
                go_quiet ((go_at_call 54; exact Calls.quiet_of_same ((HF8.out _).mono fun e w' h => ⟨h.1, h.2.symm⟩)))
                obtain ⟨W7, hW7⟩ : ∃ W7, W7 = wr.drewN nq := ⟨_, rfl⟩
                rw [← hW7]
                have hW7own : W7.ownsRow w.heap.size 103 5 (.slice (some ⟨g2, 0, none⟩) (S.length + 1) cap2) (S.length + 1) (rowC (S.take (j + 1) ++ x :: S.drop (j + 1))) := by subst hW7; exact hrw
                have hgr7 : w5.grownBy W7 (some g2) := by subst hW7; exact ⟨hgr.os, hgr.tape, hgr.output, hgr.size, hgr.block⟩
                have hB7 : Below w.heap.size w W7 := HB6b.out.grown hgr7 HB6b.out.size (fun k hk => by injection hk with hk; omega)
                have q7 := (HB6.out.keep hgr7.size (hgr7.block _ HB6.out.lt (fun e => hpg (by injection e)))).cell
                have hr7 : RowT W7 g2 (S.take (j + 1) ++ x :: S.drop (j + 1)) := row_own (by rw [shift_len S (j + 1) x hkS]; exact hW7own)
                have hfr7 := hW7own.frozenAt
                have hd7 : ∀ a, W7.cell? a = wr.cell? a := fun a => by subst hW7; rfl
                have d0 := (hd7 _).trans d0; have d1 := (hd7 _).trans d1; have d2 := (hd7 _).trans d2; have d3 := (hd7 _).trans d3; have d4 := (hd7 _).trans d4
                obtain ⟨e0, e1, e2, e3, e4⟩ := hr7.five (j + 1) hjl2
                have h5 := five_own hW7own (j + 1) S[j] hjl2
                rw [HSh.out] at h5
                have H5 := Lib.hid h5
                have hgr8 := hgr7
                clear q6 q7 hrw hgr hr7 hW7 hW7own h5 hB7 hd7
                generalize S[j] = u at *
                go_wp2_with fail
                go_roundw
                case rel => exact ⟨j, u, by omega, by go_num, (by have := H5.out.1; unfold World.five at this; exact this), HT2, (by have := H5.out.2; unfold World.five at this; exact ⟨this.os.trans hgr8.os, this.tape.trans hgr8.tape, this.output.trans hgr8.output, Nat.le_trans hgr8.size this.size, fun k hk hne => (this.block k (Nat.lt_of_lt_of_le hk hgr8.size) hne).trans (hgr8.block k hk hne)⟩)⟩
                case measure => first | (simp [intOf]; done) | (simp [intOf]; omega)
              · cases hkl : Op.bytesLess t.key.toList S[j].key.toList
                · skip
                  have hlt8 : tlt t S[j] = false := decide_eq_false (by intro h; rcases h with h | ⟨_, h⟩; (exact absurd h (by omega)); (unfold klt at h; rw [hkl] at h; cases h))
                  have hjs : j + 1 - 1 < S.length ∧ True := ⟨by omega, trivial⟩
                  clear hd
                  go_upto_region 8 with fail
                  go_quiet ((go_at_call 54; exact Calls.quiet_of_same ((HF8.out _).mono fun e w' h => ⟨h.1, h.2.symm⟩)))
                  obtain ⟨W7, hW7⟩ : ∃ W7, W7 = wr.drewN nq := ⟨_, rfl⟩
                  rw [← hW7]
                  have hW7own : W7.ownsRow w.heap.size 103 5 (.slice (some ⟨g2, 0, none⟩) (S.length + 1) cap2) (S.length + 1) (rowC (S.take (j + 1) ++ x :: S.drop (j + 1))) := by subst hW7; exact hrw
                  have hgr7 : w5.grownBy W7 (some g2) := by subst hW7; exact ⟨hgr.os, hgr.tape, hgr.output, hgr.size, hgr.block⟩
                  have hB7 : Below w.heap.size w W7 := HB6b.out.grown hgr7 HB6b.out.size (fun k hk => by injection hk with hk; omega)
                  have q7 := (HB6.out.keep hgr7.size (hgr7.block _ HB6.out.lt (fun e => hpg (by injection e)))).cell
                  have hr7 : RowT W7 g2 (S.take (j + 1) ++ x :: S.drop (j + 1)) := row_own (by rw [shift_len S (j + 1) x hkS]; exact hW7own)
                  have hfr7 := hW7own.frozenAt
                  obtain ⟨e0, e1, e2, e3, e4⟩ := hr7.five (j + 1) hjl2
                  clear q6 hrw hgr hr7 hW7 d0 d1 d2 d3 d4
                  have hown9 := five_own hW7own (j + 1) t (by rw [shift_len S (j + 1) x hkS]; omega)
                  have hput := put_row S (j + 1) x t hkS
                  rw [hput, ← tins_at t S (j + 1) HSo.out hkS HT.out (.inr ⟨hjs.1, hlt8⟩), ← HS2.out] at hown9
                  have HO9 := Lib.hid hown9
                  have hl9 : (dpre now L (q + 1)).length = S.length + 1 := by rw [HS2.out, (tins_perm t S).length_eq]; rfl
                  have Hl9 := Lib.hid hl9
                  have HB9 := Lib.hid (hB7.grown hown9.2 hB7.size (fun k hk => by injection hk with hk; omega))
                  clear hown9 hput hl9
                  go_wp2_with fail
                  go_roundw
                  case rel => exact ⟨q + 1, by omega, by go_num, by rw [Hl9.out]; have := HO9.out.1; unfold World.five at this; exact this, by have := HB9.out; unfold World.five at this; exact this⟩
                  case measure => simp [intOf]; omega
                · skip
                  have hlt8 : tlt t S[j] = true := decide_eq_true (.inr ⟨hd, hkl⟩)
                  have HT2 : Hid (∀ i (h : i < S.length), j ≤ i → tlt t S[i] = true) := Lib.hid (fun i h hi => by
                    rcases Nat.lt_or_eq_of_le hi with h1 | h1
                    · exact HT.out i h h1
                    · subst h1; exact hlt8)
                  clear hlt8 hd
                  go_upto_region 8 with fail
                  go_quiet ((go_at_call 54; exact Calls.quiet_of_same ((HF8.out _).mono fun e w' h => ⟨h.1, h.2.symm⟩)))
                  obtain ⟨W7, hW7⟩ : ∃ W7, W7 = wr.drewN nq := ⟨_, rfl⟩
                  rw [← hW7]
                  have hW7own : W7.ownsRow w.heap.size 103 5 (.slice (some ⟨g2, 0, none⟩) (S.length + 1) cap2) (S.length + 1) (rowC (S.take (j + 1) ++ x :: S.drop (j + 1))) := by subst hW7; exact hrw
                  have hgr7 : w5.grownBy W7 (some g2) := by subst hW7; exact ⟨hgr.os, hgr.tape, hgr.output, hgr.size, hgr.block⟩
                  have hB7 : Below w.heap.size w W7 := HB6b.out.grown hgr7 HB6b.out.size (fun k hk => by injection hk with hk; omega)
                  have q7 := (HB6.out.keep hgr7.size (hgr7.block _ HB6.out.lt (fun e => hpg (by injection e)))).cell
                  have hr7 : RowT W7 g2 (S.take (j + 1) ++ x :: S.drop (j + 1)) := row_own (by rw [shift_len S (j + 1) x hkS]; exact hW7own)
                  have hfr7 := hW7own.frozenAt
                  have hd7 : ∀ a, W7.cell? a = wr.cell? a := fun a => by subst hW7; rfl
                  have d0 := (hd7 _).trans d0; have d1 := (hd7 _).trans d1; have d2 := (hd7 _).trans d2; have d3 := (hd7 _).trans d3; have d4 := (hd7 _).trans d4
                  obtain ⟨e0, e1, e2, e3, e4⟩ := hr7.five (j + 1) hjl2
                  have h5 := five_own hW7own (j + 1) S[j] hjl2
                  rw [HSh.out] at h5
                  have H5 := Lib.hid h5
                  have hgr8 := hgr7
                  clear q6 q7 hrw hgr hr7 hW7 hW7own h5 hB7 hd7
                  generalize S[j] = u at *
                  go_wp2_with fail
                  go_roundw
                  case rel => exact ⟨j, u, by omega, by go_num, (by have := H5.out.1; unfold World.five at this; exact this), HT2, (by have := H5.out.2; unfold World.five at this; exact ⟨this.os.trans hgr8.os, this.tape.trans hgr8.tape, this.output.trans hgr8.output, Nat.le_trans hgr8.size this.size, fun k hk hne => (this.block k (Nat.lt_of_lt_of_le hk hgr8.size) hne).trans (hgr8.block k hk hne)⟩)⟩
                  case measure => first | (simp [intOf]; done) | (simp [intOf]; omega)
              · skip
                have hlt8 : tlt t S[j] = false := decide_eq_false (by intro h; rcases h with h | ⟨h, _⟩ <;> omega)
                have hjs : j + 1 - 1 < S.length ∧ True := ⟨by omega, trivial⟩
                clear hd
                go_upto_region 8 with fail
                go_quiet ((go_at_call 54; exact Calls.quiet_of_same ((HF8.out _).mono fun e w' h => ⟨h.1, h.2.symm⟩)))
                obtain ⟨W7, hW7⟩ : ∃ W7, W7 = wr.drewN nq := ⟨_, rfl⟩
                rw [← hW7]
                have hW7own : W7.ownsRow w.heap.size 103 5 (.slice (some ⟨g2, 0, none⟩) (S.length + 1) cap2) (S.length + 1) (rowC (S.take (j + 1) ++ x :: S.drop (j + 1))) := by subst hW7; exact hrw
                have hgr7 : w5.grownBy W7 (some g2) := by subst hW7; exact ⟨hgr.os, hgr.tape, hgr.output, hgr.size, hgr.block⟩
                have hB7 : Below w.heap.size w W7 := HB6b.out.grown hgr7 HB6b.out.size (fun k hk => by injection hk with hk; omega)
                have q7 := (HB6.out.keep hgr7.size (hgr7.block _ HB6.out.lt (fun e => hpg (by injection e)))).cell
                have hr7 : RowT W7 g2 (S.take (j + 1) ++ x :: S.drop (j + 1)) := row_own (by rw [shift_len S (j + 1) x hkS]; exact hW7own)
                have hfr7 := hW7own.frozenAt
                obtain ⟨e0, e1, e2, e3, e4⟩ := hr7.five (j + 1) hjl2
                clear q6 hrw hgr hr7 hW7 d0 d1 d2 d3 d4
                have hown9 := five_own hW7own (j + 1) t (by rw [shift_len S (j + 1) x hkS]; omega)
                have hput := put_row S (j + 1) x t hkS
                rw [hput, ← tins_at t S (j + 1) HSo.out hkS HT.out (.inr ⟨hjs.1, hlt8⟩), ← HS2.out] at hown9
                have HO9 := Lib.hid hown9
                have hl9 : (dpre now L (q + 1)).length = S.length + 1 := by rw [HS2.out, (tins_perm t S).length_eq]; rfl
                have Hl9 := Lib.hid hl9
                have HB9 := Lib.hid (hB7.grown hown9.2 hB7.size (fun k hk => by injection hk with hk; omega))
                clear hown9 hput hl9
                go_wp2_with fail
                go_roundw
                case rel => exact ⟨q + 1, by omega, by go_num, by rw [Hl9.out]; have := HO9.out.1; unfold World.five at this; exact this, by have := HB9.out; unfold World.five at this; exact this⟩
                case measure => simp [intOf]; omega
      · obtain rfl : z = 1 := by rcases hz2 with ⟨_, h⟩ | ⟨_, h⟩ | ⟨e, _⟩; (exact absurd h (by omega)); (exact absurd h (by omega)); exact e
        have hd := hdue
        clear hz2
        have hS := HNo.out (by omega)
        rw [← hS] at hrow
        clear hd hS hdue
        go_upto_region 5 with fail
        go_quiet ((go_at_call 54; exact Calls.quiet_of_same ((HF.out _).mono fun e w' h => ⟨h.1, h.2.symm⟩)))
        obtain ⟨W4, hW4⟩ : ∃ W4, W4 = (wr.alloc (.cells #[.string t.key, .float .f64 t.at_, .int .i64 t.times, .float .f64 t.base, .float .f64 t.most] 103)).drewN nq := ⟨_, rfl⟩
        rw [← hW4]
        have hgA : wr.grownBy W4 none := by
          have h := World.grownBy_alloc wr (.cells #[.string t.key, .float .f64 t.at_, .int .i64 t.times, .float .f64 t.base, .float .f64 t.most] 103) none
          subst hW4
          exact ⟨h.os, h.tape, h.output, h.size, h.block⟩
        have hrow4 := hrow.kept hgA (by cases u3.ownBlock <;> simp)
        have hB4 := hB.grown hgA hzB (fun k hk => by cases hk)
        clear hW4 hgA hrow q0 hB c0 c1 c2 c3 c4
        go_wp2_with fail
        go_roundw
        case rel => exact ⟨q + 1, by omega, by go_num, hrow4, hB4⟩
        case measure => simp [intOf]; omega
    · obtain rfl : q = n := by omega
      have hall : dpre now L q = tdue now L := by rw [HN.out]; exact dpre_all now L
      have hlen : (tdue now L).length ≤ 64 := by have := dpre_len now L HAp.out q; rw [hall] at this; omega
      rw [hall] at hrow
      have HKs : Hid (ks = (tdue now L).map (·.key)) := Lib.hid HK.out
      clear hall HK HO0 hlt
      generalize tdue now L = ts at *
      have HCs : Hid (ts ≠ [] → ∃ g cap3, u3 = .slice (some ⟨g, 0, none⟩) ts.length cap3 ∧ g < wr.heap.size ∧ RowT wr g ts) := Lib.hid (fun hne => by
        have ho := hrow
        rcases hrow.2 with ⟨_, h0⟩ | ⟨g, cap3, cur, rfl, _⟩
        · exact absurd (List.length_eq_zero_iff.1 h0) hne
        · exact ⟨g, cap3, rfl, (ho.lt g rfl).2, row_own ho⟩)
      obtain ⟨a3, cap3, rfl⟩ := own_slice hrow
      obtain ⟨nn, hn⟩ : ∃ nn, nn = ts.length := ⟨_, rfl⟩
      rw [← hn] at hlen ⊢
      have HNn := Lib.hid hn
      have hout : (wr.alloc (.cells #[] 9)).ownsRow wr.heap.size 9 1 (.slice (some ⟨wr.heap.size, 0, none⟩) 0 0) 0 [] := World.ownsRow_lit wr #[] 0 (Nat.le_refl _) (by decide) rfl
      have HOu := Lib.hid hout
      clear hn hrow hout
      obtain ⟨wq, hwq⟩ : ∃ wq, wq = wr := ⟨_, rfl⟩
      subst hwq
      go_wp2_with fail
      go_loopw [7, 89] (fun v i ws => ∃ k : Nat, k ≤ nn ∧ i = .int .i64 k ∧ ws.ownsRow wq.heap.size 9 1 v k ((ts.map fun t => Value.string t.key).take k) ∧ Below wq.heap.size wq ws) (fun _ i _ => nn - (intOf i).toNat)
      case atStart => exact ⟨0, by omega, rfl, HOu.out, (Below.refl _ _).alloc (Nat.le_refl _) _⟩
      case round =>
        obtain ⟨k, hk, rfl, hrow, hBs⟩ := hrel
        have hzBs := hBs.size
        by_cases hlt : k < nn
        · have hlt' : k < ts.length := by rw [← HNn.out]; exact hlt
          obtain ⟨g3, cap4, e4, hg3, hr3⟩ := HCs.out (by intro e; rw [e] at hlt'; simp at hlt')
          simp only [Value.slice.injEq] at e4
          obtain ⟨rfl, -, rfl⟩ := e4
          obtain ⟨c0, c1, c2, c3, c4⟩ := (hr3.below hg3 hBs).five k hlt'
          have htake : (ts.map fun t => Value.string t.key).take (k + 1) = (ts.map fun t => Value.string t.key).take k ++ [.string ts[k].key] := by
            rw [List.take_succ_eq_append_getElem (by simpa using hlt'), List.getElem_map]
          have HTk := Lib.hid htake
          clear htake hr3
          generalize ts[k] = t at *
          go_wp2_with (at_builtin; go_loud (refine wpList_append_own _ rfl _ _ 76 rfl wq.heap.size 9 j0 (.string ByteArray.empty) 1 16 Tryd.underlying76 di dz ds db rfl (by decide) _ _ _ rfl ((hrow.alloc _).alloc _) ⟨wr.heap.size + 1, 0, none⟩ 1 1 [.string t.key] rfl rfl ?c1 ?c2 ?c3 ?c4 ?c5 ?_))
          case c1 =>
            intro j u hj
            match j, hj with
            | 0, hj => simp at hj; subst hj; simp [Addr.add]
          case c2 => intro u hu; simp at hu; subst hu; rfl
          case c3 => unfold maxLen; omega
          case c4 => omega
          case c5 => simp; omega
          · intro v' w3 hown' hgrow _
            have hB' : Below wq.heap.size wq w3 := ((hBs.alloc hzBs _).alloc (by simp; omega) _).grown hgrow (by simp; omega) (fun k hk => (hrow.lt k hk).1)
            have hown2 : w3.ownsRow wq.heap.size 9 1 v' (k + 1) ((ts.map fun t => Value.string t.key).take (k + 1)) := by
              rw [HTk.out]
              exact hown'
            clear hown' hgrow hrow c0 c1 c2 c3 c4
            go_wp2_with fail
            go_roundw
            case rel => exact ⟨k + 1, by omega, by go_num, hown2, hB'⟩
            case measure => simp [intOf]; omega
        · obtain rfl : k = nn := by omega
          have e1 : (ts.map fun t => Value.string t.key).take k = ts.map fun t => Value.string t.key := List.take_of_length_le (by rw [List.length_map, ← HNn.out]; exact Nat.le_refl _)
          rw [e1] at hrow
          go_wp2_with fail
          go_ret
          refine ⟨_, rfl, ?_, below_then hB hBs⟩
          rw [HKs.out, List.length_map, List.map_map, ← HNn.out]
          exact World.ownsRow.mono hrow hB.size
end Go.Proofs.YtkidljiffeonjaaDoor

namespace Go.Proofs.YtkidljiffeonjaaDoor
open Go.RowKit
attribute [local go_sem] store_float

set_option maxRecDepth 100000 in
set_option maxHeartbeats 4000000 in
theorem step_tick (c m : Nat) (k : ByteArray) (x y : Nat) (ev : Value) (n : Int) (J0 J1 J2 : World → Prop) (w : World) (h0 : J0 (w.alloc (.cells #[Value.int .i64 1, Value.string k, .float .f64 x, .float .f64 y] 97)).drew)
    (q0 : ∀ W, J0 W → ∀ i, W.cell? ⟨w.heap.size, i, none⟩ = #[Value.int .i64 1, Value.string k, .float .f64 x, .float .f64 y][i]?) (q1 : ∀ W, J1 W → ∀ i, W.cell? ⟨w.heap.size, i, none⟩ = #[Value.int .i64 1, Value.string k, .float .f64 x, .float .f64 y][i]?) (q2 : ∀ W, J2 W → ∀ i, W.cell? ⟨w.heap.size, i, none⟩ = #[Value.int .i64 1, Value.string k, .float .f64 x, .float .f64 y][i]?)
    (hA : ∀ W, J0 W → Calls Tryd.prog 34 #[.pointer (some ⟨c, 0, none⟩), flV x] W fun e w' => e = .returned ev ∧ J1 w') (hN : ∀ W, J1 W → Calls Tryd.prog 13 #[ev] W fun e w' => e = .returned (.int .i64 n) ∧ J1 w') (hR : ∀ W, J1 W → Calls Tryd.prog 81 #[.pointer (some ⟨m, 0, none⟩), flV x] W fun e w' => e = .returned (.int .i64 n) ∧ J2 w') :
    Calls Tryd.prog 42 #[.pointer (some ⟨c, 0, none⟩), .pointer (some ⟨m, 0, none⟩), .agg #[Value.int .i64 1, Value.string k, .float .f64 x, .float .f64 y]] w fun e w' => e = .returned (.bool true) ∧ J2 w' := by
  have HA := Lib.hid hA; have HR := Lib.hid hR; have HN := Lib.hid hN
  have Q1 := Lib.hid q1; have Q2 := Lib.hid q2
  have HJ := Lib.hid h0
  have qo := q0 _ h0
  clear hA hR hN q0 q1 q2 h0
  go_enter Tryd.func42, Tryd.ntmps42
  go_wp2_with fail
  go_region_held3 (fun w' => w'.cell? ⟨w.heap.size, 1, none⟩ = some (.string k) ∧ w'.cell? ⟨w.heap.size, 2, none⟩ = some (.float .f64 x) ∧ w'.cell? ⟨w.heap.size, 3, none⟩ = some (.float .f64 y))
    (first | exact ⟨qo 1, qo 2, qo 3⟩ | go_keep | ((repeat' apply And.intro) <;> go_keep)) (first
    | (go_at_call 34; refine (HA.out _ HJ.out).mono ?_; rintro e w1 ⟨rfl, hj⟩; clear qo; have HJ := Lib.hid hj; have qo := Q1.out _ hj; clear hj)
    | (go_at_call 13; refine (HN.out _ HJ.out).mono ?_; rintro e w1 ⟨rfl, hj⟩; clear qo; have HJ := Lib.hid hj; have qo := Q1.out _ hj; clear hj)
    | (go_at_call 81; refine (HR.out _ HJ.out).mono ?_; rintro e w1 ⟨rfl, hj⟩; clear qo; have HJ := Lib.hid hj; have qo := Q2.out _ hj; clear hj))
  all_goals go_wp2_with fail
  all_goals go_ret
  all_goals exact ⟨by first | rfl | exact ret_bool (by simp), HJ.out⟩
set_option maxRecDepth 100000 in
set_option maxHeartbeats 4000000 in
theorem step_set (c m : Nat) (k : ByteArray) (x y : Nat) (ev : Value) (n : Int) (J0 J1 J2 : World → Prop) (w : World) (h0 : J0 (w.alloc (.cells #[Value.int .i64 2, Value.string k, .float .f64 x, .float .f64 y] 97)).drew)
    (q0 : ∀ W, J0 W → ∀ i, W.cell? ⟨w.heap.size, i, none⟩ = #[Value.int .i64 2, Value.string k, .float .f64 x, .float .f64 y][i]?) (q1 : ∀ W, J1 W → ∀ i, W.cell? ⟨w.heap.size, i, none⟩ = #[Value.int .i64 2, Value.string k, .float .f64 x, .float .f64 y][i]?) (q2 : ∀ W, J2 W → ∀ i, W.cell? ⟨w.heap.size, i, none⟩ = #[Value.int .i64 2, Value.string k, .float .f64 x, .float .f64 y][i]?)
    (hA : ∀ W, J0 W → Calls Tryd.prog 32 #[.pointer (some ⟨c, 0, none⟩), .string k, flV x, flV y] W fun e w' => e = .returned ev ∧ J1 w') (hN : ∀ W, J1 W → Calls Tryd.prog 13 #[ev] W fun e w' => e = .returned (.int .i64 n) ∧ J1 w') (hR : ∀ W, J1 W → Calls Tryd.prog 82 #[.pointer (some ⟨m, 0, none⟩), .string k, flV x, flV y] W fun e w' => e = .returned (.int .i64 n) ∧ J2 w') :
    Calls Tryd.prog 42 #[.pointer (some ⟨c, 0, none⟩), .pointer (some ⟨m, 0, none⟩), .agg #[Value.int .i64 2, Value.string k, .float .f64 x, .float .f64 y]] w fun e w' => e = .returned (.bool true) ∧ J2 w' := by
  have HA := Lib.hid hA; have HR := Lib.hid hR; have HN := Lib.hid hN
  have Q1 := Lib.hid q1; have Q2 := Lib.hid q2
  have HJ := Lib.hid h0
  have qo := q0 _ h0
  clear hA hR hN q0 q1 q2 h0
  go_enter Tryd.func42, Tryd.ntmps42
  go_wp2_with fail
  go_region_held3 (fun w' => w'.cell? ⟨w.heap.size, 1, none⟩ = some (.string k) ∧ w'.cell? ⟨w.heap.size, 2, none⟩ = some (.float .f64 x) ∧ w'.cell? ⟨w.heap.size, 3, none⟩ = some (.float .f64 y))
    (first | exact ⟨qo 1, qo 2, qo 3⟩ | go_keep | ((repeat' apply And.intro) <;> go_keep)) (first
    | (go_at_call 32; refine (HA.out _ HJ.out).mono ?_; rintro e w1 ⟨rfl, hj⟩; clear qo; have HJ := Lib.hid hj; have qo := Q1.out _ hj; clear hj)
    | (go_at_call 13; refine (HN.out _ HJ.out).mono ?_; rintro e w1 ⟨rfl, hj⟩; clear qo; have HJ := Lib.hid hj; have qo := Q1.out _ hj; clear hj)
    | (go_at_call 82; refine (HR.out _ HJ.out).mono ?_; rintro e w1 ⟨rfl, hj⟩; clear qo; have HJ := Lib.hid hj; have qo := Q2.out _ hj; clear hj))
  all_goals go_wp2_with fail
  all_goals go_ret
  all_goals exact ⟨by first | rfl | exact ret_bool (by simp), HJ.out⟩
set_option maxRecDepth 100000 in
set_option maxHeartbeats 4000000 in
theorem step_again (c m : Nat) (k : ByteArray) (x y : Nat) (ev : Value) (n : Int) (J0 J1 J2 : World → Prop) (w : World) (h0 : J0 (w.alloc (.cells #[Value.int .i64 3, Value.string k, .float .f64 x, .float .f64 y] 97)).drew)
    (q0 : ∀ W, J0 W → ∀ i, W.cell? ⟨w.heap.size, i, none⟩ = #[Value.int .i64 3, Value.string k, .float .f64 x, .float .f64 y][i]?) (q1 : ∀ W, J1 W → ∀ i, W.cell? ⟨w.heap.size, i, none⟩ = #[Value.int .i64 3, Value.string k, .float .f64 x, .float .f64 y][i]?) (q2 : ∀ W, J2 W → ∀ i, W.cell? ⟨w.heap.size, i, none⟩ = #[Value.int .i64 3, Value.string k, .float .f64 x, .float .f64 y][i]?)
    (hA : ∀ W, J0 W → Calls Tryd.prog 39 #[.pointer (some ⟨c, 0, none⟩), .string k] W fun e w' => e = .returned ev ∧ J1 w') (hN : ∀ W, J1 W → Calls Tryd.prog 13 #[ev] W fun e w' => e = .returned (.int .i64 n) ∧ J1 w') (hR : ∀ W, J1 W → Calls Tryd.prog 83 #[.pointer (some ⟨m, 0, none⟩), .string k] W fun e w' => e = .returned (.int .i64 n) ∧ J2 w') :
    Calls Tryd.prog 42 #[.pointer (some ⟨c, 0, none⟩), .pointer (some ⟨m, 0, none⟩), .agg #[Value.int .i64 3, Value.string k, .float .f64 x, .float .f64 y]] w fun e w' => e = .returned (.bool true) ∧ J2 w' := by
  have HA := Lib.hid hA; have HR := Lib.hid hR; have HN := Lib.hid hN
  have Q1 := Lib.hid q1; have Q2 := Lib.hid q2
  have HJ := Lib.hid h0
  have qo := q0 _ h0
  clear hA hR hN q0 q1 q2 h0
  go_enter Tryd.func42, Tryd.ntmps42
  go_wp2_with fail
  go_region_held3 (fun w' => w'.cell? ⟨w.heap.size, 1, none⟩ = some (.string k) ∧ w'.cell? ⟨w.heap.size, 2, none⟩ = some (.float .f64 x) ∧ w'.cell? ⟨w.heap.size, 3, none⟩ = some (.float .f64 y))
    (first | exact ⟨qo 1, qo 2, qo 3⟩ | go_keep | ((repeat' apply And.intro) <;> go_keep)) (first
    | (go_at_call 39; refine (HA.out _ HJ.out).mono ?_; rintro e w1 ⟨rfl, hj⟩; clear qo; have HJ := Lib.hid hj; have qo := Q1.out _ hj; clear hj)
    | (go_at_call 13; refine (HN.out _ HJ.out).mono ?_; rintro e w1 ⟨rfl, hj⟩; clear qo; have HJ := Lib.hid hj; have qo := Q1.out _ hj; clear hj)
    | (go_at_call 83; refine (HR.out _ HJ.out).mono ?_; rintro e w1 ⟨rfl, hj⟩; clear qo; have HJ := Lib.hid hj; have qo := Q2.out _ hj; clear hj))
  all_goals go_wp2_with fail
  all_goals go_ret
  all_goals exact ⟨by first | rfl | exact ret_bool (by simp), HJ.out⟩
set_option maxRecDepth 100000 in
set_option maxHeartbeats 4000000 in
theorem step_drop (c m : Nat) (k : ByteArray) (x y : Nat) (n : Bool) (J0 J1 J2 : World → Prop) (w : World) (h0 : J0 (w.alloc (.cells #[Value.int .i64 4, Value.string k, .float .f64 x, .float .f64 y] 97)).drew)
    (q0 : ∀ W, J0 W → ∀ i, W.cell? ⟨w.heap.size, i, none⟩ = #[Value.int .i64 4, Value.string k, .float .f64 x, .float .f64 y][i]?) (q1 : ∀ W, J1 W → ∀ i, W.cell? ⟨w.heap.size, i, none⟩ = #[Value.int .i64 4, Value.string k, .float .f64 x, .float .f64 y][i]?) (q2 : ∀ W, J2 W → ∀ i, W.cell? ⟨w.heap.size, i, none⟩ = #[Value.int .i64 4, Value.string k, .float .f64 x, .float .f64 y][i]?)
    (hA : ∀ W, J0 W → Calls Tryd.prog 40 #[.pointer (some ⟨c, 0, none⟩), .string k] W fun e w' => e = .returned (.bool n) ∧ J1 w') (hR : ∀ W, J1 W → Calls Tryd.prog 84 #[.pointer (some ⟨m, 0, none⟩), .string k] W fun e w' => e = .returned (.bool n) ∧ J2 w') :
    Calls Tryd.prog 42 #[.pointer (some ⟨c, 0, none⟩), .pointer (some ⟨m, 0, none⟩), .agg #[Value.int .i64 4, Value.string k, .float .f64 x, .float .f64 y]] w fun e w' => e = .returned (.bool true) ∧ J2 w' := by
  have HA := Lib.hid hA; have HR := Lib.hid hR
  have Q1 := Lib.hid q1; have Q2 := Lib.hid q2
  have HJ := Lib.hid h0
  have qo := q0 _ h0
  clear hA hR q0 q1 q2 h0
  go_enter Tryd.func42, Tryd.ntmps42
  go_wp2_with fail
  go_region_held3 (fun w' => w'.cell? ⟨w.heap.size, 1, none⟩ = some (.string k) ∧ w'.cell? ⟨w.heap.size, 2, none⟩ = some (.float .f64 x) ∧ w'.cell? ⟨w.heap.size, 3, none⟩ = some (.float .f64 y))
    (first | exact ⟨qo 1, qo 2, qo 3⟩ | go_keep | ((repeat' apply And.intro) <;> go_keep)) (first
    | (go_at_call 40; refine (HA.out _ HJ.out).mono ?_; rintro e w1 ⟨rfl, hj⟩; clear qo; have HJ := Lib.hid hj; have qo := Q1.out _ hj; clear hj)
    | (go_at_call 84; refine (HR.out _ HJ.out).mono ?_; rintro e w1 ⟨rfl, hj⟩; clear qo; have HJ := Lib.hid hj; have qo := Q2.out _ hj; clear hj))
  all_goals go_wp2_with fail
  all_goals go_ret
  all_goals exact ⟨by first | rfl | exact ret_bool (by simp), HJ.out⟩
theorem step_other (c m : Nat) (kd : Int) (k : ByteArray) (x y : Nat) (w : World) (h : kd ≠ 1 ∧ kd ≠ 2 ∧ kd ≠ 3 ∧ kd ≠ 4) :
    Calls Tryd.prog 42 #[.pointer (some ⟨c, 0, none⟩), .pointer (some ⟨m, 0, none⟩), .agg #[Value.int .i64 kd, Value.string k, .float .f64 x, .float .f64 y]] w (Makes (.bool true) w) := by
  have d1 : (kd == 1) = false := beq_eq_false_iff_ne.2 h.1
  have d2 : (kd == 2) = false := beq_eq_false_iff_ne.2 h.2.1
  have d3 : (kd == 3) = false := beq_eq_false_iff_ne.2 h.2.2.1
  have d4 : (kd == 4) = false := beq_eq_false_iff_ne.2 h.2.2.2
  clear h
  go_enter Tryd.func42, Tryd.ntmps42
  go_wp2_with fail
  go_ret
  exact ⟨rfl, by go_grown⟩
end Go.Proofs.YtkidljiffeonjaaDoor

namespace Go.Proofs.YtkidljiffeonjaaDoor
open Go.RowKit

structure SGo (c b m : Nat) (v v' : Value) (w w' : World) : Prop where
  size : w.heap.size ≤ w'.heap.size
  block : ∀ k, k < w.heap.size → k ≠ c → k ≠ b → k ≠ m → v.ownBlock ≠ some k → w'.heap[k]? = w.heap[k]?
  new : ∀ k, v'.ownBlock = some k → v.ownBlock = some k ∨ w.heap.size ≤ k
structure St (c b B m : Nat) (w0 w : World) (C : Array Value) (v0 : Value) (now1 : Nat) (L1 : List MTimer) (now2 : Nat) (L2 : List MTimer) (v : Value) (W : World) : Prop where
  ck : ClockAt c b now1 L1 W
  rf : RefAt B m v now2 L2 W
  go : SGo c b m v0 v w W
  bx : Blk W w.heap.size C
  be : Below w0.heap.size w0 W
/-- where the blocks lie -/
structure Lies (c b B m : Nat) (w0 w : World) (v0 : Value) : Prop where
  lc : w0.heap.size ≤ c
  lb : w0.heap.size ≤ b
  cB : c < B
  bB : b < B
  Bm : B ≤ m
  ml : m < w.heap.size
  vl : ∀ k, v0.ownBlock = some k → k < w.heap.size
section
variable {c b B m : Nat} {w0 w : World} {C : Array Value} {v0 v : Value} {now1 now2 now3 : Nat} {L1 L2 L3 : List MTimer} {W W' : World}
theorem St.below (h : St c b B m w0 w C v0 now1 L1 now2 L2 v W) (hb : Below W.heap.size W W') : St c b B m w0 w C v0 now1 L1 now2 L2 v W' :=
  ⟨h.ck.below hb, h.rf.below hb, ⟨Nat.le_trans h.go.size hb.size, fun k hk a1 a2 a3 a4 => (hb.block k (Nat.lt_of_lt_of_le hk h.go.size)).trans (h.go.block k hk a1 a2 a3 a4), h.go.new⟩, h.bx.below hb, below_then h.be hb⟩
theorem St.two (hl : Lies c b B m w0 w v0) (h : St c b B m w0 w C v0 now1 L1 now2 L2 v W) (ht : Two c b W W') (hc : ClockAt c b now3 L3 W') : St c b B m w0 w C v0 now3 L3 now2 L2 v W' :=
  ⟨hc, h.rf.two ht hl.cB hl.bB, ⟨Nat.le_trans h.go.size ht.size, fun k hk a1 a2 a3 a4 => (ht.block k (Nat.lt_of_lt_of_le hk h.go.size) a1 a2).trans (h.go.block k hk a1 a2 a3 a4), h.go.new⟩, h.bx.two ht (by have := hl.ml; have := hl.Bm; have := hl.cB; omega) (by have := hl.ml; have := hl.Bm; have := hl.bB; omega), h.be.trans (ht.below h.be.size hl.lc hl.lb)⟩
theorem St.rgo {v2 : Value} (hl : Lies c b B m w0 w v0) (h : St c b B m w0 w C v0 now1 L1 now2 L2 v0 W) (hg : RGo m v0 v2 W W') (hr : RefAt B m v2 now3 L3 W') : St c b B m w0 w C v0 now1 L1 now3 L3 v2 W' := by
  refine ⟨h.ck.rgo h.rf hg hl.cB hl.bB, hr, ⟨Nat.le_trans h.go.size hg.size, fun k hk a1 a2 a3 a4 => (hg.block k (Nat.lt_of_lt_of_le hk h.go.size) a3 a4).trans (h.go.block k hk a1 a2 a3 a4), fun k hk => ?_⟩, ?_, ?_⟩
  · rcases hg.new k hk with h1 | h1
    · exact .inl h1
    · exact .inr (Nat.le_trans h.go.size h1)
  · exact h.bx.keep hg.size (hg.block _ h.bx.lt (by have := hl.ml; omega) (fun e => by have := hl.vl _ e; omega))
  · refine h.be.trans (hg.below h.be.size ?_ (fun k hk => ?_))
    · have := hl.lc; have := hl.cB; have := hl.Bm; omega
    · have := h.rf.owns k hk; have := hl.lc; have := hl.cB; omega
end
/-- both hold the same timers at the same time -/
def SDone (c b B m : Nat) (w0 w : World) (v : Value) (w' : World) : Prop := ∃ now' L' v', L'.length ≤ 64 ∧ ClockAt c b now' L' w' ∧ RefAt B m v' now' L' w' ∧ SGo c b m v v' w w' ∧ Below w0.heap.size w0 w'
theorem SDone.of {c b B m : Nat} {w0 w W : World} {C : Array Value} {v v' : Value} {now' : Nat} {L' : List MTimer} (h : St c b B m w0 w C v now' L' now' L' v' W) (hl : L'.length ≤ 64) : SDone c b B m w0 w v W := ⟨now', L', v', hl, h.ck, h.rf, h.go, h.be⟩
theorem tput_none {L : List MTimer} {t : MTimer} (h : tfind L t.key = none) : tput L t = L ++ [t] := by unfold tput; rw [h]; rfl
theorem tput_some {L : List MTimer} {t u : MTimer} (h : tfind L t.key = some u) : tput L t = trep L t := by unfold tput; rw [h]; rfl
theorem step_of (c b B m now : Nat) (v : Value) (L : List MTimer) (kd : Int) (k : ByteArray) (x y : Nat) (ea : Int → Addr) (w0 w : World) (hlie : Lies c b B m w0 w v) (hck : ClockAt c b now L w) (hrf : RefAt B m v now L w) (hbe : Below w0.heap.size w0 w) (hl : L.length ≤ 64) (hE : ∀ W, Below w0.heap.size w0 W → Errs ea W) (hk : k.size ≤ maxLen) (hx : F64 x) (hy : F64 y) :
    Calls Tryd.prog 42 #[.pointer (some ⟨c, 0, none⟩), .pointer (some ⟨m, 0, none⟩), .agg #[.int .i64 kd, .string k, .float .f64 x, .float .f64 y]] w fun e w' => e = .returned (.bool true) ∧ SDone c b B m w0 w v w' := by
  have hst : ∀ kd : Int, St c b B m w0 w #[.int .i64 kd, .string k, .float .f64 x, .float .f64 y] v now L now L v (w.alloc (.cells #[.int .i64 kd, .string k, .float .f64 x, .float .f64 y] 97)).drew := fun kd => by
    have hb : Below w.heap.size w (w.alloc (.cells #[.int .i64 kd, .string k, .float .f64 x, .float .f64 y] 97)).drew := ((Below.refl _ _).alloc (Nat.le_refl _) _).drew
    exact ⟨hck.below hb, hrf.below hb, ⟨hb.size, fun k hk _ _ _ _ => hb.block k hk, fun k hk => .inl hk⟩, (Blk.fresh w _ _ _ rfl).drew, below_then hbe hb⟩
  have hB : ∀ {C : Array Value} {n1 : Nat} {l1 : List MTimer} {W : World}, St c b B m w0 w C v n1 l1 now L v W → B ≤ W.heap.size := fun h => by have := h.rf.base; have := h.rf.blk.lt; omega
  have hap := hck.apart
  have htop := hck.top
  have hgd := hck.good
  by_cases k1 : kd = 1
  · subst k1
    cases hd : fdelay x
    · refine (step_tick c m k x y (errV (ea 4)) 4 (St c b B m w0 w _ v now L now L v) (St c b B m w0 w _ v now L now L v) (St c b B m w0 w _ v now L now L v) w (hst 1) (fun W h => h.bx.cell) (fun W h => h.bx.cell) (fun W h => h.bx.cell) (fun W h => (tick_bad c b now x L (ea 4) W h.ck hx hd (hE W h.be).e4).mono fun e w' ⟨he, hb⟩ => ⟨he, h.below hb⟩) (fun W h => (num_some 4 (by decide) ea W (hE W h.be)).mono fun e w' ⟨he, hb⟩ => ⟨he, h.below hb⟩) (fun W h => (rtick_no B m now x v L W h.rf hx hd).mono fun e w' ⟨he, hb⟩ => ⟨he, hb ▸ h⟩)).mono ?_
      exact fun e w' ⟨he, h⟩ => ⟨he, SDone.of h hl⟩
    · refine (step_tick c m k x y .nilIface 0 (St c b B m w0 w _ v now L now L v) (St c b B m w0 w _ v (fsum now (fplain x)) L now L v) (St c b B m w0 w _ v (fsum now (fplain x)) L (fsum now (fplain x)) L v) w (hst 1) (fun W h => h.bx.cell) (fun W h => h.bx.cell) (fun W h => h.bx.cell) (fun W h => (tick_at c b now x L W h.ck hx hd).mono fun e w' ⟨he, h1, h2⟩ => ⟨he, h.two hlie h2 h1⟩) (fun W h => (num_nil W).mono fun e w' ⟨he, hb⟩ => ⟨he, h.below hb⟩) (fun W h => (rtick_yes B m now x v L W h.rf htop hx hd).mono fun e w' ⟨he, h1, h2⟩ => ⟨he, h.rgo hlie h2 h1⟩)).mono ?_
      exact fun e w' ⟨he, h⟩ => ⟨he, SDone.of h hl⟩
  by_cases k2 : kd = 2
  · subst k2
    cases hd : fdelay x && fdelay y
    · refine (step_set c m k x y (errV (ea 4)) 4 (St c b B m w0 w _ v now L now L v) (St c b B m w0 w _ v now L now L v) (St c b B m w0 w _ v now L now L v) w (hst 2) (fun W h => h.bx.cell) (fun W h => h.bx.cell) (fun W h => h.bx.cell) (fun W h => ?_) (fun W h => (num_some 4 (by decide) ea W (hE W h.be)).mono fun e w' ⟨he, hb⟩ => ⟨he, h.below hb⟩) (fun W h => (rset_bad B m now v L k x y W hx hy hd).mono fun e w' ⟨he, hb⟩ => ⟨he, hb ▸ h⟩)).mono ?_
      · cases dx : fdelay x
        · exact (set_bad1 c k x y (ea 4) W hx hy dx (hE W h.be).e4).mono fun e w' ⟨he, hb⟩ => ⟨he, h.below hb⟩
        · rw [dx] at hd
          exact (set_bad2 c k x y (ea 4) W hx hy dx (by simpa using hd) (hE W h.be).e4).mono fun e w' ⟨he, hb⟩ => ⟨he, h.below hb⟩
      · exact fun e w' ⟨he, h⟩ => ⟨he, SDone.of h hl⟩
    · rw [Bool.and_eq_true] at hd
      obtain ⟨dx, dy⟩ := hd
      cases hf : tfind L k with
      | none =>
        by_cases h64 : 64 ≤ L.length
        · refine (step_set c m k x y (errV (ea 6)) 6 (St c b B m w0 w _ v now L now L v) (St c b B m w0 w _ v now L now L v) (St c b B m w0 w _ v now L now L v) w (hst 2) (fun W h => h.bx.cell) (fun W h => h.bx.cell) (fun W h => h.bx.cell) (fun W h => (set_full c b now L k x y (ea 6) W h.ck hk hf h64 hx hy dx dy (hE W h.be).e6).mono fun e w' ⟨he, hb⟩ => ⟨he, h.below hb⟩) (fun W h => (num_some 6 (by decide) ea W (hE W h.be)).mono fun e w' ⟨he, hb⟩ => ⟨he, h.below hb⟩) (fun W h => (rset_full B m now v L k x y W h.rf (by omega) h64 hf hx hy dx dy).mono fun e w' ⟨he, hb⟩ => ⟨he, h.below hb⟩)).mono ?_
          exact fun e w' ⟨he, h⟩ => ⟨he, SDone.of h hl⟩
        · have e1 : tput L (tnew now k x y) = L ++ [tnew now k x y] := tput_none hf
          refine (step_set c m k x y .nilIface 0 (St c b B m w0 w _ v now L now L v) (St c b B m w0 w _ v now (L ++ [tnew now k x y]) now L v) (fun W => ∃ v', St c b B m w0 w _ v now (L ++ [tnew now k x y]) now (L ++ [tnew now k x y]) v' W) w (hst 2) (fun W h => h.bx.cell) (fun W h => h.bx.cell) (fun W ⟨_, h⟩ => h.bx.cell) (fun W h => (set_room c b now L k x y W h.ck hk hf (by omega) hx hy dx dy).mono fun e w' ⟨he, h1, h2⟩ => ⟨he, h.two hlie h2 (e1 ▸ h1)⟩) (fun W h => (num_nil W).mono fun e w' ⟨he, hb⟩ => ⟨he, h.below hb⟩) (fun W h => (rset_new B m now v L k x y W h.rf (hB h) (by omega) hf htop hx hy dx dy).mono fun e w' ⟨he, v', h1, h2⟩ => ⟨he, v', h.rgo hlie h2 h1⟩)).mono ?_
          exact fun e w' ⟨he, v', h⟩ => ⟨he, SDone.of h (by rw [List.length_append, List.length_singleton]; omega)⟩
      | some t =>
        obtain ⟨i, hi, hit, hfi, hrep⟩ := fidx_some hap hf
        have e1 : tput L (tnew now k x y) = L.set i (tnew now k x y) := (tput_some (t := tnew now k x y) hf).trans (hrep _ rfl)
        refine (step_set c m k x y .nilIface 0 (St c b B m w0 w _ v now L now L v) (St c b B m w0 w _ v now (L.set i (tnew now k x y)) now L v) (fun W => ∃ v', St c b B m w0 w _ v now (L.set i (tnew now k x y)) now (L.set i (tnew now k x y)) v' W) w (hst 2) (fun W h => h.bx.cell) (fun W h => h.bx.cell) (fun W ⟨_, h⟩ => h.bx.cell) (fun W h => (set_there c b now L k x y t W h.ck hk hf (Nat.lt_of_le_of_lt hl (by decide)) hx hy dx dy).mono fun e w' ⟨he, h1, h2⟩ => ⟨he, h.two hlie h2 (e1 ▸ h1)⟩) (fun W h => (num_nil W).mono fun e w' ⟨he, hb⟩ => ⟨he, h.below hb⟩) (fun W h => (rset_at B m now v L k i x y W h.rf (by omega) hi hfi htop hx hy dx dy).mono fun e w' ⟨he, v', h1, h2⟩ => ⟨he, v', h.rgo hlie h2 h1⟩)).mono ?_
        exact fun e w' ⟨he, v', h⟩ => ⟨he, SDone.of h (by rw [List.length_set]; exact hl)⟩
  by_cases k3 : kd = 3
  · subst k3
    cases hf : tfind L k with
    | none =>
      refine (step_again c m k x y (errV (ea 8)) 8 (St c b B m w0 w _ v now L now L v) (St c b B m w0 w _ v now L now L v) (St c b B m w0 w _ v now L now L v) w (hst 3) (fun W h => h.bx.cell) (fun W h => h.bx.cell) (fun W h => h.bx.cell) (fun W h => (again_none c b now L k (ea 8) W h.ck hk hf (hE W h.be).e8).mono fun e w' ⟨he, hb⟩ => ⟨he, h.below hb⟩) (fun W h => (num_some 8 (by decide) ea W (hE W h.be)).mono fun e w' ⟨he, hb⟩ => ⟨he, h.below hb⟩) (fun W h => (ragain_none B m now v L k W h.rf (by omega) hf).mono fun e w' ⟨he, hb⟩ => ⟨he, h.below hb⟩)).mono ?_
      exact fun e w' ⟨he, h⟩ => ⟨he, SDone.of h hl⟩
    | some t =>
      obtain ⟨i, hi, hit, hfi, hrep⟩ := fidx_some hap hf
      have hkt := (tfind_some hf).2
      have e1 : tput L (tagain now t) = L.set i (tagain now L[i]) := by
        rw [hit]
        exact (tput_some (t := tagain now t) (by show tfind L t.key = some t; rw [hkt]; exact hf)).trans (hrep _ hkt)
      refine (step_again c m k x y .nilIface 0 (St c b B m w0 w _ v now L now L v) (St c b B m w0 w _ v now (L.set i (tagain now L[i])) now L v) (fun W => ∃ v', St c b B m w0 w _ v now (L.set i (tagain now L[i])) now (L.set i (tagain now L[i])) v' W) w (hst 3) (fun W h => h.bx.cell) (fun W h => h.bx.cell) (fun W ⟨_, h⟩ => h.bx.cell) (fun W h => (again_yes c b now L k t W h.ck (Nat.lt_of_le_of_lt hl (by decide)) hk hf).mono fun e w' ⟨he, h1, h2⟩ => ⟨he, h.two hlie h2 (e1 ▸ h1)⟩) (fun W h => (num_nil W).mono fun e w' ⟨he, hb⟩ => ⟨he, h.below hb⟩) (fun W h => (ragain_at B m now v L k i W h.rf (by omega) hi hfi htop (hgd _ (List.getElem_mem hi))).mono fun e w' ⟨he, v', h1, h2⟩ => ⟨he, v', h.rgo hlie h2 h1⟩)).mono ?_
      exact fun e w' ⟨he, v', h⟩ => ⟨he, SDone.of h (by rw [List.length_set]; exact hl)⟩
  by_cases k4 : kd = 4
  · subst k4
    cases hf : tfind L k with
    | none =>
      refine (step_drop c m k x y false (St c b B m w0 w _ v now L now L v) (St c b B m w0 w _ v now L now L v) (St c b B m w0 w _ v now L now L v) w (hst 4) (fun W h => h.bx.cell) (fun W h => h.bx.cell) (fun W h => h.bx.cell) (fun W h => (drop_of c b now L k W h.ck hk).mono fun e w' ⟨he, h1, h2⟩ => ⟨by rw [he, hf]; rfl, h.two hlie h2 (tdel_none hf ▸ h1)⟩) (fun W h => (rdrop_none B m now v L k W h.rf (by omega) hf).mono fun e w' ⟨he, hb⟩ => ⟨he, h.below hb⟩)).mono ?_
      exact fun e w' ⟨he, h⟩ => ⟨he, SDone.of h hl⟩
    | some t =>
      obtain ⟨i, hi, hit, hfi, hrep⟩ := fidx_some hap hf
      have hkt := (tfind_some hf).2
      have e1 : tdel L k = L.take i ++ L.drop (i + 1) := tdel_idx hap hi (by rw [hit]; exact hkt)
      refine (step_drop c m k x y true (St c b B m w0 w _ v now L now L v) (St c b B m w0 w _ v now (L.take i ++ L.drop (i + 1)) now L v) (fun W => ∃ v', St c b B m w0 w _ v now (L.take i ++ L.drop (i + 1)) now (L.take i ++ L.drop (i + 1)) v' W) w (hst 4) (fun W h => h.bx.cell) (fun W h => h.bx.cell) (fun W ⟨_, h⟩ => h.bx.cell) (fun W h => (drop_of c b now L k W h.ck hk).mono fun e w' ⟨he, h1, h2⟩ => ⟨by rw [he, hf]; rfl, h.two hlie h2 (e1 ▸ h1)⟩) (fun W h => (rdrop_at B m now v L k i W h.rf (by omega) hi hfi (hB h)).mono fun e w' ⟨he, v', h1, h2⟩ => ⟨he, v', h.rgo hlie h2 h1⟩)).mono ?_
      exact fun e w' ⟨he, v', h⟩ => ⟨he, SDone.of h (by rw [List.length_append, List.length_take, List.length_drop]; omega)⟩
  · refine (step_other c m kd k x y w ⟨k1, k2, k3, k4⟩).mono ?_
    exact fun e w' ⟨he, hb⟩ => ⟨he, now, L, v, hl, hck.below hb, hrf.below hb, ⟨hb.size, fun k hk _ _ _ _ => hb.block k hk, fun k hk => .inl hk⟩, below_then hbe hb⟩
end Go.Proofs.YtkidljiffeonjaaDoor
