/- StoB, FlC, FacA, FacE -/
import Derived.Test.YtlkajejbfojkeaaGreatDoorVStepToRstA
set_option linter.unusedSimpArgs false
set_option linter.unusedVariables false
set_option maxRecDepth 100000
set_option maxHeartbeats 16000000
namespace Go.Proofs.YtlkajejbfojkeaaGreatDoor
open Go.RowKit
theorem actEq (n q n' q' : Int) (w : World) : (binOp .eql 36 (.agg #[n, q]) (.agg #[n', q'])).run Tryz.prog w = .ok (.bool (decide (n = n' ∧ q = q'))) w := by
 by_cases h1 : n = n' <;> by_cases h2 : q = q' <;> (go_simp; try simp [h1, h2])
theorem has_of (L : SLoc) (S : Sto) (pt : Int) (w : World) (h : StoreAt L S w) : Calls Tryz.prog 86 #[.pointer (some ⟨L.sb, 0, none⟩), .int .i64 pt] w (Gives (.bool (decide (0 ≤ pt ∧ pt < (S.parts.length : Int)))) w) := by
 have q := h.blk.cell
 obtain ⟨a, cap, hv⟩ := row_slice h.parts
 rw [hv] at q
 obtain ⟨n, hn⟩ : ∃ n, n = S.parts.length := ⟨_, rfl⟩
 rw [← hn] at q ⊢
 have c3 : w.cell? ⟨L.sb, 3, none⟩ = some (.slice a n cap) := q 3
 clear q hn hv h
 by_cases h0 : 0 ≤ pt
 · by_cases h1 : pt < (n : Int)
   · rw [decide_eq_true ⟨h0, h1⟩]
     go_enter Tryz.func86, Tryz.ntmps86
     go_wp2_with fail
     go_ret
     exact ⟨rfl, rfl⟩
   · rw [decide_eq_false (fun x => h1 x.2)]
     go_enter Tryz.func86, Tryz.ntmps86
     go_wp2_with fail
     go_ret
     exact ⟨rfl, rfl⟩
 · rw [decide_eq_false (fun x => h0 x.1)]
   go_enter Tryz.func86, Tryz.ntmps86
   go_wp2_with fail
   go_ret
   exact ⟨rfl, rfl⟩
theorem find1_of (b p : Nat) (a : SAct) (v : Value) (n q : Int) (w : World) (hb : Blk w b (actC a v)) (hp : Blk w p #[n, q]) : Calls Tryz.prog 192 #[.pointer (some ⟨b, 0, none⟩), .pointer (some ⟨p, 0, none⟩)] w (Makes (.bool (decide (a.an = n ∧ a.aq = q))) w) := by
 have hse := fun W => actEq a.an a.aq n q W
 generalize decide (a.an = n ∧ a.aq = q) = t at *
 have a0 : w.cell? ⟨b, 0, none⟩ = some (.int .i64 a.an) := hb.cell 0
 have a1 : w.cell? ⟨b, 1, none⟩ = some (.int .i64 a.aq) := hb.cell 1
 have p0 : w.cell? ⟨p, 0, none⟩ = some (.int .i64 n) := hp.cell 0
 have p1 : w.cell? ⟨p, 1, none⟩ = some (.int .i64 q) := hp.cell 1
 clear hb hp
 go_enter Tryz.func192, Tryz.ntmps192
 go_wp2_with fail
 go_quiet (fail)
 go_wp2_with fail
 go_ret
 exact ⟨rfl, ⟨rfl, rfl, rfl, Nat.le_refl _, fun _ _ => rfl⟩⟩
theorem child1_of (b p : Nat) (a : SAct) (v : Value) (n : Int) (w : World) (hb : Blk w b (actC a v)) (hp : Blk w p #[n]) : Calls Tryz.prog 203 #[.pointer (some ⟨b, 0, none⟩), .pointer (some ⟨p, 0, none⟩)] w (Makes (.bool (decide (a.pa = n))) w) := by
 have a0 : w.cell? ⟨b, 5, none⟩ = some (.int .i64 a.pa) := hb.cell 5
 have p0 : w.cell? ⟨p, 0, none⟩ = some (.int .i64 n) := hp.cell 0
 clear hb hp
 have e : (a.pa == n) = decide (a.pa = n) := by by_cases h : a.pa = n <;> simp [h]
 generalize decide (a.pa = n) = t at *
 generalize a.pa = x at *
 go_enter Tryz.func203, Tryz.ntmps203
 go_wp2_with fail
 go_quiet (fail)
 go_wp2_with fail
 go_ret
 exact ⟨ret_bool (by first | rfl | exact e), ⟨rfl, rfl, rfl, Nat.le_refl _, fun _ _ => rfl⟩⟩
theorem indexP_find (p : Nat) {α : Type} (l : List α) (q : α → Bool) (av : Value) (ab : List (Nat × Value)) (w : World) (hrow : w.ownsRow 0 159 1 av l.length (ptrs ab)) (hl : l.length ≤ 1000)
    (hp : ∀ (W : World) (j : Nat) (x : Nat × Value) (a : α), Below w.heap.size w W → ab[j]? = some x → l[j]? = some a → Calls Tryz.prog 192 #[.pointer (some ⟨x.1, 0, none⟩), .pointer (some ⟨p, 0, none⟩)] W (Makes (.bool (q a)) W)) :
    Calls Tryz.prog 191 #[av, .func (.func 192) #[] #[.pointer (some ⟨p, 0, none⟩)]] w (Makes (.int .i64 (oix (l.findIdx? q))) w) := by
 obtain ⟨a, cap, rfl, hab, hr⟩ := ptr_row hrow
 have HR := qq hr; have HP := qq hp; have HA := qq hab
 clear hr hp hab hrow
 obtain ⟨n, hn⟩ : ∃ n, n = l.length := ⟨_, rfl⟩
 rw [← hn] at hl HR HA ⊢
 have HN := qq hn; clear hn
 go_enter Tryz.func191, Tryz.ntmps191
 go_wp2_with fail
 go_loopw [8] (fun i wr => ∃ k : Nat, k ≤ n ∧ i = .int .i64 (k : Nat) ∧ Hid (∀ (j : Nat) (h : j < l.length), j < k → q l[j] = false) ∧ Below w.heap.size w wr) (fun i _ => n - (intOf i).toNat)
 case atStart => exact ⟨0, by omega, by go_num, qq (fun j _ h => absurd h (by omega)), Below.refl _ _⟩
 case round =>
  obtain ⟨k, hk, rfl, HBE, hB⟩ := hrel
  by_cases hlt : k < n
  · have hks : k < l.length := by rw [← HN.out]; exact hlt
    obtain ⟨g, rfl, hg, hfz, hcell⟩ := HR.out (by omega)
    obtain ⟨x, hx⟩ : ∃ x, ab[k]? = some x := ⟨_, List.getElem?_eq_getElem (by rw [HA.out]; exact hlt)⟩
    have c0 : wr.cell? ⟨g, k, none⟩ = some (.pointer (some ⟨x.1, 0, none⟩)) := (hB.cell (p := ⟨g, k, none⟩) hg).trans (hcell k x hx)
    have hki : (k : Int) < (n : Int) := by omega
    have hk0 : (0 : Int) ≤ (k : Int) := by omega
    have hc := fun W hW => HP.out W k x l[k] hW hx (List.getElem?_eq_getElem hks)
    obtain ⟨t, ht⟩ : ∃ t, t = q l[k] := ⟨_, rfl⟩
    rw [← ht] at hc
    have HT := qq ht; have HC := qq hc
    clear ht hc hcell hx hfz
    obtain ⟨xb, xv⟩ := x
    dsimp only at c0 HC
    go_wp2_with fail
    refine (HC.out _ (below_then hB (by go_grown))).mono ?_
    rintro e w1 ⟨rfl, hb1⟩
    have hB1 : Below w.heap.size w w1 := below_then hB (below_then (by go_grown) hb1)
    cases t with
    | true =>
     go_wp2_with fail
     go_ret
     exact ⟨by rw [find_hit hks HBE.out HT.out.symm]; rfl, hB1⟩
    | false =>
     go_wp2_with fail
     all_goals (go_roundw <;> first | exact ⟨k + 1, by omega, by go_num, qq (fun j h hj => by
         rcases Nat.lt_or_eq_of_le (Nat.le_of_lt_succ hj) with h1 | h1
         · exact HBE.out j h h1
         · subst h1; exact HT.out.symm), hB1⟩ | (simp [intOf]; omega))
  · obtain rfl : k = n := by omega
    go_wp2_with fail
    go_ret
    exact ⟨by rw [find_miss (fun j h => HBE.out j h (by rw [HN.out]; exact h))]; rfl, hB⟩
theorem indexP_child (p : Nat) {α : Type} (l : List α) (q : α → Bool) (av : Value) (ab : List (Nat × Value)) (w : World) (hrow : w.ownsRow 0 159 1 av l.length (ptrs ab)) (hl : l.length ≤ 1000)
    (hp : ∀ (W : World) (j : Nat) (x : Nat × Value) (a : α), Below w.heap.size w W → ab[j]? = some x → l[j]? = some a → Calls Tryz.prog 203 #[.pointer (some ⟨x.1, 0, none⟩), .pointer (some ⟨p, 0, none⟩)] W (Makes (.bool (q a)) W)) :
    Calls Tryz.prog 191 #[av, .func (.func 203) #[] #[.pointer (some ⟨p, 0, none⟩)]] w (Makes (.int .i64 (oix (l.findIdx? q))) w) := by
 obtain ⟨a, cap, rfl, hab, hr⟩ := ptr_row hrow
 have HR := qq hr; have HP := qq hp; have HA := qq hab
 clear hr hp hab hrow
 obtain ⟨n, hn⟩ : ∃ n, n = l.length := ⟨_, rfl⟩
 rw [← hn] at hl HR HA ⊢
 have HN := qq hn; clear hn
 go_enter Tryz.func191, Tryz.ntmps191
 go_wp2_with fail
 go_loopw [8] (fun i wr => ∃ k : Nat, k ≤ n ∧ i = .int .i64 (k : Nat) ∧ Hid (∀ (j : Nat) (h : j < l.length), j < k → q l[j] = false) ∧ Below w.heap.size w wr) (fun i _ => n - (intOf i).toNat)
 case atStart => exact ⟨0, by omega, by go_num, qq (fun j _ h => absurd h (by omega)), Below.refl _ _⟩
 case round =>
  obtain ⟨k, hk, rfl, HBE, hB⟩ := hrel
  by_cases hlt : k < n
  · have hks : k < l.length := by rw [← HN.out]; exact hlt
    obtain ⟨g, rfl, hg, hfz, hcell⟩ := HR.out (by omega)
    obtain ⟨x, hx⟩ : ∃ x, ab[k]? = some x := ⟨_, List.getElem?_eq_getElem (by rw [HA.out]; exact hlt)⟩
    have c0 : wr.cell? ⟨g, k, none⟩ = some (.pointer (some ⟨x.1, 0, none⟩)) := (hB.cell (p := ⟨g, k, none⟩) hg).trans (hcell k x hx)
    have hki : (k : Int) < (n : Int) := by omega
    have hk0 : (0 : Int) ≤ (k : Int) := by omega
    have hc := fun W hW => HP.out W k x l[k] hW hx (List.getElem?_eq_getElem hks)
    obtain ⟨t, ht⟩ : ∃ t, t = q l[k] := ⟨_, rfl⟩
    rw [← ht] at hc
    have HT := qq ht; have HC := qq hc
    clear ht hc hcell hx hfz
    obtain ⟨xb, xv⟩ := x
    dsimp only at c0 HC
    go_wp2_with fail
    refine (HC.out _ (below_then hB (by go_grown))).mono ?_
    rintro e w1 ⟨rfl, hb1⟩
    have hB1 : Below w.heap.size w w1 := below_then hB (below_then (by go_grown) hb1)
    cases t with
    | true =>
     go_wp2_with fail
     go_ret
     exact ⟨by rw [find_hit hks HBE.out HT.out.symm]; rfl, hB1⟩
    | false =>
     go_wp2_with fail
     all_goals (go_roundw <;> first | exact ⟨k + 1, by omega, by go_num, qq (fun j h hj => by
         rcases Nat.lt_or_eq_of_le (Nat.le_of_lt_succ hj) with h1 | h1
         · exact HBE.out j h h1
         · subst h1; exact HT.out.symm), hB1⟩ | (simp [intOf]; omega))
  · obtain rfl : k = n := by omega
    go_wp2_with fail
    go_ret
    exact ⟨by rw [find_miss (fun j h => HBE.out j h (by rw [HN.out]; exact h))]; rfl, hB⟩
def aptr (L : SLoc) (o : Option Nat) : Value := .pointer (o.bind fun i => (L.ab[i]?).map fun x => (⟨x.1, 0, none⟩ : Addr))
theorem find_of (L : SLoc) (S : Sto) (n q : Int) (w : World) (h : StoreAt L S w) (hG : StoGood S) : Calls Tryz.prog 88 #[.pointer (some ⟨L.sb, 0, none⟩), .agg #[n, q]] w (Makes (aptr L (sfind S n q)) w) := by
 have hB := (Below.refl w.heap.size w).alloc (Nat.le_refl _) (.cells #[n, q] 36)
 have h1 := h.below hB
 have hbx := Blk.fresh w #[n, q] 36 _ rfl
 have hI := fun W (hW : Below w.heap.size w W) (hA : StoreAt L S W) (hx : Blk W w.heap.size #[n, q]) => indexP_find w.heap.size S.acts (fun a => decide (a.an = n ∧ a.aq = q)) L.av L.ab W hA.acts (by have := hG.acts; omega)
  (fun W' j x a hb hx' ha' => find1_of x.1 w.heap.size a x.2 n q W' ((hA.below hb).act j x a hx' ha').1 (hx.below hb))
 have q2 : ∀ W, StoreAt L S W → W.cell? ⟨L.sb, 2, none⟩ = some L.av := fun W hW => hW.blk.cell 2
 have hlt := h.blk.lt
 obtain ⟨a, cap, hv, hab, hr⟩ := ptr_row h1.acts
 have hfi : S.acts.findIdx? (fun a => decide (a.an = n ∧ a.aq = q)) = sfind S n q := rfl
 rw [hfi] at hI
 rw [hv] at hI q2
 have hle : ∀ i, sfind S n q = some i → i < S.acts.length := fun i hi => by
  unfold sfind at hi
  exact (List.findIdx?_eq_some_iff_getElem.1 hi).1
 obtain ⟨m, hm⟩ : ∃ m, m = S.acts.length := ⟨_, rfl⟩
 rw [← hm] at hI q2 hab hr hle
 have HI := qq (hI _ hB h1 hbx); have HQ := qq q2; have HH := qq h1; have HR := qq hr; have HB := qq hB
 have HAB := qq hab
 have c0 := q2 _ h
 cases hs : sfind S n q with
 | none =>
  rw [hs] at HI
  clear hs hI q2 h1 hr hB hbx hfi hv hm hle h hab
  dsimp only [oix] at HI
  dsimp only [aptr, Option.bind]
  go_enter Tryz.func88, Tryz.ntmps88
  go_wp2_with fail
  refine HI.out.mono ?_
  rintro e w1 ⟨rfl, hb1⟩
  go_wp2_with fail
  go_ret
  exact ⟨rfl, below_then HB.out hb1⟩
 | some i =>
  rw [hs] at HI
  have hil := hle i hs
  obtain ⟨g, rfl, hg, hfz, hcell⟩ := hr (by omega)
  obtain ⟨x, hx⟩ : ∃ x, L.ab[i]? = some x := ⟨_, List.getElem?_eq_getElem (by omega)⟩
  have hc := hcell i x hx
  have hap : aptr L (some i) = .pointer (some ⟨x.1, 0, none⟩) := by simp [aptr, hx]
  rw [hap]
  have HC := qq hc; have HG := qq hg
  clear hs hI q2 h1 hr hB hbx hfi hv hm hle h hab hx hap hcell hc hg hfz HR
  obtain ⟨xb, xv⟩ := x
  dsimp only [oix] at *
  have hi0 : (0 : Int) ≤ (i : Int) := by omega
  have hi1 : (i : Int) < (m : Int) := by omega
  go_enter Tryz.func88, Tryz.ntmps88
  go_wp2_with fail
  refine HI.out.mono ?_
  rintro e w1 ⟨rfl, hb1⟩
  have c1 := HQ.out _ (HH.out.below hb1)
  have c2 : w1.cell? ⟨g, i, none⟩ = some (.pointer (some ⟨xb, 0, none⟩)) := (hb1.cell (p := ⟨g, i, none⟩) HG.out).trans HC.out
  go_wp2_with fail
  go_ret
  exact ⟨rfl, below_then HB.out hb1⟩
theorem child_of (L : SLoc) (S : Sto) (pa : Int) (w : World) (h : StoreAt L S w) (hG : StoGood S) : Calls Tryz.prog 102 #[.pointer (some ⟨L.sb, 0, none⟩), .int .i64 pa] w (Makes (aptr L (if pa ≤ 0 then none else schild S pa)) w) := by
 have hB := (Below.refl w.heap.size w).alloc (Nat.le_refl _) (.cells #[pa] 3)
 have h1 := h.below hB
 have hbx := Blk.fresh w #[pa] 3 _ rfl
 have hI := fun W (hW : Below w.heap.size w W) (hA : StoreAt L S W) (hx : Blk W w.heap.size #[pa]) => indexP_child w.heap.size S.acts (fun a => decide (a.pa = pa)) L.av L.ab W hA.acts (by have := hG.acts; omega)
  (fun W' j x a hb hx' ha' => child1_of x.1 w.heap.size a x.2 pa W' ((hA.below hb).act j x a hx' ha').1 (hx.below hb))
 have q2 : ∀ W, StoreAt L S W → W.cell? ⟨L.sb, 2, none⟩ = some L.av := fun W hW => hW.blk.cell 2
 have hlt := h.blk.lt
 obtain ⟨a, cap, hv, hab, hr⟩ := ptr_row h1.acts
 have hfi : S.acts.findIdx? (fun a => decide (a.pa = pa)) = schild S pa := rfl
 rw [hfi] at hI
 rw [hv] at hI q2
 have hle : ∀ i, schild S pa = some i → i < S.acts.length := fun i hi => by
  unfold schild at hi
  exact (List.findIdx?_eq_some_iff_getElem.1 hi).1
 obtain ⟨m, hm⟩ : ∃ m, m = S.acts.length := ⟨_, rfl⟩
 rw [← hm] at hI q2 hab hr hle
 have HI := qq (hI _ hB h1 hbx); have HQ := qq q2; have HH := qq h1; have HR := qq hr; have HB := qq hB
 have HAB := qq hab
 have HX := qq hbx
 have c0 := q2 _ h
 by_cases hp : pa ≤ 0
 · rw [if_pos hp]
   obtain ⟨o, ho⟩ : ∃ o, o = schild S pa := ⟨_, rfl⟩
   rw [← ho] at HI
   clear ho hI q2 h1 hr hB hbx hfi hv hm hle h hab
   dsimp only [aptr, Option.bind]
   go_enter Tryz.func102, Tryz.ntmps102
   go_wp2_with fail
   refine HI.out.mono ?_
   rintro e w1 ⟨rfl, hb1⟩
   have c1 : w1.cell? ⟨w.heap.size, 0, none⟩ = some (.int .i64 pa) := (HX.out.below hb1).cell 0
   go_wp2_with fail
   go_ret
   exact ⟨rfl, below_then HB.out hb1⟩
 · rw [if_neg hp]
   cases hs : schild S pa with
   | none =>
    rw [hs] at HI
    clear hs hI q2 h1 hr hB hbx hfi hv hm hle h hab
    dsimp only [oix] at HI
    dsimp only [aptr, Option.bind]
    go_enter Tryz.func102, Tryz.ntmps102
    go_wp2_with fail
    refine HI.out.mono ?_
    rintro e w1 ⟨rfl, hb1⟩
    have c1 : w1.cell? ⟨w.heap.size, 0, none⟩ = some (.int .i64 pa) := (HX.out.below hb1).cell 0
    go_wp2_with fail
    go_ret
    exact ⟨rfl, below_then HB.out hb1⟩
   | some i =>
    rw [hs] at HI
    have hil := hle i hs
    obtain ⟨g, rfl, hg, hfz, hcell⟩ := hr (by omega)
    obtain ⟨x, hx⟩ : ∃ x, L.ab[i]? = some x := ⟨_, List.getElem?_eq_getElem (by omega)⟩
    have hc := hcell i x hx
    have hap : aptr L (some i) = .pointer (some ⟨x.1, 0, none⟩) := by simp [aptr, hx]
    rw [hap]
    have HC := qq hc; have HG := qq hg
    clear hs hI q2 h1 hr hB hbx hfi hv hm hle h hab hx hap hcell hc hg hfz HR
    obtain ⟨xb, xv⟩ := x
    dsimp only [oix] at *
    have hi0 : (0 : Int) ≤ (i : Int) := by omega
    have hi1 : (i : Int) < (m : Int) := by omega
    go_enter Tryz.func102, Tryz.ntmps102
    go_wp2_with fail
    refine HI.out.mono ?_
    rintro e w1 ⟨rfl, hb1⟩
    have c3 : w1.cell? ⟨w.heap.size, 0, none⟩ = some (.int .i64 pa) := (HX.out.below hb1).cell 0
    have c1 := HQ.out _ (HH.out.below hb1)
    have c2 : w1.cell? ⟨g, i, none⟩ = some (.pointer (some ⟨xb, 0, none⟩)) := (hb1.cell (p := ⟨g, i, none⟩) HG.out).trans HC.out
    go_wp2_with fail
    go_ret
    exact ⟨rfl, below_then HB.out hb1⟩
def fcp (a b : Int) : Int := if a < b then -1 else if b < a then 1 else 0
theorem notnan_of (a : Int) (w : World) : Calls Tryz.prog 289 #[.int .i64 a] w (Gives (.bool false) w) := by
 go_enter Tryz.func289, Tryz.ntmps289
 go_wp2
 go_ret
 exact ⟨ret_bool (by simp), rfl⟩
theorem cmpInt_of (a b : Int) (w : World) : Calls Tryz.prog 253 #[.int .i64 a, .int .i64 b] w (Gives (.int .i64 (fcp a b)) w) := by
 have HN := qq notnan_of
 unfold fcp
 by_cases h1 : a < b
 · rw [if_pos h1]
   go_enter Tryz.func253, Tryz.ntmps253
   go_wp2_with (go_at_call 289; refine (HN.out _ _).mono ?_; rintro e w1 ⟨rfl, rfl⟩)
   go_ret
   exact ⟨rfl, rfl⟩
 rw [if_neg h1]
 by_cases h2 : b < a
 · rw [if_pos h2]
   go_enter Tryz.func253, Tryz.ntmps253
   go_wp2_with (go_at_call 289; refine (HN.out _ _).mono ?_; rintro e w1 ⟨rfl, rfl⟩)
   go_ret
   exact ⟨rfl, rfl⟩
 rw [if_neg h2]
 go_enter Tryz.func253, Tryz.ntmps253
 go_wp2_with (go_at_call 289; refine (HN.out _ _).mono ?_; rintro e w1 ⟨rfl, rfl⟩)
 go_ret
 exact ⟨rfl, rfl⟩
theorem forder_eq (x y : Nat) (hx : F64 x) (hy : F64 y) : forder x y = if flt x y = true then -1 else if flt y x = true then 1 else fcp (fclass x) (fclass y) := by
 unfold F64 at hx hy
 unfold forder fplace flt fclass fcp
 cases hnx : fnan x <;> cases hny : fnan y
 · simp only [Bool.not_false, Bool.true_and, decide_eq_true_eq, Bool.false_eq_true, if_false]
   unfold fkey
   have nx : ¬ 9218868437227405312 < x % 9223372036854775808 := by unfold fnan at hnx; simpa using hnx
   have ny : ¬ 9218868437227405312 < y % 9223372036854775808 := by unfold fnan at hny; simpa using hny
   repeat' split
   all_goals omega
 · simp only [Bool.not_false, Bool.not_true, Bool.true_and, Bool.and_false, Bool.false_and, Bool.false_eq_true, if_false, if_true]
   repeat' split
   all_goals omega
 · simp only [Bool.not_false, Bool.not_true, Bool.true_and, Bool.and_false, Bool.false_and, Bool.false_eq_true, if_false, if_true]
   repeat' split
   all_goals omega
 · simp
theorem forder_of (x y : Nat) (hx : F64 x) (hy : F64 y) (w : World) : Calls Tryz.prog 189 #[flV x, flV y] w (Gives (.int .i64 (forder x y)) w) := by
 rw [forder_eq x y hx hy]
 have e1 := run_flt x y hx hy
 have e2 := run_fgt x y hx hy
 have HX := qq (fun W => class_of x hx W)
 have HY := qq (fun W => class_of y hy W)
 have HC := qq cmpInt_of
 generalize fclass x = a at *
 generalize fclass y = b at *
 generalize flt x y = t at *
 generalize flt y x = u at *
 clear hx hy
 cases t with
 | true =>
  go_enter Tryz.func189, Tryz.ntmps189
  go_wp2
  go_ret
  exact ⟨rfl, rfl⟩
 | false =>
  cases u with
  | true =>
   simp only [Bool.false_eq_true, if_false, if_true]
   go_enter Tryz.func189, Tryz.ntmps189
   go_wp2
   go_ret
   exact ⟨rfl, rfl⟩
  | false =>
   simp only [Bool.false_eq_true, if_false]
   go_enter Tryz.func189, Tryz.ntmps189
   go_wp2_with fail
   refine (HX.out _).mono ?_; rintro e w1 ⟨rfl, rfl⟩
   go_wp2_with fail
   refine (HY.out _).mono ?_; rintro e w1 ⟨rfl, rfl⟩
   go_wp2_with fail
   refine (HC.out _ _ _).mono ?_; rintro e w1 ⟨rfl, rfl⟩
   go_wp2
   go_ret
   exact ⟨rfl, rfl⟩
theorem within_of (n l m : Int) (w : World) : Calls Tryz.prog 249 #[.int .i64 n, .int .i64 l, .int .i64 m] w (Gives (.bool (decide (l ≤ n ∧ n ≤ m))) w) := by
 by_cases h1 : l ≤ n
 · by_cases h2 : n ≤ m
   · rw [decide_eq_true ⟨h1, h2⟩]
     go_enter Tryz.func249, Tryz.ntmps249
     go_wp2_with fail
     go_ret
     exact ⟨rfl, rfl⟩
   · rw [decide_eq_false (fun h => h2 h.2)]
     go_enter Tryz.func249, Tryz.ntmps249
     go_wp2_with fail
     go_ret
     exact ⟨rfl, rfl⟩
 · rw [decide_eq_false (fun h => h1 h.1)]
   go_enter Tryz.func249, Tryz.ntmps249
   go_wp2_with fail
   go_ret
   exact ⟨rfl, rfl⟩
theorem isReg_of (n : Int) (w : World) : Calls Tryz.prog 250 #[.int .i64 n] w (Gives (.bool (decide (0 ≤ n ∧ n ≤ 5))) w) := by
 have HW := qq (within_of n 0 5 w)
 go_enter Tryz.func250, Tryz.ntmps250
 go_wp2_with fail
 refine HW.out.mono ?_
 rintro e w1 ⟨rfl, rfl⟩
 go_wp2_with fail
 go_ret
 exact ⟨ret_bool (by simp), rfl⟩
theorem isPart_of (n : Int) (w : World) : Calls Tryz.prog 251 #[.int .i64 n] w (Gives (.bool (decide (0 ≤ n ∧ n ≤ 7))) w) := by
 have HW := qq (within_of n 0 7 w)
 go_enter Tryz.func251, Tryz.ntmps251
 go_wp2_with fail
 refine HW.out.mono ?_
 rintro e w1 ⟨rfl, rfl⟩
 go_wp2_with fail
 go_ret
 exact ⟨ret_bool (by simp), rfl⟩
theorem isState_of (s h : Int) (w : World) : Calls Tryz.prog 252 #[.int .i64 s, .int .i64 h] w (Gives (.bool (stOk s h)) w) := by
 have HW := qq (within_of h 4 8 w)
 have HX := qq (within_of s 1 13 w)
 unfold stOk
 by_cases h1 : s = 14
 · rw [if_pos h1]
   have e1 : (s == 14) = true := by simpa using h1
   by_cases h2 : h = 1
   · have e2 : (h == 1) = true := by simpa using h2
     rw [decide_eq_true (Or.inl h2)]
     clear h1 h2
     go_enter Tryz.func252, Tryz.ntmps252
     go_wp2_with fail
     go_ret
     exact ⟨rfl, rfl⟩
   · have e2 : (h == 1) = false := by simpa using h2
     have hd : decide (h = 1 ∨ 4 ≤ h ∧ h ≤ 8) = decide (4 ≤ h ∧ h ≤ 8) := decide_eq_decide.2 ⟨fun x => x.resolve_left h2, Or.inr⟩
     rw [hd]
     clear h1 h2 hd
     generalize decide (4 ≤ h ∧ h ≤ 8) = d at *
     go_enter Tryz.func252, Tryz.ntmps252
     go_wp2_with fail
     refine HW.out.mono ?_
     rintro e w1 ⟨rfl, rfl⟩
     go_wp2_with fail
     go_ret
     exact ⟨rfl, rfl⟩
 · rw [if_neg h1]
   have e1 : (s == 14) = false := by simpa using h1
   by_cases h2 : 1 ≤ s ∧ s ≤ 13
   · rw [decide_eq_true h2] at HX
     have hd : decide (1 ≤ s ∧ s ≤ 13 ∧ h = 0) = decide (h = 0) := decide_eq_decide.2 ⟨fun x => x.2.2, fun x => ⟨h2.1, h2.2, x⟩⟩
     rw [hd]
     clear h1 h2 hd
     have e2 : (h == 0) = decide (h = 0) := by by_cases h0 : h = 0 <;> simp [h0]
     generalize decide (h = 0) = d at *
     go_enter Tryz.func252, Tryz.ntmps252
     go_wp2_with fail
     refine HX.out.mono ?_
     rintro e w1 ⟨rfl, rfl⟩
     go_wp2_with fail
     go_ret
     exact ⟨rfl, rfl⟩
   · rw [decide_eq_false h2] at HX
     have hd : decide (1 ≤ s ∧ s ≤ 13 ∧ h = 0) = false := decide_eq_false (fun x => h2 ⟨x.1, x.2.1⟩)
     rw [hd]
     clear h1 h2 hd
     go_enter Tryz.func252, Tryz.ntmps252
     go_wp2_with fail
     refine HX.out.mono ?_
     rintro e w1 ⟨rfl, rfl⟩
     go_wp2_with fail
     go_ret
     exact ⟨rfl, rfl⟩
theorem isOutcome_of (n : Int) (w : World) : Calls Tryz.prog 222 #[.int .i64 n] w (Gives (.bool (decide (n = 1 ∨ n = 2))) w) := by
 by_cases h1 : n = 1
 · have e1 : (n == 1) = true := by simpa using h1
   rw [decide_eq_true (Or.inl h1)]
   clear h1
   go_enter Tryz.func222, Tryz.ntmps222
   go_wp2_with fail
   go_ret
   exact ⟨rfl, rfl⟩
 · have e1 : (n == 1) = false := by simpa using h1
   have hd : (n == 2) = decide (n = 1 ∨ n = 2) := by
    rw [show decide (n = 1 ∨ n = 2) = decide (n = 2) from decide_eq_decide.2 ⟨fun x => x.resolve_left h1, Or.inr⟩]
    by_cases h0 : n = 2 <;> simp [h0]
   clear h1
   generalize decide (n = 1 ∨ n = 2) = d at *
   go_enter Tryz.func222, Tryz.ntmps222
   go_wp2_with fail
   go_ret
   exact ⟨rfl, rfl⟩
theorem forder_self (x : Nat) (hx : F64 x) (hd : fdelay x = true) : (forder (fplain x) x == 0) = decide (fplain x = x) := by
 have hn : fnan x = false := by
  unfold fdelay at hd
  simp only [Bool.and_eq_true, Bool.not_eq_true'] at hd
  exact hd.1
 unfold fplain
 rw [hn]
 simp only [Bool.false_eq_true, if_false]
 by_cases h0 : x = 9223372036854775808
 · subst h0
   decide +kernel
 · rw [if_neg h0, decide_eq_true rfl]
   simp [forder]
theorem scopeRight_of (n q oc dp : Int) (ex : Nat) (hx : F64 ex) (ea : Int → Addr) (w : World) (h : EnvS ea w) :
    Calls Tryz.prog 133 #[.agg #[n, q, oc, dp, flV ex]] w (Makes (.bool (ctxOk n q oc dp ex)) w) := by
 have HK := qq (Blk.fresh w #[n, q, oc, dp, flV ex] 48 _ rfl)
 have HB := qq ((Below.refl w.heap.size w).alloc (Nat.le_refl _) (.cells #[n, q, oc, dp, flV ex] 48))
 have HE := qq (h.below HB.out)
 have HO := qq (fun W => forder_of (fplain ex) ex (by unfold fplain; split <;> (try split) <;> first | exact hx | (unfold F64; omega)) hx W)
 have HI := qq (fun W hW => idRight_of n q ea W hW)
 have HU := qq (fun W => isOutcome_of oc W)
 unfold ctxOk
 cases hd : fdelay ex with
 | false =>
  have HD := qq (fun W (hW : EnvS ea W) => delay_no ex hx hd (ea 4) W hW.e.e4)
  clear h hd
  go_enter Tryz.func133, Tryz.ntmps133
  go_wp2_with fail
  refine (HD.out _ HE.out).mono ?_
  rintro e w1 ⟨rfl, hb1⟩
  go_wp2_with fail
  go_ret
  exact ⟨rfl, below_then HB.out hb1⟩
 | true =>
  have HD := qq (fun W => delay_yes ex hx hd W)
  have hf := forder_self ex hx hd
  clear h hd
  obtain ⟨o, ho⟩ : ∃ o, o = forder (fplain ex) ex := ⟨_, rfl⟩
  rw [← ho] at HO hf
  clear ho
  obtain ⟨qc, fc⟩ := HK.out.out
  by_cases h1 : fplain ex = ex
  · rw [decide_eq_true h1] at hf ⊢
    clear h1
    cases hi : idOk n q
    all_goals rw [hi] at HI
    · clear hi
      go_enter Tryz.func133, Tryz.ntmps133
      go_wp2_with fail
      refine (HD.out _).mono ?_
      rintro e w1 ⟨rfl, rfl⟩
      go_wp2_with fail
      refine (HO.out _).mono ?_
      rintro e w1 ⟨rfl, rfl⟩
      go_wp2_with fail
      refine (HI.out _ HE.out).mono ?_
      rintro e w1 ⟨rfl, hb1⟩
      clear qc fc
      obtain ⟨qc, fc⟩ := (HK.out.below hb1).out
      go_wp2_with fail
      go_ret
      first | exact ⟨rfl, below_then HB.out hb1⟩ | exact ⟨ret_bool (by simp; omega), below_then HB.out hb1⟩
    · clear hi
      by_cases h2 : oc = 1 ∨ oc = 2
      · rw [decide_eq_true h2] at HU
        by_cases h3 : 0 ≤ dp
        · by_cases h4 : dp ≤ 3
          · rw [decide_eq_true ⟨h2, h3, h4⟩]
            clear h2
            go_enter Tryz.func133, Tryz.ntmps133
            go_wp2_with fail
            refine (HD.out _).mono ?_
            rintro e w1 ⟨rfl, rfl⟩
            go_wp2_with fail
            refine (HO.out _).mono ?_
            rintro e w1 ⟨rfl, rfl⟩
            go_wp2_with fail
            refine (HI.out _ HE.out).mono ?_
            rintro e w1 ⟨rfl, hb1⟩
            clear qc fc
            obtain ⟨qc, fc⟩ := (HK.out.below hb1).out
            go_wp2_with fail
            refine (HU.out _).mono ?_
            rintro e w2 ⟨rfl, rfl⟩
            go_wp2_with fail
            go_ret
            first | exact ⟨rfl, below_then HB.out hb1⟩ | exact ⟨ret_bool (by simp; omega), below_then HB.out hb1⟩
          · rw [decide_eq_false (fun h => h4 h.2.2)]
            clear h2
            go_enter Tryz.func133, Tryz.ntmps133
            go_wp2_with fail
            refine (HD.out _).mono ?_
            rintro e w1 ⟨rfl, rfl⟩
            go_wp2_with fail
            refine (HO.out _).mono ?_
            rintro e w1 ⟨rfl, rfl⟩
            go_wp2_with fail
            refine (HI.out _ HE.out).mono ?_
            rintro e w1 ⟨rfl, hb1⟩
            clear qc fc
            obtain ⟨qc, fc⟩ := (HK.out.below hb1).out
            go_wp2_with fail
            refine (HU.out _).mono ?_
            rintro e w2 ⟨rfl, rfl⟩
            go_wp2_with fail
            go_ret
            first | exact ⟨rfl, below_then HB.out hb1⟩ | exact ⟨ret_bool (by simp; omega), below_then HB.out hb1⟩
        · rw [decide_eq_false (fun h => h3 h.2.1)]
          clear h2
          go_enter Tryz.func133, Tryz.ntmps133
          go_wp2_with fail
          refine (HD.out _).mono ?_
          rintro e w1 ⟨rfl, rfl⟩
          go_wp2_with fail
          refine (HO.out _).mono ?_
          rintro e w1 ⟨rfl, rfl⟩
          go_wp2_with fail
          refine (HI.out _ HE.out).mono ?_
          rintro e w1 ⟨rfl, hb1⟩
          clear qc fc
          obtain ⟨qc, fc⟩ := (HK.out.below hb1).out
          go_wp2_with fail
          refine (HU.out _).mono ?_
          rintro e w2 ⟨rfl, rfl⟩
          go_wp2_with fail
          go_ret
          first | exact ⟨rfl, below_then HB.out hb1⟩ | exact ⟨ret_bool (by simp; omega), below_then HB.out hb1⟩
      · rw [decide_eq_false h2] at HU
        rw [decide_eq_false (fun h => h2 h.1)]
        clear h2
        go_enter Tryz.func133, Tryz.ntmps133
        go_wp2_with fail
        refine (HD.out _).mono ?_
        rintro e w1 ⟨rfl, rfl⟩
        go_wp2_with fail
        refine (HO.out _).mono ?_
        rintro e w1 ⟨rfl, rfl⟩
        go_wp2_with fail
        refine (HI.out _ HE.out).mono ?_
        rintro e w1 ⟨rfl, hb1⟩
        clear qc fc
        obtain ⟨qc, fc⟩ := (HK.out.below hb1).out
        go_wp2_with fail
        refine (HU.out _).mono ?_
        rintro e w2 ⟨rfl, rfl⟩
        go_wp2_with fail
        go_ret
        first | exact ⟨rfl, below_then HB.out hb1⟩ | exact ⟨ret_bool (by simp; omega), below_then HB.out hb1⟩
  · rw [decide_eq_false h1] at hf ⊢
    clear h1
    go_enter Tryz.func133, Tryz.ntmps133
    go_wp2_with fail
    refine (HD.out _).mono ?_
    rintro e w1 ⟨rfl, rfl⟩
    go_wp2_with fail
    refine (HO.out _).mono ?_
    rintro e w1 ⟨rfl, rfl⟩
    go_wp2_with fail
    go_ret
    exact ⟨rfl, HB.out⟩
open Go.RowKit Go.Shelf
theorem bits_of (x : Nat) (hx : F64 x) (w : World) : Calls Tryz.prog 217 #[flV x] w (Gives (.int .u64 (fplain x : Nat)) w) := by
 have HP := qq (fun W => plain_of x hx W)
 have hb := bits_run (fplain x)
 go_enter Tryz.func217, Tryz.ntmps217
 go_wp2_with fail
 refine (HP.out _).mono ?_
 rintro e w1 ⟨rfl, rfl⟩
 go_wp2_with fail
 go_ret
 exact ⟨rfl, rfl⟩
theorem fl0 (d : Nat) (w : World) : (Op.equalIn (d + 1) 37 (.float .f64 0) (.float .f64 0)).run Tryz.prog w = .ok true w := by
 have hz : Op.floatEq FloatKind.f64 0 0 = true := by kernel_rfl
 simp [Op.equalIn, run_underlying Tryz.underlying37, hz]
theorem fl00 (w : World) : (Op.equalIn 9999 37 (.float .f64 0) (.float .f64 0)).run Tryz.prog w = .ok true w := fl0 9998 w
theorem factEq (T : TypeId) (hT : T = 39) (a0 a1 a2 a3 a4 a5 a6 a7 a8 a9 a10 a11 a12 b0 b1 b2 b3 b4 b5 b6 b7 b8 b9 b10 b11 b12 : Int) (w : World) :
    (binOp .eql T (.agg #[a0, a1, a2, a3, a4, a5, a6, a7, a8, a9, a10, a11, a12, .float .f64 0]) (.agg #[b0, b1, b2, b3, b4, b5, b6, b7, b8, b9, b10, b11, b12, .float .f64 0])).run Tryz.prog w = .ok (.bool (a0 == b0 && (a1 == b1 && (a2 == b2 && (a3 == b3 && (a4 == b4 && (a5 == b5 && (a6 == b6 && (a7 == b7 && (a8 == b8 && (a9 == b9 && (a10 == b10 && (a11 == b11 && (a12 == b12)))))))))))))) w := by
 subst hT
 have hz := fl00
 go_simp
 by_cases h0 : a0 = b0
 · rw [if_pos h0, beq_iff_eq.2 h0]
   by_cases h1 : a1 = b1
   · rw [if_pos h1, beq_iff_eq.2 h1]
     by_cases h2 : a2 = b2
     · rw [if_pos h2, beq_iff_eq.2 h2]
       by_cases h3 : a3 = b3
       · rw [if_pos h3, beq_iff_eq.2 h3]
         by_cases h4 : a4 = b4
         · rw [if_pos h4, beq_iff_eq.2 h4]
           by_cases h5 : a5 = b5
           · rw [if_pos h5, beq_iff_eq.2 h5]
             by_cases h6 : a6 = b6
             · rw [if_pos h6, beq_iff_eq.2 h6]
               by_cases h7 : a7 = b7
               · rw [if_pos h7, beq_iff_eq.2 h7]
                 by_cases h8 : a8 = b8
                 · rw [if_pos h8, beq_iff_eq.2 h8]
                   by_cases h9 : a9 = b9
                   · rw [if_pos h9, beq_iff_eq.2 h9]
                     by_cases h10 : a10 = b10
                     · rw [if_pos h10, beq_iff_eq.2 h10]
                       by_cases h11 : a11 = b11
                       · rw [if_pos h11, beq_iff_eq.2 h11]
                         by_cases h12 : a12 = b12 <;> simp [h12]
                       · simp [h11]
                     · simp [h10]
                   · simp [h9]
                 · simp [h8]
               · simp [h7]
             · simp [h6]
           · simp [h5]
         · simp [h4]
       · simp [h3]
     · simp [h2]
   · simp [h1]
 · simp [h0]
end Go.Proofs.YtlkajejbfojkeaaGreatDoor
