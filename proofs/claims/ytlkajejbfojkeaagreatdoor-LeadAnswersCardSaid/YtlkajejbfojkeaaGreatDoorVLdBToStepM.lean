/- LdB, StepM -/
import Derived.Test.YtlkajejbfojkeaaGreatDoorVRfcBToLdA
set_option linter.unusedSimpArgs false
set_option linter.unusedVariables false
set_option maxRecDepth 100000
set_option maxHeartbeats 16000000
namespace Go.Proofs.YtlkajejbfojkeaaGreatDoor
open Go.RowKit
attribute [local go_sem] store_float
theorem RegC.grown {w w' : World} {b o : Nat} {r : SReg} {row : Option Nat} (h : RegC w b o r) (hg : w.grownBy w' row) (hne : row ≠ some b) : RegC w' b o r :=
 ⟨hg.cell h.1 (fun e => hne e.symm), hg.cell h.2.1 (fun e => hne e.symm), hg.cell h.2.2.1 (fun e => hne e.symm), hg.cell h.2.2.2.1 (fun e => hne e.symm), hg.cell h.2.2.2.2.1 (fun e => hne e.symm), hg.cell h.2.2.2.2.2 (fun e => hne e.symm)⟩
theorem lfind_none (L : SLoc) (S : Sto) (an aq rg : Int) (w : World) (h : StoreAt L S w) (hG : StoGood S) (hg : lGet S an aq = none) : Calls Tryz.prog 163 #[.pointer (some ⟨L.sb, 0, none⟩), .agg #[an, aq], .int .i64 rg] w (Makes (.tuple #[.agg #[.int .i64 0, .int .i64 0, .int .i64 0, .int .i64 0, .int .i64 0, .int .i64 0, .int .i64 0, .int .i64 0, .int .i64 0, .int .i64 0, .float .f64 0, .int .i64 0, .int .i64 0, .slice none 0 0, .int .i64 0, .int .i64 0], .bool false, .bool false]) w) := by
 have HF := qq (fun W hW => Find_no L S an aq W hW hG hg)
 have H := qq h
 clear h hG hg
 go_enter Tryz.func163, Tryz.ntmps163
 go_wp2_with fail
 refine (HF.out _ (H.out.below (by go_grown))).mono ?_
 rintro e w1 ⟨rfl, hb1⟩
 have B1 : Below w.heap.size w w1 := below_then (by go_grown) hb1
 have hz : w.heap.size + 1 < w1.heap.size := by have := hb1.size; simp at this; omega
 have HT1 : Hid (w1.heap[w.heap.size + 1]? = some (.cells #[.int .i64 0, .int .i64 0, .int .i64 0, .int .i64 0, .int .i64 0, .int .i64 0, .int .i64 0, .int .i64 0, .int .i64 0, .int .i64 0, .float .f64 0, .int .i64 0, .int .i64 0, .slice none 0 0, .int .i64 0, .int .i64 0] 247 (0, 0))) := qq ((hb1.block _ (by simp)).trans (by rw [show w.heap.size + 1 = (w.alloc (.cells #[an, aq] 36)).heap.size by simp]; exact heap_alloc_new _ _))
 have HT0 : Hid ((w1.alloc (.cells #[.int .i64 0, .int .i64 0, .int .i64 0, .int .i64 0, .float .f64 0, .int .i64 0, .int .i64 0, .slice none 0 0] 51)).heap[w.heap.size + 1]? = some (.cells #[.int .i64 0, .int .i64 0, .int .i64 0, .int .i64 0, .int .i64 0, .int .i64 0, .int .i64 0, .int .i64 0, .int .i64 0, .int .i64 0, .float .f64 0, .int .i64 0, .int .i64 0, .slice none 0 0, .int .i64 0, .int .i64 0] 247 (0, 0))) := qq ((((Below.refl w1.heap.size w1).alloc (Nat.le_refl _) _).block _ hz).trans HT1.out)
 clear hb1
 go_wp2_with (refine wpList_store_row rfl 247 (.tmp 6) (.tmp 30) rfl (w.heap.size + 1) #[.int .i64 0, .int .i64 0, .int .i64 0, .int .i64 0, .int .i64 0, .int .i64 0, .int .i64 0, .int .i64 0, .int .i64 0, .int .i64 0, .float .f64 0, .int .i64 0, .int .i64 0, .slice none 0 0, .int .i64 0, .int .i64 0] rfl rfl 247 #[.int .i64 0, .int .i64 0, .int .i64 0, .int .i64 0, .int .i64 0, .int .i64 0, .int .i64 0, .int .i64 0, .int .i64 0, .int .i64 0, .float .f64 0, .int .i64 0, .int .i64 0, .slice none 0 0, .int .i64 0, .int .i64 0] HT0.out (by kernel_rfl) rfl (by simp [Value.oneCell']) ?_)
 obtain ⟨HFr, hgr⟩ := row_end (cells := #[.int .i64 0, .int .i64 0, .int .i64 0, .int .i64 0, .int .i64 0, .int .i64 0, .int .i64 0, .int .i64 0, .int .i64 0, .int .i64 0, .float .f64 0, .int .i64 0, .int .i64 0, .slice none 0 0, .int .i64 0, .int .i64 0]) HT0.out
 obtain ⟨q1, f1⟩ := HFr.out
 exact bodyPost_ret (v := .tuple #[.agg #[.int .i64 0, .int .i64 0, .int .i64 0, .int .i64 0, .int .i64 0, .int .i64 0, .int .i64 0, .int .i64 0, .int .i64 0, .int .i64 0, .float .f64 0, .int .i64 0, .int .i64 0, .slice none 0 0, .int .i64 0, .int .i64 0], .bool false, .bool false]) (by simp [results, Tryz.results163, go_sem, q1, f1]) rfl ⟨rfl, (show Below w.heap.size w (World.alloc _ _) by go_grown).grown hgr (by first | omega | (simp; done) | (simp; omega)) (fun k hk => by injection hk with hk; omega)⟩
theorem lfind_noreg (L : SLoc) (S : Sto) (na qa rg : Int) (i : Nat) (a : SAct) (w : World) (h : StoreAt L S w) (hG : StoGood S) (hg : lGet S na qa = some (i, a)) (hr : lReg a rg = none) : Calls Tryz.prog 163 #[.pointer (some ⟨L.sb, 0, none⟩), .agg #[na, qa], .int .i64 rg] w (Makes (.tuple #[.agg #[.int .i64 0, .int .i64 0, .int .i64 0, .int .i64 0, .int .i64 0, .int .i64 0, .int .i64 0, .int .i64 0, .int .i64 0, .int .i64 0, .float .f64 0, .int .i64 0, .int .i64 0, .slice none 0 0, .int .i64 0, .int .i64 0], .bool true, .bool false]) w) := by
 have HF := qq (fun W hW => Find_yes L S na qa i a W hW hG hg)
 have H := qq h
 have h6 := (hG.act a (lGet_some hg).2.2.1).len
 obtain ⟨ha1, ha2⟩ := (lGet_some hg).2.2.2
 obtain ⟨an, aq, oc, dp, ex, pa, de, rs⟩ := a
 dsimp only at ha1 ha2 h6
 subst ha1 ha2
 unfold ActOut at HF
 dsimp only [actC] at HF
 have hc : rg < 0 ∨ (rs.length : Int) ≤ rg := by
  unfold lReg at hr
  split at hr
  · right
    have := List.getElem?_eq_none_iff.1 hr
    dsimp only at this
    omega
  · left; omega
 obtain ⟨n, hn⟩ : ∃ n, n = rs.length := ⟨_, rfl⟩
 rw [← hn] at hc HF
 have HN := qq hn
 clear h hG hg hr hn h6
 by_cases h0 : rg < 0
 · have d0 : decide (rg < 0) = true := decide_eq_true h0
   clear hc
   go_enter Tryz.func163, Tryz.ntmps163
   go_wp2_with fail
   refine (HF.out _ (H.out.below (by go_grown))).mono ?_
   rintro e w1 ⟨v', rfl, ho, hb1⟩
   have B1 : Below w.heap.size w w1 := below_then (by go_grown) hb1
   have hz : w.heap.size + 1 < w1.heap.size := by have := hb1.size; simp at this; omega
   have HT1 : Hid (w1.heap[w.heap.size + 1]? = some (.cells #[.int .i64 0, .int .i64 0, .int .i64 0, .int .i64 0, .int .i64 0, .int .i64 0, .int .i64 0, .int .i64 0, .int .i64 0, .int .i64 0, .float .f64 0, .int .i64 0, .int .i64 0, .slice none 0 0, .int .i64 0, .int .i64 0] 247 (0, 0))) := qq ((hb1.block _ (by simp)).trans (by rw [show w.heap.size + 1 = (w.alloc (.cells #[an, aq] 36)).heap.size by simp]; exact heap_alloc_new _ _))
   obtain ⟨va, vc, rfl, hlen, hrow⟩ := reg_row ho
   have HT0 : Hid ((w1.alloc (.cells #[an, aq, oc, dp, .float .f64 ex, pa, de, .slice va n vc] 51)).heap[w.heap.size + 1]? = some (.cells #[.int .i64 0, .int .i64 0, .int .i64 0, .int .i64 0, .int .i64 0, .int .i64 0, .int .i64 0, .int .i64 0, .int .i64 0, .int .i64 0, .float .f64 0, .int .i64 0, .int .i64 0, .slice none 0 0, .int .i64 0, .int .i64 0] 247 (0, 0))) := qq ((((Below.refl w1.heap.size w1).alloc (Nat.le_refl _) _).block _ hz).trans HT1.out)
   clear hb1 ho hlen hrow
   go_wp2_with (refine wpList_store_row rfl 247 (.tmp 6) (.tmp 30) rfl (w.heap.size + 1) #[.int .i64 0, .int .i64 0, .int .i64 0, .int .i64 0, .int .i64 0, .int .i64 0, .int .i64 0, .int .i64 0, .int .i64 0, .int .i64 0, .float .f64 0, .int .i64 0, .int .i64 0, .slice none 0 0, .int .i64 0, .int .i64 0] rfl rfl 247 #[.int .i64 0, .int .i64 0, .int .i64 0, .int .i64 0, .int .i64 0, .int .i64 0, .int .i64 0, .int .i64 0, .int .i64 0, .int .i64 0, .float .f64 0, .int .i64 0, .int .i64 0, .slice none 0 0, .int .i64 0, .int .i64 0] HT0.out (by kernel_rfl) rfl (by simp [Value.oneCell']) ?_)
   obtain ⟨HFr, hgr⟩ := row_end (cells := #[.int .i64 0, .int .i64 0, .int .i64 0, .int .i64 0, .int .i64 0, .int .i64 0, .int .i64 0, .int .i64 0, .int .i64 0, .int .i64 0, .float .f64 0, .int .i64 0, .int .i64 0, .slice none 0 0, .int .i64 0, .int .i64 0]) HT0.out
   obtain ⟨q1, f1⟩ := HFr.out
   exact bodyPost_ret (v := .tuple #[.agg #[.int .i64 0, .int .i64 0, .int .i64 0, .int .i64 0, .int .i64 0, .int .i64 0, .int .i64 0, .int .i64 0, .int .i64 0, .int .i64 0, .float .f64 0, .int .i64 0, .int .i64 0, .slice none 0 0, .int .i64 0, .int .i64 0], .bool true, .bool false]) (by simp [results, Tryz.results163, go_sem, q1, f1]) rfl ⟨rfl, (show Below w.heap.size w (World.alloc _ _) by go_grown).grown hgr (by first | omega | (simp; done) | (simp; omega)) (fun k hk => by injection hk with hk; omega)⟩
 · have d0 : decide (rg < 0) = false := decide_eq_false h0
   have d1 : decide ((n : Int) ≤ rg) = true := decide_eq_true (hc.resolve_left h0)
   clear hc
   go_enter Tryz.func163, Tryz.ntmps163
   go_wp2_with fail
   refine (HF.out _ (H.out.below (by go_grown))).mono ?_
   rintro e w1 ⟨v', rfl, ho, hb1⟩
   have B1 : Below w.heap.size w w1 := below_then (by go_grown) hb1
   have hz : w.heap.size + 1 < w1.heap.size := by have := hb1.size; simp at this; omega
   have HT1 : Hid (w1.heap[w.heap.size + 1]? = some (.cells #[.int .i64 0, .int .i64 0, .int .i64 0, .int .i64 0, .int .i64 0, .int .i64 0, .int .i64 0, .int .i64 0, .int .i64 0, .int .i64 0, .float .f64 0, .int .i64 0, .int .i64 0, .slice none 0 0, .int .i64 0, .int .i64 0] 247 (0, 0))) := qq ((hb1.block _ (by simp)).trans (by rw [show w.heap.size + 1 = (w.alloc (.cells #[an, aq] 36)).heap.size by simp]; exact heap_alloc_new _ _))
   obtain ⟨va, vc, rfl, hlen, hrow⟩ := reg_row ho
   have HT0 : Hid ((w1.alloc (.cells #[an, aq, oc, dp, .float .f64 ex, pa, de, .slice va n vc] 51)).heap[w.heap.size + 1]? = some (.cells #[.int .i64 0, .int .i64 0, .int .i64 0, .int .i64 0, .int .i64 0, .int .i64 0, .int .i64 0, .int .i64 0, .int .i64 0, .int .i64 0, .float .f64 0, .int .i64 0, .int .i64 0, .slice none 0 0, .int .i64 0, .int .i64 0] 247 (0, 0))) := qq ((((Below.refl w1.heap.size w1).alloc (Nat.le_refl _) _).block _ hz).trans HT1.out)
   clear hb1 ho hlen hrow
   go_wp2_with (refine wpList_store_row rfl 247 (.tmp 6) (.tmp 30) rfl (w.heap.size + 1) #[.int .i64 0, .int .i64 0, .int .i64 0, .int .i64 0, .int .i64 0, .int .i64 0, .int .i64 0, .int .i64 0, .int .i64 0, .int .i64 0, .float .f64 0, .int .i64 0, .int .i64 0, .slice none 0 0, .int .i64 0, .int .i64 0] rfl rfl 247 #[.int .i64 0, .int .i64 0, .int .i64 0, .int .i64 0, .int .i64 0, .int .i64 0, .int .i64 0, .int .i64 0, .int .i64 0, .int .i64 0, .float .f64 0, .int .i64 0, .int .i64 0, .slice none 0 0, .int .i64 0, .int .i64 0] HT0.out (by kernel_rfl) rfl (by simp [Value.oneCell']) ?_)
   obtain ⟨HFr, hgr⟩ := row_end (cells := #[.int .i64 0, .int .i64 0, .int .i64 0, .int .i64 0, .int .i64 0, .int .i64 0, .int .i64 0, .int .i64 0, .int .i64 0, .int .i64 0, .float .f64 0, .int .i64 0, .int .i64 0, .slice none 0 0, .int .i64 0, .int .i64 0]) HT0.out
   obtain ⟨q1, f1⟩ := HFr.out
   exact bodyPost_ret (v := .tuple #[.agg #[.int .i64 0, .int .i64 0, .int .i64 0, .int .i64 0, .int .i64 0, .int .i64 0, .int .i64 0, .int .i64 0, .int .i64 0, .int .i64 0, .float .f64 0, .int .i64 0, .int .i64 0, .slice none 0 0, .int .i64 0, .int .i64 0], .bool true, .bool false]) (by simp [results, Tryz.results163, go_sem, q1, f1]) rfl ⟨rfl, (show Below w.heap.size w (World.alloc _ _) by go_grown).grown hgr (by first | omega | (simp; done) | (simp; omega)) (fun k hk => by injection hk with hk; omega)⟩
def SeatOut (a : SAct) (r : SReg) (nd rg : Int) (w : World) (e : Ending) (w' : World) : Prop := ∃ va n vc, e = .returned (.tuple #[.agg #[r.n, r.p, r.seat.p, r.seat.d, r.seat.s, r.seat.h, a.an, a.aq, a.oc, a.dp, .float .f64 a.ex, a.pa, a.de, .slice va n vc, nd, rg], .bool true, .bool true]) ∧ Below w.heap.size w w'
theorem lfind_yes (L : SLoc) (S : Sto) (na qa rg : Int) (i : Nat) (a : SAct) (r : SReg) (w : World) (h : StoreAt L S w) (hG : StoGood S) (hg : lGet S na qa = some (i, a)) (hr : lReg a rg = some r) : Calls Tryz.prog 163 #[.pointer (some ⟨L.sb, 0, none⟩), .agg #[na, qa], .int .i64 rg] w (SeatOut a r S.node rg w) := by
 have HF := qq (fun W hW => Find_yes L S na qa i a W hW hG hg)
 have H := qq h
 have h6 := (hG.act a (lGet_some hg).2.2.1).len
 obtain ⟨ha1, ha2⟩ := (lGet_some hg).2.2.2
 obtain ⟨an, aq, oc, dp, ex, pa, de, rs⟩ := a
 dsimp only at ha1 ha2 h6
 subst ha1 ha2
 unfold ActOut at HF
 dsimp only [actC] at HF
 have HND := qq (fun W hW => node_of L S W hW)
 obtain ⟨nd, hnd⟩ : ∃ nd, nd = S.node := ⟨_, rfl⟩
 rw [← hnd] at HND ⊢
 have hc : 0 ≤ rg ∧ rs[rg.toNat]? = some r := by
  unfold lReg at hr
  split at hr
  · exact ⟨by assumption, hr⟩
  · cases hr
 obtain ⟨h0, hgr0⟩ := hc
 obtain ⟨j, rfl⟩ : ∃ j : Nat, rg = j := ⟨rg.toNat, by omega⟩
 rw [Int.toNat_natCast] at hgr0
 have hlt := (List.getElem?_eq_some_iff.1 hgr0).1
 obtain ⟨n, hn⟩ : ∃ n, n = rs.length := ⟨_, rfl⟩
 rw [← hn] at hlt HF h6
 obtain ⟨rn, rp, ⟨sp, sd, ss, sh⟩⟩ := r
 have HN := qq hn; have HGR := qq hgr0
 have hj0 : (0 : Int) ≤ (j : Int) := by omega
 have hj1 : (j : Int) < (n : Int) := by omega
 have d0 : decide ((j : Int) < 0) = false := decide_eq_false (by omega)
 have d1 : decide ((n : Int) ≤ (j : Int)) = false := decide_eq_false (by omega)
 have d2 : decide (n ≤ j) = false := decide_eq_false (by omega)
 clear h hG hg hr hn hgr0 h0 hnd
 go_enter Tryz.func163, Tryz.ntmps163
 go_wp2_with fail
 refine (HF.out _ (H.out.below (by go_grown))).mono ?_
 rintro e w1 ⟨v', rfl, ho, hb1⟩
 have B1 : Below w.heap.size w w1 := below_then (by go_grown) hb1
 have hz : w.heap.size + 1 < w1.heap.size := by have := hb1.size; simp at this; omega
 have HT1 : Hid (w1.heap[w.heap.size + 1]? = some (.cells #[.int .i64 0, .int .i64 0, .int .i64 0, .int .i64 0, .int .i64 0, .int .i64 0, .int .i64 0, .int .i64 0, .int .i64 0, .int .i64 0, .float .f64 0, .int .i64 0, .int .i64 0, .slice none 0 0, .int .i64 0, .int .i64 0] 247 (0, 0))) := qq ((hb1.block _ (by simp)).trans (by rw [show w.heap.size + 1 = (w.alloc (.cells #[an, aq] 36)).heap.size by simp]; exact heap_alloc_new _ _))
 obtain ⟨va, vc, rfl, hlen, hrow⟩ := reg_row ho
 obtain ⟨g, rfl, hgl, hfz, hcell⟩ := hrow (by omega)
 have hat := hcell j ⟨rn, rp, ⟨sp, sd, ss, sh⟩⟩ HGR.out
 have hgw := (ho.lt g (by simp [Value.ownBlock])).1
 have HA1 := qq (Blk.fresh w1 #[an, aq, oc, dp, .float .f64 ex, pa, de, .slice (some ⟨g, 0, none⟩) n vc] 51 _ rfl)
 have HRC : Hid (RegC (World.drew (w1.alloc (.cells #[an, aq, oc, dp, .float .f64 ex, pa, de, .slice (some ⟨g, 0, none⟩) n vc] 51))) g (j * 6) ⟨rn, rp, ⟨sp, sd, ss, sh⟩⟩) := qq (hat.below (by go_grown) hgl)
 have HSt := qq (H.out.below (show Below w.heap.size w (World.drew (w1.alloc (.cells #[an, aq, oc, dp, .float .f64 ex, pa, de, .slice (some ⟨g, 0, none⟩) n vc] 51))) by go_grown))
 have HB : Hid (Below w.heap.size w (World.drew (w1.alloc (.cells #[an, aq, oc, dp, .float .f64 ex, pa, de, .slice (some ⟨g, 0, none⟩) n vc] 51)))) := qq (by go_grown)
 have HT0 : Hid ((World.drew (w1.alloc (.cells #[an, aq, oc, dp, .float .f64 ex, pa, de, .slice (some ⟨g, 0, none⟩) n vc] 51))).heap[w.heap.size + 1]? = some (.cells #[.int .i64 0, .int .i64 0, .int .i64 0, .int .i64 0, .int .i64 0, .int .i64 0, .int .i64 0, .int .i64 0, .int .i64 0, .int .i64 0, .float .f64 0, .int .i64 0, .int .i64 0, .slice none 0 0, .int .i64 0, .int .i64 0] 247 (0, 0))) := qq ((((Below.refl w1.heap.size w1).alloc (Nat.le_refl _) _).block _ hz).trans HT1.out)
 have hgn : ¬ w.heap.size + 1 = g := by simp at hgw; omega
 clear hb1 ho hlen hcell hfz hat
 have qA := HA1.out.cell
 go_wp2_with fail
 clear qA
 refine wp_region_held_drew (S := fun w' => Blk w' w1.heap.size #[an, aq, oc, dp, .float .f64 ex, pa, de, .slice (some ⟨g, 0, none⟩) n vc] ∧ RegC w' g (j * 6) ⟨rn, rp, ⟨sp, sd, ss, sh⟩⟩) (by kernel_rfl) (⟨HA1.out.drew, HRC.out⟩) (fun hHeld => ?_)
 generalize (World.drew (w1.alloc (.cells #[an, aq, oc, dp, .float .f64 ex, pa, de, .slice (some ⟨g, 0, none⟩) n vc] 51))) = w2 at *
 refine takeU (d := some 32) 0 rfl rfl hHeld (fun w' hS' => by have qA := hS'.1.cell; obtain ⟨c0, c1, c2, c3, c4, c5⟩ := hS'.2; dsimp only at c0 c1 c2 c3 c4 c5; clear hS'; go_simp; (try rfl)) ?_
 simp only [puts]
 refine takeU (d := some 33) 1 rfl rfl hHeld (fun w' hS' => by have qA := hS'.1.cell; obtain ⟨c0, c1, c2, c3, c4, c5⟩ := hS'.2; dsimp only at c0 c1 c2 c3 c4 c5; clear hS'; go_simp; (try rfl)) ?_
 simp only [puts]
 refine takeU (d := some 34) 2 rfl rfl hHeld (fun w' hS' => by have qA := hS'.1.cell; obtain ⟨c0, c1, c2, c3, c4, c5⟩ := hS'.2; dsimp only at c0 c1 c2 c3 c4 c5; clear hS'; go_simp; (try rfl)) ?_
 simp only [puts]
 refine takeU (d := some 35) 3 rfl rfl hHeld (fun w' hS' => by have qA := hS'.1.cell; obtain ⟨c0, c1, c2, c3, c4, c5⟩ := hS'.2; dsimp only at c0 c1 c2 c3 c4 c5; clear hS'; go_simp; (try rfl)) ?_
 simp only [puts]
 refine takeU (d := some 36) 4 rfl rfl hHeld (fun w' hS' => by have qA := hS'.1.cell; obtain ⟨c0, c1, c2, c3, c4, c5⟩ := hS'.2; dsimp only at c0 c1 c2 c3 c4 c5; clear hS'; go_simp; (try rfl)) ?_
 simp only [puts]
 refine takeU (d := some 37) 5 rfl rfl hHeld (fun w' hS' => by have qA := hS'.1.cell; obtain ⟨c0, c1, c2, c3, c4, c5⟩ := hS'.2; dsimp only at c0 c1 c2 c3 c4 c5; clear hS'; go_simp; (try rfl)) ?_
 simp only [puts]
 refine takeU (d := some 38) 6 rfl rfl hHeld (fun w' hS' => by have qA := hS'.1.cell; obtain ⟨c0, c1, c2, c3, c4, c5⟩ := hS'.2; dsimp only at c0 c1 c2 c3 c4 c5; clear hS'; go_simp; (try rfl)) ?_
 simp only [puts]
 refine takeU (d := some 40) 8 rfl rfl hHeld (fun w' hS' => by have qA := hS'.1.cell; obtain ⟨c0, c1, c2, c3, c4, c5⟩ := hS'.2; dsimp only at c0 c1 c2 c3 c4 c5; clear hS'; go_simp; (try rfl)) ?_
 simp only [puts]
 refine wpAnyH_call (d := some 39) 7 94 _ _ [.pointer (some ⟨L.sb, 0, none⟩)] rfl rfl (by kernel_rfl) rfl (enters_of Tryz.func94 (by kernel_rfl) rfl) (by rfl) (by rfl) ?_
 refine (HND.out _ HSt.out).mono ?_; rintro e w3 ⟨rfl, rfl⟩
 refine ⟨_, rfl, _, fun _ h => h, hHeld, fun hHeld => ?_⟩
 simp only [Act.put, puts]
 refine takeU (d := some 41) 9 rfl rfl hHeld (fun w' hS' => by have qA := hS'.1.cell; obtain ⟨c0, c1, c2, c3, c4, c5⟩ := hS'.2; dsimp only at c0 c1 c2 c3 c4 c5; clear hS'; go_simp; (try rfl)) ?_
 simp only [puts]
 refine wpAnyH_all (rs := [10]) (by kernel_rfl) (by simp) (fun j hj => ?_)
 obtain rfl : j = 10 := by simpa using hj
 refine wpOp_step rfl (fun K' hK => ?_)
 rw [if_pos (by rfl)]
 refine wp_store_row 247 (.tmp 6) (.tmp 41) rfl (w.heap.size + 1) #[.int .i64 rn, .int .i64 rp, .int .i64 sp, .int .i64 sd, .int .i64 ss, .int .i64 sh, .int .i64 an, .int .i64 aq, .int .i64 oc, .int .i64 dp, .float .f64 ex, .int .i64 pa, .int .i64 de, .slice (some ⟨g, 0, none⟩) n vc, .int .i64 nd, .int .i64 j] rfl rfl 247 #[.int .i64 0, .int .i64 0, .int .i64 0, .int .i64 0, .int .i64 0, .int .i64 0, .int .i64 0, .int .i64 0, .int .i64 0, .int .i64 0, .float .f64 0, .int .i64 0, .int .i64 0, .slice none 0 0, .int .i64 0, .int .i64 0] HT0.out (by kernel_rfl) rfl (by simp [Value.oneCell']) ?_
 obtain ⟨HFr, hgr⟩ := row_end (cells := #[.int .i64 rn, .int .i64 rp, .int .i64 sp, .int .i64 sd, .int .i64 ss, .int .i64 sh, .int .i64 an, .int .i64 aq, .int .i64 oc, .int .i64 dp, .float .f64 ex, .int .i64 pa, .int .i64 de, .slice (some ⟨g, 0, none⟩) n vc, .int .i64 nd, .int .i64 j]) HT0.out
 have HB := qq (HB.out.grown hgr HB.out.size (fun k hk => by injection hk with hk; omega))
 have hHeld : (fun w' => Blk w' w1.heap.size #[an, aq, oc, dp, .float .f64 ex, pa, de, .slice (some ⟨g, 0, none⟩) n vc] ∧ RegC w' g (j * 6) ⟨rn, rp, ⟨sp, sd, ss, sh⟩⟩) (w2.setRow (w.heap.size + 1) #[.int .i64 rn, .int .i64 rp, .int .i64 sp, .int .i64 sd, .int .i64 ss, .int .i64 sh, .int .i64 an, .int .i64 aq, .int .i64 oc, .int .i64 dp, .float .f64 ex, .int .i64 pa, .int .i64 de, .slice (some ⟨g, 0, none⟩) n vc, .int .i64 nd, .int .i64 j]) := ⟨hHeld.1.heap' hgr.size (hgr.block _ hHeld.1.lt (fun e => by injection e with e; omega)), hHeld.2.grown hgr (fun e => by injection e with e; omega)⟩
 refine hK _ _ ⟨hHeld, ?_⟩
 simp only [Act.put, puts]
 clear hK hgr
 have HFr := qq HFr
 generalize w2.setRow (w.heap.size + 1) #[.int .i64 rn, .int .i64 rp, .int .i64 sp, .int .i64 sd, .int .i64 ss, .int .i64 sh, .int .i64 an, .int .i64 aq, .int .i64 oc, .int .i64 dp, .float .f64 ex, .int .i64 pa, .int .i64 de, .slice (some ⟨g, 0, none⟩) n vc, .int .i64 nd, .int .i64 j] = w4 at *
 refine takeU (d := some 7) 11 rfl rfl hHeld (fun w' hS' => by have qA := hS'.1.cell; obtain ⟨c0, c1, c2, c3, c4, c5⟩ := hS'.2; dsimp only at c0 c1 c2 c3 c4 c5; clear hS'; go_simp; (try rfl)) ?_
 simp only [puts]
 refine takeU (d := some 8) 12 rfl rfl hHeld (fun w' hS' => by have qA := hS'.1.cell; obtain ⟨c0, c1, c2, c3, c4, c5⟩ := hS'.2; dsimp only at c0 c1 c2 c3 c4 c5; clear hS'; go_simp; (try rfl)) ?_
 simp only [puts]
 refine wpAnyH_done (by kernel_rfl) ?_ _
 clear hHeld
 obtain ⟨q1, f1⟩ := HFr.out
 go_wp2_with fail
 exact bodyPost_ret (v := .tuple #[.agg #[rn, rp, sp, sd, ss, sh, an, aq, oc, dp, .float .f64 ex, pa, de, .slice (some ⟨g, 0, none⟩) n vc, nd, j], .bool true, .bool true]) (by simp [results, Tryz.results163, go_sem, q1, f1]) rfl ⟨_, _, _, rfl, HB.out⟩
theorem ltakes_of (L : SLoc) (S : Sto) (a : SAct) (va : Option Addr) (vc : Nat) (now : Nat) (ea : Int → Addr) (w : World) (hE : EnvS ea w) (h : StoreAt L S w) (hG : StoGood S) (hx : F64 a.ex) (hn64 : F64 now) (hpa : 0 ≤ a.pa ∧ a.pa ≤ 8) : Calls Tryz.prog 167 #[.pointer (some ⟨L.sb, 0, none⟩), .agg (actC a (.slice va a.regs.length vc)), flV now] w (Makes (.bool (lTakes S a now)) w) := by
 have HO := qq (fun W hW => scopeOpen_of a.an a.aq a.oc a.dp a.ex now hx hn64 ea W hW)
 have HE := qq hE; have H := qq h
 have HP := qq (fun W hW (hp : pGet S (a.pa - 1) = none) => part_no L S (a.pa - 1) W hW hp)
 have HPy := qq (fun W hW p (hp : pGet S (a.pa - 1) = some p) => part_yes L S (a.pa - 1) p W hW hG.parts hp)
 unfold lTakes
 obtain ⟨an, aq, oc, dp, ex, pa, de, rs⟩ := a
 dsimp only [actC] at *
 obtain ⟨o, ho⟩ : ∃ o, o = ctxOpen an aq oc dp ex now := ⟨_, rfl⟩
 rw [← ho] at HO ⊢
 obtain ⟨n, hn⟩ : ∃ n, n = rs.length := ⟨_, rfl⟩
 rw [← hn] at ⊢
 clear hE h hG hx hn64 ho hn
 -- the rest, once the participant does not stand in the way
 have fin : ∀ (x : Bool), x = true → (x && (o && decide (de = 0 ∧ n < 6))) = (o && decide (de = 0 ∧ n < 6)) := fun x h => by rw [h]; simp
 obtain ⟨d, hd⟩ : ∃ d, d = (de == 0) := ⟨_, rfl⟩
 obtain ⟨t, ht⟩ : ∃ t, t = decide (n < 6) := ⟨_, rfl⟩
 have hdt : decide (de = 0 ∧ n < 6) = (d && t) := by rw [hd, ht, Bool.eq_iff_iff]; simp
 rw [hdt]
 rw [hdt] at fin
 have e1 := hd.symm
 have e2 : decide ((n : Int) < 6) = t := by rw [ht, Bool.eq_iff_iff]; simp; omega
 have e3 := ht.symm
 clear hd ht hdt
 have done : ∀ W, Below w.heap.size w W → True := fun _ _ => trivial
 clear done
 by_cases h0 : pa ≤ 0
 · have d0 : decide (0 < pa) = false := decide_eq_false (by omega)
   rw [decide_eq_true h0, Bool.true_or, Bool.true_and]
   clear h0 hpa fin HP HPy
   cases o
   all_goals (try cases d)
   all_goals
    go_enter Tryz.func167, Tryz.ntmps167
    go_wp2_with fail
    refine (HO.out _ (HE.out.below (by go_grown))).mono ?_
    rintro e w1 ⟨rfl, hb1⟩
    have q := ((Blk.fresh w #[an, aq, oc, dp, .float .f64 ex, pa, de, .slice va n vc] 51 _ rfl).below hb1).cell
    go_wp2_with fail
    go_ret
    exact ⟨ret_bool (by simp), below_then (by go_grown) hb1⟩
 · have d0 : decide (0 < pa) = true := decide_eq_true (by omega)
   rw [decide_eq_false h0, Bool.false_or]
   have hp1 : 0 ≤ pa := by omega
   have hp8 : pa ≤ 8 := hpa.2
   have hp0 : 0 < pa := by omega
   clear h0 hpa fin
   cases hp : pGet S (pa - 1) with
   | none =>
    have HP1 := qq (fun W hW => HP.out W hW hp)
    rw [show (false && (o && (d && t))) = false by simp]
    clear HP HPy hp
    go_enter Tryz.func167, Tryz.ntmps167
    go_wp2_with fail
    refine (HP1.out _ (H.out.below (by go_grown))).mono ?_
    rintro e w1 ⟨rfl, hb1⟩
    go_wp2_with fail
    go_ret
    exact ⟨rfl, below_then (below_then (by go_grown) hb1) (by go_grown)⟩
   | some p =>
    have HP1 := qq (fun W hW => HPy.out W hW p hp)
    have HW := qq (fun W => lworks_of p.seat W)
    dsimp only
    obtain ⟨k, hk⟩ : ∃ k, k = lWorks p.seat := ⟨_, rfl⟩
    rw [← hk] at HW ⊢
    obtain ⟨pan, paq, prg, ⟨sp, sd, ss, sh⟩⟩ := p
    dsimp only [partA, seatV] at *
    clear HP HPy hp hk
    cases k
    case false =>
     rw [Bool.false_and]
     go_enter Tryz.func167, Tryz.ntmps167
     go_wp2_with fail
     refine (HP1.out _ (H.out.below (by go_grown))).mono ?_
     rintro e w1 ⟨rfl, hb1⟩
     go_wp2_with fail
     refine (HW.out _).mono ?_
     rintro e w2 ⟨rfl, hb2⟩
     go_wp2_with fail
     go_ret
     exact ⟨rfl, below_then (below_then (by go_grown) hb1) (below_then (by go_grown) hb2)⟩
    rw [Bool.true_and]
    cases o
    all_goals (try cases d)
    all_goals
     go_enter Tryz.func167, Tryz.ntmps167
     go_wp2_with fail
     refine (HP1.out _ (H.out.below (by go_grown))).mono ?_
     rintro e w1 ⟨rfl, hb1⟩
     have B1 : Below w.heap.size w w1 := below_then (by go_grown) hb1
     have HA := qq ((Blk.fresh w #[an, aq, oc, dp, .float .f64 ex, pa, de, .slice va n vc] 51 _ rfl).below hb1)
     clear hb1
     go_wp2_with fail
     refine (HW.out _).mono ?_
     rintro e w2 ⟨rfl, hb2⟩
     have HA2 := qq ((HA.out.alloc _).below hb2)
     have B2 : Below w.heap.size w w2 := below_then (B1.alloc B1.size _) hb2
     have q := HA2.out.cell
     clear hb2 B1
     go_wp2_with fail
     refine (HO.out _ (HE.out.below B2)).mono ?_
     rintro e w3 ⟨rfl, hb3⟩
     clear q
     have q := (HA2.out.below hb3).cell
     go_wp2_with fail
     go_ret
     exact ⟨ret_bool (by simp), below_then B2 hb3⟩
open Go.RowKit Go.Shelf
section
variable {P : Program} {ops : Array Oper} {Q : Exit → Act → World → Prop} {md : Region.Mode} {S : World → Prop}
def lastOp (md : Region.Mode) (ops : Array Oper) (j : Nat) : Bool := match ops[j]? with
 | none => false
 | some oj => (List.range ops.size).all fun k => k == j || oj.after.any (fun e => Region.binds md e && e.on == k)
def wpAnyM (P : Program) (md : Region.Mode) (ops : Array Oper) (Q : Exit → Act → World → Prop) (S : World → Prop) : Nat → Array Bool → Act → World → Prop
 | 0, listed, a, w => Region.ready md ops listed = [] ∧ Q .normal a w
 | fuel + 1, listed, a, w =>
  (Region.ready md ops listed = [] → Q .normal a w) ∧
  ∀ i ∈ Region.ready md ops listed, wpOp P ops Q i (fun a' w' => (lastOp md ops i = true ∨ S w') ∧ wpAnyM P md ops Q S fuel (listed.setIfInBounds i true) a' w') a w
theorem wpAny_of_M : ∀ (fuel : Nat) (listed : Array Bool) (a : Act) (w : World), wpAnyM P md ops Q S fuel listed a w → wpAny P md ops Q fuel listed a w
 | 0, _, _, _, h => h
 | fuel + 1, _, _, _, h => ⟨h.1, fun i hi => wpOp_mono (fun a' w' h' => wpAny_of_M fuel _ a' w' h'.2) (h.2 i hi)⟩
theorem not_last {i j : Nat} {listed : Array Bool} (hi : i ∈ Region.ready md ops listed) (hj : j ∈ Region.ready md ops listed) (hne : j ≠ i) : lastOp md ops j = false := by
 obtain ⟨hiun, oi, hoi, _⟩ := mem_ready.1 hi
 obtain ⟨_, oj, hoj, hall⟩ := mem_ready.1 hj
 unfold lastOp
 rw [hoj]
 dsimp only
 rw [List.all_eq_false]
 refine ⟨i, List.mem_range.2 (Array.getElem?_eq_some_iff.1 hoi).1, ?_⟩
 have h1 : (i == j) = false := by simpa using (Ne.symm hne)
 rw [h1, Bool.false_or]
 intro hx
 obtain ⟨e, he, hb⟩ := Array.any_eq_true'.1 hx
 simp only [Bool.and_eq_true, beq_iff_eq] at hb
 have h2 := hall e he hb.1
 rw [hb.2] at h2
 rcases Nat.lt_or_ge i listed.size with h' | h'
 · simp [h'] at hiun h2; rw [hiun] at h2; cases h2
 · simp [Array.getElem?_eq_none h'] at h2
theorem wpAnyM_first {i : Nat} {oi : Oper} {v : Value} (hi : ops[i]? = some oi) (hsel : ∀ (j : Nat) (o : Oper) cs b, ops[j]? = some o → o.op ≠ .select cs b)
    (hQ : ∀ c a w, Q (.panic c) (a.put oi.dst v) w → Q (.panic c) a w) :
    ∀ (fuel : Nat) (listed : Array Bool) (a : Act) (w : World),
     (∀ j oj, ops[j]? = some oj → j ≠ i → listed.getD j true = false → (∀ e ∈ oj.after, Region.binds md e = true → e.on ≠ i) → oi.apart ops oj = true) →
     i ∈ Region.ready md ops listed → YieldsIf P ops S oi v a → S w →
     wpAnyM P md ops Q S fuel (listed.setIfInBounds i true) (a.put oi.dst v) w → wpAnyM P md ops Q S (fuel + 1) listed a w := by
 intro fuel
 induction fuel with
 | zero =>
  intro listed a w _ hr hy hS H
  refine ⟨fun h => (by rw [h] at hr; cases hr), fun j hj => ?_⟩
  by_cases hji : j = i
  · subst hji; exact hy.wpOp hi hS ⟨.inr hS, H⟩
  · have := ready_mono hj hji
    rw [H.1] at this
    cases this
 | succ fuel ih =>
  intro listed a w hfree hr hy hS H
  refine ⟨fun h => (by rw [h] at hr; cases hr), fun j hj => ?_⟩
  by_cases hji : j = i
  · subst hji; exact hy.wpOp hi hS ⟨.inr hS, H⟩
  · have hl := not_last hr hj hji
    have h1 := wpOp_mono (K' := fun a' w' => S w' ∧ wpAnyM P md ops Q S fuel ((listed.setIfInBounds i true).setIfInBounds j true) a' w') (fun a' w' h' => ⟨h'.1.resolve_left (by rw [hl]; simp), h'.2⟩) (H.2 j (ready_mono hj hji))
    obtain ⟨hjun, oj, hoj, hall⟩ := mem_ready.1 hj
    have hnot : ∀ e ∈ oj.after, Region.binds md e = true → e.on ≠ i := fun e he hb heq => by
     have h1 := hall e he hb
     have h0 := (mem_ready.1 hr).1
     rw [heq] at h1
     rcases Nat.lt_or_ge i listed.size with h' | h'
     · simp [h'] at h0 h1; rw [h0] at h1; cases h1
     · simp [Array.getElem?_eq_none h'] at h1
    have h2 := wpOp_putIf hoj (hfree j oj hoj hji hjun hnot) (fun cs b => hsel i oi cs b hi) (fun cs b => hsel j oj cs b hoj) hQ hy h1
    refine wpOp_mono (fun a' w' h3 => ⟨.inr h3.2.1, ih (listed.setIfInBounds j true) a' w' (fun k ok hk hki hun hno => hfree k ok hk hki ?_ hno) (ready_mono hr (Ne.symm hji)) h3.1 h3.2.1 ?_⟩) h2
    · by_cases hjk : j = k
      · subst hjk; exact hjun
      · rw [getD_set_ne true hjk] at hun; exact hun
    · rw [Array.setIfInBounds_comm _ _ hji]
      exact h3.2.2
theorem wpAnyM_narrow {S' : World → Prop} (hS : ∀ w, S' w → S w) :
    ∀ (fuel : Nat) (listed : Array Bool) (a : Act) (w : World), wpAnyM P md ops Q S' fuel listed a w → wpAnyM P md ops Q S fuel listed a w
 | 0, _, _, _, h => h
 | fuel + 1, _, _, _, h => ⟨h.1, fun i hi => wpOp_mono (fun a' w' h' => ⟨h'.1.imp id (hS _), wpAnyM_narrow hS fuel _ a' w' h'.2⟩) (h.2 i hi)⟩
theorem reg_start {id : Nat} {a : Act} {w : World} (F : World → Prop) (hm : P.follows .mixedOrders = true) (hF : F w.drew)
    (h : ∀ w1, F w1 → wpAnyM P .any ops Q F ops.size (Array.replicate ops.size false) a w1) : (Code.region id ops true).wp P Q a w :=
 wp_region_any hm (wpAny_of_M _ _ _ _ (h _ hF))
theorem takeM {fuel : Nat} {listed : Array Bool} {a : Act} {w : World} {oi : Oper} {d : Option Tmp} {v : Value}
    (i : Nat) (hi : ops[i]? = some oi) (hd : oi.dst = d) (hS : S w) (hy : ∀ w, S w → (execOp a.eval oi).run P w = .ok (.value v) w) (h : wpAnyM P md ops Q S fuel (listed.setIfInBounds i true) (a.put d v) w)
    (hs : Region.noSelect ops = true := by kernel_rfl) (hf : Region.free md ops listed i = true := by kernel_rfl) (hr : (Region.ready md ops listed).contains i = true := by kernel_rfl)
    (hQ : ∀ c a w, Q (.panic c) (a.put oi.dst v) w → Q (.panic c) a w := by exact fun _ _ _ h => h) (hw : Region.wanted oi (yielded ops a.tmps) = true := by rfl) : wpAnyM P md ops Q S (fuel + 1) listed a w := by
 subst hd
 exact wpAnyM_first hi (Region.noSelect_spec hs) hQ fuel listed a w (Region.free_spec hi hf) (by simpa using hr) (.inl ⟨hw, hy⟩) hS h
theorem skipM {fuel : Nat} {listed : Array Bool} {a : Act} {w : World} {oi : Oper} {d : Option Tmp}
    (i : Nat) (hi : ops[i]? = some oi) (hd : oi.dst = d) (hS : S w) (h : wpAnyM P md ops Q S fuel (listed.setIfInBounds i true) (a.put d undef) w)
    (hs : Region.noSelect ops = true := by kernel_rfl) (hf : Region.free md ops listed i = true := by kernel_rfl) (hr : (Region.ready md ops listed).contains i = true := by kernel_rfl)
    (hQ : ∀ c a w, Q (.panic c) (a.put oi.dst undef) w → Q (.panic c) a w := by exact fun _ _ _ h => h) (hw : Region.wanted oi (yielded ops a.tmps) = false := by rfl) : wpAnyM P md ops Q S (fuel + 1) listed a w := by
 subst hd
 exact wpAnyM_first hi (Region.noSelect_spec hs) hQ fuel listed a w (Region.free_spec hi hf) (by simpa using hr) (.inr ⟨hw, rfl⟩) hS h
theorem doneM {listed : Array Bool} {a : Act} {w : World} (hr : Region.ready md ops listed = []) (h : Q .normal a w) : ∀ fuel, wpAnyM P md ops Q S fuel listed a w
 | 0 => ⟨hr, h⟩
 | _ + 1 => ⟨fun _ => h, by rw [hr]; simp⟩
theorem allM {rs : List Nat} {fuel : Nat} {listed : Array Bool} {a : Act} {w : World} (hr : Region.ready md ops listed = rs) (hne : rs ≠ [])
    (h : ∀ i ∈ rs, wpOp P ops Q i (fun a' w' => (lastOp md ops i = true ∨ S w') ∧ wpAnyM P md ops Q S fuel (listed.setIfInBounds i true) a' w') a w) : wpAnyM P md ops Q S (fuel + 1) listed a w :=
 ⟨fun h0 => absurd (hr ▸ h0) hne, hr ▸ h⟩
def Nxt (P : Program) (md : Region.Mode) (ops : Array Oper) (Q : Exit → Act → World → Prop) (S : World → Prop) (fuel : Nat) (listed : Array Bool) (i : Nat) (a : Act) (w : World) : Prop :=
 ∃ F : World → Prop, (∀ w, F w → S w) ∧ F w ∧ (F w → wpAnyM P md ops Q F fuel (listed.setIfInBounds i true) a w)
theorem Nxt.go {fuel : Nat} {listed : Array Bool} {i : Nat} {a : Act} {w : World} (h : Nxt P md ops Q S fuel listed i a w) : (lastOp md ops i = true ∨ S w) ∧ wpAnyM P md ops Q S fuel (listed.setIfInBounds i true) a w := by
 obtain ⟨F, h1, h2, h3⟩ := h
 exact ⟨.inr (h1 _ h2), wpAnyM_narrow h1 _ _ _ _ (h3 h2)⟩
theorem one_M {fuel : Nat} {listed : Array Bool} {a : Act} {w : World} (i : Nat) (hr : Region.ready md ops listed = [i])
    (h : wpOp P ops Q i (Nxt P md ops Q S fuel listed i) a w) : wpAnyM P md ops Q S (fuel + 1) listed a w :=
 allM hr (by simp) (fun k hk => by
   obtain rfl : k = i := by simpa using hk
   exact wpOp_mono (fun _ _ h => h.go) h)
theorem two_M {fuel : Nat} {listed : Array Bool} {a : Act} {w : World} (i j : Nat) (hr : Region.ready md ops listed = [i, j])
    (h1 : wpOp P ops Q i (Nxt P md ops Q S fuel listed i) a w) (h2 : wpOp P ops Q j (Nxt P md ops Q S fuel listed j) a w) : wpAnyM P md ops Q S (fuel + 1) listed a w :=
 allM hr (by simp) (fun k hk => by
   rcases (by simpa using hk : k = i ∨ k = j) with rfl | rfl
   · exact wpOp_mono (fun _ _ h => h.go) h1
   · exact wpOp_mono (fun _ _ h => h.go) h2)
theorem ret_S {fuel : Nat} {listed : Array Bool} {i : Nat} {a : Act} {w : World} {d : Option Tmp} {v0 : Value} (hS : S w)
    (h : S w → wpAnyM P md ops Q S fuel (listed.setIfInBounds i true) (a.put d v0) w) : ∃ v, Ending.returned v0 = .returned v ∧ Nxt P md ops Q S fuel listed i (a.put d v) w :=
 ⟨v0, rfl, S, fun _ h => h, hS, h⟩
theorem new_S {fuel : Nat} {listed : Array Bool} {a : Act} {w : World} {oi : Oper} {d : Option Tmp} (i : Nat) (v : Value) (C : Array Value) (T : TypeId) (hi : ops[i]? = some oi) (hd : oi.dst = d) (hrun : (execOp a.eval oi).run P w = .ok (.value v) (w.alloc (.cells C T))) (hS : S (w.alloc (.cells C T)))
    (h : ∀ w2, S w2 ∧ Blk w2 w.heap.size C ∧ Below w.heap.size w w2 → wpAnyM P md ops Q (fun w' => S w' ∧ Blk w' w.heap.size C ∧ Below w.heap.size w w') fuel (listed.setIfInBounds i true) (a.put d v) w2)
    (hw : Region.wanted oi (yielded ops a.tmps) = true := by rfl) : wpOp P ops Q i (Nxt P md ops Q S fuel listed i) a w :=
 wpOp_alone i v _ hi hd hw hrun (show Nxt P md ops Q S fuel listed i (a.put d v) (w.alloc (.cells C T)) from ⟨fun w' => S w' ∧ Blk w' w.heap.size C ∧ Below w.heap.size w w', fun _ h => h.1, ⟨hS, Blk.fresh _ _ _ _ rfl, (Below.refl _ _).alloc (Nat.le_refl _) _⟩, fun h1 => h _ h1⟩)
theorem last_S {fuel : Nat} {listed : Array Bool} {a : Act} {w : World} {oi : Oper} (i : Nat) (w1 : World) (hi : ops[i]? = some oi) (hd : oi.dst = none) (hrun : (execOp a.eval oi).run P w = .ok .skip w1) (h : Q .normal a w1)
    (hw : Region.wanted oi (yielded ops a.tmps) = true := by rfl) (hl : lastOp md ops i = true := by kernel_rfl) (hr : Region.ready md ops listed = [i] := by kernel_rfl)
    (hr2 : Region.ready md ops (listed.setIfInBounds i true) = [] := by kernel_rfl) : wpAnyM P md ops Q S (fuel + 1) listed a w :=
 allM hr (by simp) (fun k hk => by
   obtain rfl : k = i := by simpa using hk
   refine wpOp_step hi (fun K' hK => ?_)
   rw [if_pos hw]
   unfold Oper.wp
   rw [hrun]
   refine hK _ _ ⟨.inl hl, doneM hr2 ?_ _⟩
   rw [hd]
   exact h)
end
theorem app_M {Q : Exit → Act → World → Prop} {ops : Array Oper} {md : Region.Mode} {S : World → Prop} {fuel : Nat} {listed : Array Bool} {a : Act} {w : World} {oi : Oper} {d : Option Tmp} (i : Nat) (s x : Operand) (t : TypeId) (hi : ops[i]? = some oi) (e : TypeId) (size bytes : Nat) (news : List Value) (ad : Addr) (m c : Nat)
    (ho : oi.op = .call { callee := .builtin .append, args := #[s, x], argTypes := #[t, t] }) (ht : Tryz.prog.underlying t = some (.slice e)) (hinf : ((Tryz.prog.info? e).bind fun i => i.zero.map fun z => (z.cells.size, i.size, i.bytes)) = some (size, size, bytes))
    (hgd : oi.guard = none) (hs : a.eval s = .slice none 0 0) (hx : a.eval x = .slice (some ad) m c) (hnews : ∀ j u, news[j]? = some u → w.cell? (ad.add j) = some u) (h1 : ∀ u ∈ news, u.oneCell' = true)
    (hsz : 0 < size ∧ news.length = m * size) (h63 : m ≤ maxLen ∧ m * bytes ≤ 140737488355328) (hS : ∀ w', Below w.heap.size w w' → S w')
    (h : ∀ ga gc w', S w' ∧ World.ownsRow w' w.heap.size e size (.slice ga m gc) m news ∧ Below w.heap.size w w' → wpAnyM Tryz.prog md ops Q (fun w' => S w' ∧ World.ownsRow w' w.heap.size e size (.slice ga m gc) m news ∧ Below w.heap.size w w') fuel (listed.setIfInBounds i true) (a.put d (.slice ga m gc)) w')
    (hd : oi.dst = d := by rfl) : wpOp Tryz.prog ops Q i (Nxt Tryz.prog md ops Q S fuel listed i) a w := by
 subst hd
 cases hI : Tryz.prog.info? e with
 | none => rw [hI] at hinf; cases hinf
 | some inf =>
  rw [hI] at hinf
  simp only [Option.bind_some] at hinf
  cases hz : inf.zero with
  | none => rw [hz] at hinf; cases hinf
  | some z =>
   rw [hz] at hinf
   simp only [Option.map_some, Option.some.injEq, Prod.mk.injEq] at hinf
   refine wpOp_step hi (fun K' hK => ?_)
   refine step_app hgd s x t ho w.heap.size e inf z size bytes ht hI hz hinf.2.1 hinf.2.2 hinf.1 hsz.1 (.slice none 0 0) 0 [] hs (World.ownsRow_nil w _ e size) ad m c news hx hsz.2 hnews h1 (by rw [Nat.zero_add]; exact h63.1) (by rw [Nat.zero_add]; exact h63.2) (Nat.le_refl _) ?_
   intro v' w' hown hg hat
   have hb : Below w.heap.size w w' := (Below.refl _ _).grown hg (Nat.le_refl _) (fun k hk => by simp [Value.ownBlock] at hk)
   rw [Nat.zero_add, List.nil_append] at hown
   obtain ⟨ga, gc, rfl⟩ := row_slice hown
   refine hK _ _ ⟨_, fun _ h => h.1, ⟨hS _ hb, hown, hb⟩, fun h2 => h _ _ _ h2⟩
theorem row_be {w w' : World} {B : Nat} {e : TypeId} {size : Nat} {v : Value} {n : Nat} {xs : List Value} (h : w.ownsRow B e size v n xs) (hb : Below w.heap.size w w') : w'.ownsRow B e size v n xs := row_heap h (fun k hk => hb.block k (h.lt k hk).2)
theorem row_al {w : World} {B : Nat} {e : TypeId} {size : Nat} {v : Value} {n : Nat} {xs : List Value} (h : w.ownsRow B e size v n xs) (o : Obj) : (w.alloc o).ownsRow B e size v n xs := row_be h ((Below.refl _ _).alloc (Nat.le_refl _) o)
theorem row_dr {w : World} {B : Nat} {e : TypeId} {size : Nat} {v : Value} {n : Nat} {xs : List Value} (h : w.ownsRow B e size v n xs) : w.drew.ownsRow B e size v n xs := row_be h (Below.refl _ _).drew
theorem row_st {w : World} {B : Nat} {e : TypeId} {size : Nat} {v : Value} {n : Nat} {xs : List Value} (h : w.ownsRow B e size v n xs) {p : Addr} (hp : p.block < B) (u : Value) : (w.setCell p u).ownsRow B e size v n xs :=
 row_heap h (fun k hk => Below.heap_setCell _ _ _ _ (by have := (h.lt k hk).1; omega))
theorem row_sb {w : World} {B : Nat} {e : TypeId} {size : Nat} {a : Option Addr} {m c : Nat} {n : Nat} {xs : List Value} (h : w.ownsRow B e size (.slice a m c) (n + 1) xs) : ∀ k, sliceBlock (.slice a m c) = some k → B ≤ k := fun k hk => by
 obtain ⟨g, cap, hv, h1, h2, h3, h4⟩ := row_form h (Nat.succ_pos _)
 rw [hv] at hk
 have hk2 : g = k := by simpa [sliceBlock] using hk
 exact (h.lt k (by rw [hv, ← hk2]; simp [Value.ownBlock])).1
theorem bel_alloc {w w' : World} (h : Below w.heap.size w w') (o : Obj) : Below w.heap.size w (w'.alloc o) := h.alloc h.size o
theorem bel_drew {w w' : World} (h : Below w.heap.size w w') : Below w.heap.size w w'.drew := h.drew
theorem bel_set {w w' : World} (h : Below w.heap.size w w') {p : Addr} (hp : w.heap.size ≤ p.block) (v : Value) : Below w.heap.size w (w'.setCell p v) := h.setCell hp v
end Go.Proofs.YtlkajejbfojkeaaGreatDoor
