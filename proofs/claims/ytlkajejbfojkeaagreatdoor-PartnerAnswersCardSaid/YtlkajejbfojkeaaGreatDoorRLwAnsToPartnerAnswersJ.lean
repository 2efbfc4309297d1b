/- LwAns, FlOpen, OpF, Sent, Errs, WrapS, LaidS, PartnerAnswersL, JoinS, PartnerAnswersJ -/
import Derived.Test.YtlkajejbfojkeaaGreatDoorRows
import Derived.WalkKit
import Derived.WalkSpells
import Derived.WalkLawsBesides
import Derived.BigQuiet
import Derived.Deep.QuietTactic
import Derived.StillTailTactics
import Derived.Handy
import Derived.Lib.Hide
import Derived.Test.YtlkajejbfojkeaaGreatDoorRRstEToParB
import Derived.Test.YtlkajejbfojkeaaGreatDoorRStoUToPaB
import Derived.Test.YtlkajejbfojkeaaGreatDoorRMovCToToldB
import Derived.ChangeArms
import Derived.Lib.SmallJoins
import Derived.Test.YtlkajejbfojkeaaGreatDoorRStoSToRfcA
import Derived.Deep.Slices
import Derived.Laws.Cover2
import Derived.Test.YtlkajejbfojkeaaGreatDoorRTabPlainToMovB
import Derived.ProofKit
import Derived.LaidMore
import Derived.OpenShut
import Derived.Stop.Joined
import Derived.Carry
import Derived.SevenTiedAt
import Derived.HandedShaped
import Derived.Shelf.Vars
import Derived.Test.YtlkajejbfojkeaaGreatDoorRTrcPToFlC
import Derived.Lib.LaidTab
import Derived.Lay
import Derived.JoinedOf
set_option linter.unusedSimpArgs false
set_option linter.unusedVariables false
namespace Go.Proofs.YtlkajejbfojkeaaGreatDoor
open Go.RowKit
attribute [local go_sem] store_float

def MsgAt (w : World) (b o : Nat) (m : SMsg) : Prop := w.cell? ⟨b, o, none⟩ = some (.int .i64 m.k) ∧ w.cell? ⟨b, o + 1, none⟩ = some (.int .i64 m.fr) ∧ w.cell? ⟨b, o + 2, none⟩ = some (.int .i64 m.to) ∧ w.cell? ⟨b, o + 3, none⟩ = some (.int .i64 m.an) ∧ w.cell? ⟨b, o + 4, none⟩ = some (.int .i64 m.aq) ∧ w.cell? ⟨b, o + 5, none⟩ = some (.int .i64 m.rg) ∧ w.cell? ⟨b, o + 6, none⟩ = some (.int .i64 m.pt) ∧ w.cell? ⟨b, o + 7, none⟩ = some (.int .i64 m.pr) ∧ w.cell? ⟨b, o + 8, none⟩ = some (.int .i64 m.co)
theorem MsgAt.below {w w' : World} {b o : Nat} {m : SMsg} (h : MsgAt w b o m) (hb : Below w.heap.size w w') (hl : b < w.heap.size) : MsgAt w' b o m :=
 ⟨(hb.cell (p := ⟨b, o, none⟩) hl).trans h.1, (hb.cell (p := ⟨b, o + 1, none⟩) hl).trans h.2.1, (hb.cell (p := ⟨b, o + 2, none⟩) hl).trans h.2.2.1, (hb.cell (p := ⟨b, o + 3, none⟩) hl).trans h.2.2.2.1, (hb.cell (p := ⟨b, o + 4, none⟩) hl).trans h.2.2.2.2.1, (hb.cell (p := ⟨b, o + 5, none⟩) hl).trans h.2.2.2.2.2.1, (hb.cell (p := ⟨b, o + 6, none⟩) hl).trans h.2.2.2.2.2.2.1, (hb.cell (p := ⟨b, o + 7, none⟩) hl).trans h.2.2.2.2.2.2.2.1, (hb.cell (p := ⟨b, o + 8, none⟩) hl).trans h.2.2.2.2.2.2.2.2⟩
theorem read_msgs {w : World} {B : Nat} {v : Value} {ms : List SMsg} (h : w.ownsRow B 81 9 v ms.length (msgsL ms)) : ∃ a cap, v = .slice a ms.length cap ∧ (0 < ms.length → ∃ b, a = some ⟨b, 0, none⟩ ∧ b < w.heap.size ∧ ∀ (j : Nat) (m : SMsg), ms[j]? = some m → MsgAt w b (j * 9) m) := by
 obtain ⟨a, cap, hv⟩ := row_slice h
 subst hv
 refine ⟨a, cap, rfl, fun hn => ?_⟩
 obtain ⟨g, cap', hv, _, _, hg, hc, _⟩ := row_form h hn
 simp only [Value.slice.injEq, true_and] at hv
 obtain ⟨rfl, rfl⟩ := hv
 refine ⟨g, rfl, hg, fun j m hj => ?_⟩
 obtain ⟨hj2, rfl⟩ := List.getElem?_eq_some_iff.1 hj
 have hat := fun i hi => flat_at msgL 9 msgL_len ms j i hj2 hi
 exact ⟨hc _ _ (hat 0 (by decide)), hc _ _ (hat 1 (by decide)), hc _ _ (hat 2 (by decide)), hc _ _ (hat 3 (by decide)), hc _ _ (hat 4 (by decide)), hc _ _ (hat 5 (by decide)), hc _ _ (hat 6 (by decide)), hc _ _ (hat 7 (by decide)), hc _ _ (hat 8 (by decide))⟩
theorem right_elim {x : SMsg} {fr tq an aq pt : Int} (h : rightTo x fr tq an aq pt) : ∃ k rg pr co, x = ⟨k, fr, tq, an, aq, rg, pt, pr, co⟩ ∧ msgOk x = true := by
 obtain ⟨k, f, t, a, q, r, p, o, c⟩ := x
 obtain ⟨h1, h2, h3, h4, h5, h6⟩ := h
 dsimp only at h2 h3 h4 h5 h6
 exact ⟨k, r, o, c, by rw [h2, h3, h4, h5, h6], h1⟩
theorem fieldR1 (x y z : Value) : ∀ w, (Instr.field 87 (.agg #[x, y, z]) 1).run Tryz.prog w = .ok y w := fun _ => by kernel_rfl
theorem actNeq (n q : Int) (w : World) : (binOp .neq 36 (.agg #[.int .i64 n, .int .i64 q]) (.agg #[.int .i64 n, .int .i64 q])).run Tryz.prog w = .ok (.bool false) w := by
 go_simp
set_option maxRecDepth 100000 in
set_option maxHeartbeats 8000000 in
theorem law_ans (node : Int) (v : Value) (fs : List SFact) (m : SMsg) (ea : Int → Addr) (w : World) (hE : EnvS ea w) (hR : ReadFacts w v fs) (hF : ∀ f ∈ fs, F64 f.ex) : Calls Tryz.prog 10 #[.int .i64 node, v, msgV m] w (Makes (.bool true) w) := by
 obtain ⟨a, cap, rfl, hrow⟩ := hR
 have hR' : ∀ W, Below w.heap.size w W → ReadFacts W (.slice a fs.length cap) fs := fun W hW => ⟨a, cap, rfl, fun hn => by
   obtain ⟨b, off, rfl, hb, hf⟩ := hrow hn
   exact ⟨b, off, rfl, Nat.lt_of_lt_of_le hb hW.size, fun j hj => (hf j hj).below hW hb⟩⟩
 have HE := Lib.hid hE
 have HAL := Lib.hid (fun W (hW : Below w.heap.size w W) => alive16_of ea W (hE.below hW))
 have HBN := Lib.hid (fun W (hW : Below w.heap.size w W) h => built16_no node _ fs ea W (hE.below hW) (hR' W hW) h)
 have HBY := Lib.hid (fun W (hW : Below w.heap.size w W) h1 h2 => built16_yes node _ fs ea W (hE.below hW) (hR' W hW) hF h1 h2)
 have HGD := Lib.hid (fun h => splay_good (node := node) h fs)
 have HND := Lib.hid (splay_node node fs)
 have HMR := Lib.hid (fun W (hW : Below w.heap.size w W) => mright_of m ea W (hE.below hW))
 obtain ⟨n, hn⟩ : ∃ n, n = fs.length := ⟨_, rfl⟩
 obtain ⟨S, hS⟩ : ∃ S, S = splay node fs := ⟨_, rfl⟩
 rw [← hn] at HBN HBY ⊢
 rw [← hS] at HBY HGD HND
 have HTL := Lib.hid (fun L W h1 h2 h3 h4 => ptell_of L S m ea W h1 h2 h3 h4)
 have HRT := Lib.hid (fun (h1 : StoGood S) (h2 : msgOk m = true) h3 => pTell_right (m := m) h1 h2 h3)
 have HRG := Lib.hid (fun (h2 : msgOk m = true) => (msgOk_iff.1 h2).2.2.2.2.1.1)
 obtain ⟨mo, hmo⟩ : ∃ b, b = msgOk m := ⟨_, rfl⟩
 rw [← hmo] at HMR HRT HRG
 clear hE hR' hrow hF hn hS hmo
 obtain ⟨mk, fr, tq, man, maq, mrg, mpt, mpr, mco⟩ := m
 dsimp only [msgV, msgA] at *
 by_cases hok : (0 ≤ node ∧ node ≤ 3) ∧ n ≤ 60
 case neg =>
   go_enter Tryz.func10, Tryz.ntmps10
   go_wp2_with fail
   refine (HAL.out _ (by go_grown)).mono ?_
   rintro e w1 ⟨rfl, hb1⟩
   have B1 : Below w.heap.size w w1 := below_then (by go_grown) hb1
   go_wp2_with fail
   refine (HBN.out _ B1 hok).mono ?_
   rintro e w2 ⟨rfl, hb2⟩
   have B2 : Below w.heap.size w w2 := below_then B1 hb2
   have qm := (((Blk.fresh w #[.int .i64 mk, .int .i64 fr, .int .i64 tq, .int .i64 man, .int .i64 maq, .int .i64 mrg, .int .i64 mpt, .int .i64 mpr, .int .i64 mco] 81 _ rfl).below hb1).below hb2).cell
   go_wp2_with fail
   go_ret
   exact ⟨rfl, B2⟩
 obtain ⟨hnd, hln⟩ := hok
 have HGS := Lib.hid (HGD.out hnd)
 go_enter Tryz.func10, Tryz.ntmps10
 go_wp2_with fail
 refine (HAL.out _ (by go_grown)).mono ?_
 rintro e w1 ⟨rfl, hb1⟩
 have B1 : Below w.heap.size w w1 := below_then (by go_grown) hb1
 have HM1 := Lib.hid ((Blk.fresh w #[.int .i64 mk, .int .i64 fr, .int .i64 tq, .int .i64 man, .int .i64 maq, .int .i64 mrg, .int .i64 mpt, .int .i64 mpr, .int .i64 mco] 81 _ rfl).below hb1)
 clear hb1
 go_wp2_with fail
 refine (HBY.out _ B1 hnd hln).mono ?_
 rintro e w2 ⟨L, R, rfl, hB⟩
 have B2 : Below w.heap.size w w2 := below_then B1 hB.be
 have HB := Lib.hid hB.st
 have HM2 := Lib.hid (HM1.out.below hB.be)
 clear hB
 have qm := HM2.out.cell
 go_wp2_with fail
 clear qm
 refine (HMR.out _ B2).mono ?_
 rintro e w3 ⟨rfl, hb3⟩
 have B3 : Below w.heap.size w w3 := below_then B2 hb3
 have HM3 := Lib.hid (HM2.out.below hb3)
 have HB3 := Lib.hid (HB.out.below hb3)
 clear hb3
 have qm := HM3.out.cell
 cases mo
 case false =>
   go_wp2_with fail
   go_ret
   exact ⟨rfl, B3⟩
 by_cases hto : tq = node
 case neg =>
   have d1 : (tq != node) = true := by simpa using hto
   clear hto
   go_wp2_with fail
   go_ret
   exact ⟨rfl, B3⟩
 have d1 : (tq != node) = false := by simpa using hto
 have hrt := HRT.out HGS.out rfl (by rw [HND.out]; exact hto)
 rw [HND.out] at hrt
 have HRT2 := Lib.hid hrt
 have HR0 := Lib.hid (HRG.out rfl)
 clear hto hrt HRT HRG
 go_wp2_with fail
 clear qm d1
 refine (HTL.out L _ (HE.out.below B3) HB3.out HGS.out HR0.out).mono ?_
 rintro e w4 ⟨fv, mv, rfl, ho1, ho2, hb4⟩
 have B4 : Below w.heap.size w w4 := below_then B3 hb4
 have HM4 := Lib.hid (HM3.out.below hb4)
 have HB4 := Lib.hid (HB3.out.below hb4)
 obtain ⟨af, lf, cf, hfv⟩ := row_form3 ho1
 subst hfv
 obtain ⟨am, cm, hmv, hms⟩ := read_msgs ho2
 subst hmv
 obtain ⟨ms, hmse⟩ : ∃ ms, ms = (pTell S ⟨mk, fr, tq, man, maq, mrg, mpt, mpr, mco⟩).ms := ⟨_, rfl⟩
 rw [← hmse] at hms HRT2 ⊢
 obtain ⟨lm, hlm⟩ : ∃ l, l = ms.length := ⟨_, rfl⟩
 have hlm9 : lm ≤ 2 := by rw [hlm, hmse]; exact pTell_mlen
 rw [← hlm] at hms ⊢
 have HMS := Lib.hid hms; have HLM := Lib.hid hlm
 have hfld := fieldR1 (.slice af lf cf) (.slice am lm cm) (.int .i64 (pTell S ⟨mk, fr, tq, man, maq, mrg, mpt, mpr, mco⟩).wk)
 clear ho1 ho2 hms hlm hmse hb4
 go_wp2_with fail
 clear hfld
 go_loopw [43] (fun i wr => ∃ k : Nat, k ≤ lm ∧ i = .int .i64 (k : Nat) ∧ Below w4.heap.size w4 wr) (fun i _ => lm - (intOf i).toNat)
 case atStart => exact ⟨0, by omega, by first | rfl | go_num, Below.refl _ _⟩
 case round =>
   obtain ⟨k, hk, rfl, hB⟩ := hrel
   have HM5 := Lib.hid (HM4.out.below hB)
   have BR : Below w.heap.size w wr := below_then B4 hB
   have hz5 := hB.size
   by_cases hlt : k < lm
   · have hks : k < ms.length := by rw [← HLM.out]; exact hlt
     obtain ⟨b, rfl, hbl, hcell⟩ := HMS.out (by omega)
     obtain ⟨x, hx⟩ : ∃ x, ms[k]? = some x := ⟨_, List.getElem?_eq_getElem hks⟩
     have hat := (hcell k x hx).below hB hbl
     obtain ⟨r1, r2, r3, r4, r5, r6⟩ := HRT2.out x (List.mem_of_getElem? hx)
     have HXR := Lib.hid (fun W (hW : Below w.heap.size w W) => mright_of x ea W (HE.out.below hW))
     rw [r1] at HXR
     obtain ⟨c0, c1, c2, c3, c4, c5, c6, c7, c8⟩ := hat
     have hki : (k : Int) < (lm : Int) := by omega
     have hk0 : (0 : Int) ≤ (k : Int) := by omega
     have hbw : b < wr.heap.size := by omega
     clear hcell hx
     obtain ⟨xk, xfr, xto, xan, xaq, xrg, xpt, xpr, xco⟩ := x
     dsimp only [msgV, msgA] at *
     have r2 := r2.symm; have r3 := r3.symm; have r4 := r4.symm; have r5 := r5.symm; have r6 := r6.symm
     subst r2 r3 r4 r5 r6
     have d2 : (node != node) = false := by simp
     have d3 : (fr != fr) = false := by simp
     have d4 : (mpt != mpt) = false := by simp
     have hne := fun W => actNeq man maq W
     have qm := HM5.out.cell
     have lm5 := HM5.out.lt
     go_wp2_with fail
     refine (HXR.out _ (below_then BR (by go_grown))).mono ?_
     rintro e w6 ⟨rfl, hb6⟩
     have B6 : Below wr.heap.size wr w6 := below_then (by go_grown) hb6
     have HX6 := Lib.hid ((Blk.fresh wr #[.int .i64 xk, .int .i64 node, .int .i64 fr, .int .i64 man, .int .i64 maq, .int .i64 xrg, .int .i64 mpt, .int .i64 xpr, .int .i64 xco] 81 _ rfl).below hb6)
     have HM6 := Lib.hid (HM5.out.below B6)
     clear qm c0 c1 c2 c3 c4 c5 c6 c7 c8 lm5 hb6
     have qm := HM6.out.cell
     have qx := HX6.out.cell
     have lm6 := HM6.out.lt
     have lx6 := HX6.out.lt
     go_wp2_with fail
     go_roundw
     case rel => exact ⟨k + 1, by omega, by go_num, below_then hB B6⟩
     case measure => (simp [intOf]; omega)
   · obtain rfl : k = lm := by omega
     have HB5 := Lib.hid (HB4.out.below hB)
     clear HM5 hz5
     have HPS := Lib.hid (parts_of L S wr HB5.out HGS.out.parts)
     go_wp2_with fail
     refine HPS.out.mono ?_
     rintro e w7 ⟨pv, rfl, ho, hb7⟩
     have B7 : Below w.heap.size w w7 := below_then BR hb7
     have HB7 := Lib.hid (HB5.out.below hb7)
     obtain ⟨ap, cp, hpv, hpn, hpr⟩ := part_row ho
     subst hpv
     obtain ⟨np, hnp⟩ : ∃ n, n = S.parts.length := ⟨_, rfl⟩
     have hnp8 : np ≤ 8 := by rw [hnp]; exact HGS.out.parts
     rw [← hnp] at hpr ⊢
     have HPR := Lib.hid hpr; have HNP := Lib.hid hnp
     clear ho hpr hpn hnp hb7
     go_wp2_with fail
     go_loopw [81] (fun i wr => ∃ k : Nat, k ≤ np ∧ i = .int .i64 (k : Nat) ∧ Below w7.heap.size w7 wr) (fun i _ => np - (intOf i).toNat)
     case atStart => exact ⟨0, by omega, by first | rfl | go_num, Below.refl _ _⟩
     case round =>
       obtain ⟨j, hj, rfl, hBj⟩ := hrel
       have BJ : Below w.heap.size w wr := below_then B7 hBj
       have hzj := hBj.size
       by_cases hlt2 : j < np
       · have hjs : j < S.parts.length := by rw [← HNP.out]; exact hlt2
         obtain ⟨g, rfl, hg, _, hpc⟩ := HPR.out (by omega)
         obtain ⟨p, hp⟩ : ∃ p, S.parts[j]? = some p := ⟨_, List.getElem?_eq_getElem hjs⟩
         have hpat := (hpc j p hp).below hBj hg
         have HAG := Lib.hid (fun W (hW : Below w.heap.size w W) (hs : StoreAt L S W) => pagain_of L S (j : Int) ea W (HE.out.below hW) hs HGS.out)
         have HRI := Lib.hid (pAgain_right HGS.out hp)
         rw [HND.out] at HRI
         have HMR2 := Lib.hid (fun W (hW : Below w.heap.size w W) => mright_of (pAgain S (j : Int)).1 ea W (HE.out.below hW))
         obtain ⟨x, hx⟩ : ∃ x, x = (pAgain S (j : Int)).1 := ⟨_, rfl⟩
         obtain ⟨ag, hag⟩ : ∃ b, b = (pAgain S (j : Int)).2 := ⟨_, rfl⟩
         rw [← hx, ← hag] at HAG HRI
         rw [← hx] at HMR2
         have HBW := Lib.hid ((HB7.out.below hBj))
         obtain ⟨c0, c1, c2, c3, c4, c5, c6⟩ := hpat
         have hji : (j : Int) < (np : Int) := by omega
         have hj0 : (0 : Int) ≤ (j : Int) := by omega
         have hgw : g < wr.heap.size := by omega
         clear hpc hp hx hag
         obtain ⟨pan, paq, prg, ⟨sp, sd, ss, sh⟩⟩ := p
         dsimp only [msgV, msgA] at *
         go_wp2_with fail
         refine (HAG.out _ (below_then BJ (by go_grown)) (HBW.out.below (by go_grown))).mono ?_
         rintro e w8 ⟨rfl, hb8⟩
         have B8 : Below wr.heap.size wr w8 := below_then (by go_grown) hb8
         have HP8 := Lib.hid ((Blk.fresh wr #[.int .i64 pan, .int .i64 paq, .int .i64 prg, .int .i64 sp, .int .i64 sd, .int .i64 ss, .int .i64 sh] 61 _ rfl).below hb8)
         clear c0 c1 c2 c3 c4 c5 c6 hb8
         have qp := HP8.out.cell
         have lp8 := HP8.out.lt
         cases ag
         case false =>
           go_wp2_with fail
           go_roundw
           case rel => exact ⟨j + 1, by omega, by go_num, below_then hBj (below_then B8 (by go_grown))⟩
           case measure => (simp [intOf]; omega)
         obtain ⟨xk, xrg, xpr, xco, hxe, r1⟩ := right_elim (HRI.out rfl)
         rw [r1] at HMR2
         clear r1 HRI
         subst hxe
         have d2 : (node != node) = false := by simp
         have d3 : (pan != pan) = false := by simp
         have d4 : ((j : Int) != (j : Int)) = false := by simp
         have hne := fun W => actNeq pan paq W
         go_wp2_with fail
         refine (HMR2.out _ (below_then BJ (below_then B8 (by go_grown)))).mono ?_
         rintro e w9 ⟨rfl, hb9⟩
         have B9 : Below wr.heap.size wr w9 := below_then B8 (below_then (by go_grown) hb9)
         have HX9 := Lib.hid ((Blk.fresh w8 #[.int .i64 xk, .int .i64 node, .int .i64 pan, .int .i64 pan, .int .i64 paq, .int .i64 xrg, .int .i64 (j : Int), .int .i64 xpr, .int .i64 xco] 81 _ rfl).below hb9)
         have HP9 := Lib.hid ((HP8.out.alloc _).below hb9)
         clear qp lp8 hb9
         have qp := HP9.out.cell
         have qx := HX9.out.cell
         have lp9 := HP9.out.lt
         have lx9 := HX9.out.lt
         go_wp2_with fail
         go_roundw
         case rel => exact ⟨j + 1, by omega, by go_num, below_then hBj B9⟩
         case measure => (simp [intOf]; omega)
       · obtain rfl : j = np := by omega
         go_wp2_with fail
         go_ret
         exact ⟨rfl, BJ⟩
end Go.Proofs.YtlkajejbfojkeaaGreatDoor

namespace Go.Proofs.YtlkajejbfojkeaaGreatDoor
open Go.ChangeShapes Go.WideShapes Go.ChangeAt Go.WideMaps Go.WideElems Go.RowKit Go.Joins

theorem trod_f64 {H : Type} {P : Program} {w : World} {t : TypeId} {fuel : Nat} {base : Nat} {enc : TypeId × Value → H} {spare : Nat → Bool} {held : Bool} {v : Value} {x : DataW H × List MemPlace} (ht : P.underlying t = some (.float .f64)) (h : DataW.trod enc P w base spare held fuel t [v] = some x) : ∃ b, v = .float .f64 b ∧ F64 b := by
 cases fuel with
 | zero => simp [DataW.trod] at h
 | succ n =>
   unfold DataW.trod at h
   rw [ht] at h
   split at h <;> simp_all
   rename_i k k' b he
   subst he
   simpa [Lit.wf, F64] using h.1.2

end Go.Proofs.YtlkajejbfojkeaaGreatDoor

namespace Go.Proofs.YtlkajejbfojkeaaGreatDoor
open Go.RowKit Go.Deep Go.ChangeShapes Go.WideShapes Go.ChangeAt Go.WideMaps Go.WideElems

theorem fact_list_of {α : Type} {C : Nat → α → Prop} : ∀ n, (∀ i, i < n → ∃ o, C i o) → ∃ l : List α, l.length = n ∧ ∀ i (h : i < l.length), C i l[i]
 | 0, _ => ⟨[], rfl, fun i h => absurd h (by simp)⟩
 | n + 1, h => by
   obtain ⟨l, hl, hc⟩ := fact_list_of n (fun i hi => h i (by omega))
   obtain ⟨o, ho⟩ := h n (by omega)
   refine ⟨l ++ [o], by simp [hl], fun i hi => ?_⟩
   by_cases hlt : i < l.length
   · rw [List.getElem_append_left hlt]; exact hc i hlt
   · have : i = n := by simp at hi; omega
     subst this
     rw [List.getElem_append_right (by omega)]
     simpa [hl] using ho
set_option maxRecDepth 100000 in
set_option maxHeartbeats 4000000 in
theorem open_facts {H : Type} {enc : TypeId × Value → H} {W : World} {a0 : Option Addr} {len cap : Nat} {d : DataW H} {p : List MemPlace} {sp : Nat → Bool} (h : DataW.Trod enc Tryz.prog W 0 sp true 22 (.slice a0 len cap) d p) : ∃ fs, ReadFacts W (.slice a0 len cap) fs ∧ ∀ f ∈ fs, F64 f.ex := by
 obtain ⟨fuel, hf⟩ := h
 rcases open_slice Tryz.underlying22 hf with ⟨hcs, hx⟩ | ⟨a, len', cap', m, n, D, Pl, hcs, hb, hl, hm, hmm, hx, hall⟩
 · simp [Value.cells] at hcs
   obtain ⟨rfl, rfl, rfl⟩ := hcs
   exact ⟨[], ⟨none, 0, rfl, fun h => absurd rfl h⟩, by simp⟩
 · simp [Value.cells] at hcs
   obtain ⟨rfl, rfl, rfl⟩ := hcs
   have hlm : len ≤ m := by rw [hmm]; split <;> omega
   have each : ∀ i, i < len → ∃ o : SFact, W.cell? (a.add (i * 14)) = some (.int .i64 o.k) ∧ W.cell? (a.add (i * 14 + 1)) = some (.int .i64 o.an) ∧ W.cell? (a.add (i * 14 + 2)) = some (.int .i64 o.aq) ∧ W.cell? (a.add (i * 14 + 3)) = some (.int .i64 o.rg) ∧ W.cell? (a.add (i * 14 + 4)) = some (.int .i64 o.nd) ∧ W.cell? (a.add (i * 14 + 5)) = some (.int .i64 o.pt) ∧ W.cell? (a.add (i * 14 + 6)) = some (.int .i64 o.pr) ∧ W.cell? (a.add (i * 14 + 7)) = some (.int .i64 o.oc) ∧ W.cell? (a.add (i * 14 + 8)) = some (.int .i64 o.dp) ∧ W.cell? (a.add (i * 14 + 9)) = some (.int .i64 o.pa) ∧ W.cell? (a.add (i * 14 + 10)) = some (.int .i64 o.st) ∧ W.cell? (a.add (i * 14 + 11)) = some (.int .i64 o.hw) ∧ W.cell? (a.add (i * 14 + 12)) = some (.int .i64 o.de) ∧ W.cell? (a.add (i * 14 + 13)) = some (.float .f64 o.ex) ∧ F64 o.ex := by
     intro i hi
     obtain ⟨cs', h1, h2⟩ := hall i (by omega)
     rw [show Tryz.prog.cellsOf 39 = 14 by kernel_rfl] at h1
     obtain ⟨_, hlen, hcell⟩ := World.cells?_some h1
     obtain ⟨xs, k, hk, hxy, _, hxl, hfs⟩ := DataW.trod_struct Tryz.underlying39 h2
     match xs, hxl, cs', hlen with
     | [y0, y1, y2, y3, y4, y5, y6, y7, y8, y9, y10, y11, y12], _, [v0, v1, v2, v3, v4, v5, v6, v7, v8, v9, v10, v11, v12, v13], _ =>
       have g0 := hfs 0 _ rfl
       have g1 := hfs 1 _ rfl
       have g2 := hfs 2 _ rfl
       have g3 := hfs 3 _ rfl
       have g4 := hfs 4 _ rfl
       have g5 := hfs 5 _ rfl
       have g6 := hfs 6 _ rfl
       have g7 := hfs 7 _ rfl
       have g8 := hfs 8 _ rfl
       have g9 := hfs 9 _ rfl
       have g10 := hfs 10 _ rfl
       have g11 := hfs 11 _ rfl
       have g12 := hfs 12 _ rfl
       simp [show Tryz.prog.cellsOf 3 = 1 by kernel_rfl, show Tryz.prog.cellsOf 37 = 1 by kernel_rfl, show Tryz.prog.cellsOf 36 = 2 by kernel_rfl] at g0 g1 g2 g3 g4 g5 g6 g7 g8 g9 g10 g11 g12
       obtain ⟨zs, k2, hk2, _, _, hzl, hgs⟩ := DataW.trod_struct Tryz.underlying36 g1
       match zs, hzl with
       | [z0, z1], _ =>
         have ga := hgs 0 _ rfl
         have gb := hgs 1 _ rfl
         simp [show Tryz.prog.cellsOf 3 = 1 by kernel_rfl] at ga gb
         obtain ⟨n0, e0, _⟩ := DataW.trod_int Tryz.underlying3 g0
         obtain ⟨n1, e1, _⟩ := DataW.trod_int Tryz.underlying3 ga
         obtain ⟨n2, e2, _⟩ := DataW.trod_int Tryz.underlying3 gb
         obtain ⟨n3, e3, _⟩ := DataW.trod_int Tryz.underlying3 g2
         obtain ⟨n4, e4, _⟩ := DataW.trod_int Tryz.underlying3 g3
         obtain ⟨n5, e5, _⟩ := DataW.trod_int Tryz.underlying3 g4
         obtain ⟨n6, e6, _⟩ := DataW.trod_int Tryz.underlying3 g5
         obtain ⟨n7, e7, _⟩ := DataW.trod_int Tryz.underlying3 g6
         obtain ⟨n8, e8, _⟩ := DataW.trod_int Tryz.underlying3 g7
         obtain ⟨n9, e9, _⟩ := DataW.trod_int Tryz.underlying3 g8
         obtain ⟨n10, e10, _⟩ := DataW.trod_int Tryz.underlying3 g9
         obtain ⟨n11, e11, _⟩ := DataW.trod_int Tryz.underlying3 g10
         obtain ⟨n12, e12, _⟩ := DataW.trod_int Tryz.underlying3 g11
         obtain ⟨n13, e13, hf13⟩ := trod_f64 Tryz.underlying37 g12
         simp only [List.cons.injEq, and_true] at e0
         simp only [List.cons.injEq, and_true] at e1
         simp only [List.cons.injEq, and_true] at e2
         simp only [List.cons.injEq, and_true] at e3
         simp only [List.cons.injEq, and_true] at e4
         simp only [List.cons.injEq, and_true] at e5
         simp only [List.cons.injEq, and_true] at e6
         simp only [List.cons.injEq, and_true] at e7
         simp only [List.cons.injEq, and_true] at e8
         simp only [List.cons.injEq, and_true] at e9
         simp only [List.cons.injEq, and_true] at e10
         simp only [List.cons.injEq, and_true] at e11
         simp only [List.cons.injEq, and_true] at e12
         (try simp only [List.cons.injEq, and_true] at e13)
         subst e0 e1 e2 e3 e4 e5 e6 e7 e8 e9 e10 e11 e12 e13
         have c0 := hcell 0 (by omega)
         have c1 := hcell 1 (by omega)
         have c2 := hcell 2 (by omega)
         have c3 := hcell 3 (by omega)
         have c4 := hcell 4 (by omega)
         have c5 := hcell 5 (by omega)
         have c6 := hcell 6 (by omega)
         have c7 := hcell 7 (by omega)
         have c8 := hcell 8 (by omega)
         have c9 := hcell 9 (by omega)
         have c10 := hcell 10 (by omega)
         have c11 := hcell 11 (by omega)
         have c12 := hcell 12 (by omega)
         have c13 := hcell 13 (by omega)
         rw [add_add] at c0 c1 c2 c3 c4 c5 c6 c7 c8 c9 c10 c11 c12 c13
         exact ⟨⟨n0, n1, n2, n3, n4, n5, n6, n7, n8, n9, n10, n11, n12, n13⟩, by simpa using c0, by simpa using c1, by simpa using c2, by simpa using c3, by simpa using c4, by simpa using c5, by simpa using c6, by simpa using c7, by simpa using c8, by simpa using c9, by simpa using c10, by simpa using c11, by simpa using c12, by simpa using c13, hf13⟩
   obtain ⟨fs, hlen, hc⟩ := fact_list_of len each
   subst hlen
   refine ⟨fs, ⟨some a, cap, rfl, fun hne => ?_⟩, fun f hf => ?_⟩
   · have h0 : 0 < fs.length := List.length_pos_iff.2 hne
     have hs0 : a.spot = none := by simpa [Addr.add] using World.cell?_spot (hc 0 h0).1
     obtain ⟨b, off, spot⟩ := a
     have hsp : spot = none := hs0
     subst hsp
     have hlt := World.block_lt_of_cell? W _ (hc 0 h0).1
     refine ⟨b, off, rfl, by simpa [Addr.add] using hlt, fun i hi => ?_⟩
     obtain ⟨c0, c1, c2, c3, c4, c5, c6, c7, c8, c9, c10, c11, c12, c13, _⟩ := hc i hi
     simp only [Addr.add_lit] at c0 c1 c2 c3 c4 c5 c6 c7 c8 c9 c10 c11 c12 c13
     exact ⟨c0, c1, c2, c3, c4, c5, c6, c7, c8, c9, c10, c11, c12, c13⟩
   · obtain ⟨j, hj, rfl⟩ := List.getElem_of_mem hf
     exact (hc j hj).2.2.2.2.2.2.2.2.2.2.2.2.2.2
set_option maxRecDepth 100000 in
theorem open_msg {H : Type} {enc : TypeId × Value → H} {W : World} {v : Value} {r : Reach} {b0 : Nat} {d : DataW H} {p : List MemPlace} {sp : Nat → Bool} (hv : Value.okWide Tryz.prog W r b0 81 v) (h : DataW.Trod enc Tryz.prog W 0 sp true 81 v d p) : ∃ m : SMsg, v = msgV m := by
 obtain ⟨cs, rfl, hsz⟩ := okWide_struct Tryz.underlying81 hv
 obtain ⟨l⟩ := cs
 match l, hsz.trans (show Tryz.prog.cellsOf 81 = 9 by kernel_rfl) with
 | [v0, v1, v2, v3, v4, v5, v6, v7, v8], _ =>
   obtain ⟨fuel, hf⟩ := h
   obtain ⟨xs, k, hk, hxy, _, hxl, hfs⟩ := DataW.trod_struct Tryz.underlying81 hf
   match xs, hxl with
   | [y0, y1, y2, y3, y4, y5, y6, y7], _ =>
     have g0 := hfs 0 _ rfl
     have g1 := hfs 1 _ rfl
     have g2 := hfs 2 _ rfl
     have g3 := hfs 3 _ rfl
     have g4 := hfs 4 _ rfl
     have g5 := hfs 5 _ rfl
     have g6 := hfs 6 _ rfl
     have g7 := hfs 7 _ rfl
     simp [Value.cells, show Tryz.prog.cellsOf 3 = 1 by kernel_rfl, show Tryz.prog.cellsOf 36 = 2 by kernel_rfl] at g0 g1 g2 g3 g4 g5 g6 g7
     obtain ⟨zs, k2, hk2, _, _, hzl, hgs⟩ := DataW.trod_struct Tryz.underlying36 g3
     match zs, hzl with
     | [z0, z1], _ =>
       have ga := hgs 0 _ rfl
       have gb := hgs 1 _ rfl
       simp [show Tryz.prog.cellsOf 3 = 1 by kernel_rfl] at ga gb
       obtain ⟨n0, e0, _⟩ := DataW.trod_int Tryz.underlying3 g0
       obtain ⟨n1, e1, _⟩ := DataW.trod_int Tryz.underlying3 g1
       obtain ⟨n2, e2, _⟩ := DataW.trod_int Tryz.underlying3 g2
       obtain ⟨n3, e3, _⟩ := DataW.trod_int Tryz.underlying3 ga
       obtain ⟨n4, e4, _⟩ := DataW.trod_int Tryz.underlying3 gb
       obtain ⟨n5, e5, _⟩ := DataW.trod_int Tryz.underlying3 g4
       obtain ⟨n6, e6, _⟩ := DataW.trod_int Tryz.underlying3 g5
       obtain ⟨n7, e7, _⟩ := DataW.trod_int Tryz.underlying3 g6
       obtain ⟨n8, e8, _⟩ := DataW.trod_int Tryz.underlying3 g7
       simp only [List.cons.injEq, and_true] at e0
       simp only [List.cons.injEq, and_true] at e1
       simp only [List.cons.injEq, and_true] at e2
       simp only [List.cons.injEq, and_true] at e3
       simp only [List.cons.injEq, and_true] at e4
       simp only [List.cons.injEq, and_true] at e5
       simp only [List.cons.injEq, and_true] at e6
       simp only [List.cons.injEq, and_true] at e7
       simp only [List.cons.injEq, and_true] at e8
       subst e0 e1 e2 e3 e4 e5 e6 e7 e8
       exact ⟨⟨n0, n1, n2, n3, n4, n5, n6, n7, n8⟩, rfl⟩
end Go.Proofs.YtlkajejbfojkeaaGreatDoor

namespace Go.Proofs.YtlkajejbfojkeaaGreatDoor
open Go.ChangeShapes Go.WideShapes Go.ChangeAt Go.WideMaps Go.WideElems Go.RowKit

theorem Tryz.own : ownKnob Tryz.prog.godebug = none := by kernel_rfl
theorem Tryz.laidOut : laidOutB Tryz.prog = true := by kernel_rfl
theorem starE : "*" ++ "errors.errorString" = "*errors.errorString" := by decide
theorem rowE (u : TypeId) (h : Tryz.prog.typeName? 3 u = some "*errors.errorString") : u = 387 :=
 typeName_ptr_named (nm := "errors.errorString") (by rw [starE]; kernel_rfl) (by kernel_rfl) (by decide) u (by rw [starE]; exact h)
theorem cellsE : Tryz.prog.cellsOf 410 = 1 := by kernel_rfl
theorem cellsS : Tryz.prog.cellsOf 9 = 1 := by kernel_rfl

structure LaidE where
 num : Int
 name : String
 g : Nat
 text : List UInt8
def LaidE.datum (x : LaidE) : String × DataW Unit := (x.name, .iface "*errors.errorString" (.ptr (.agg [.lit (.string x.text)])))
def LaidE.ok (x : LaidE) : Prop := Tryz.prog.globalNamed x.name = some x.g ∧ (Tryz.prog.globals[x.g]?).map (·.type) = some 26

set_option maxRecDepth 100000 in
theorem sentinels {W : World} : ∀ (L : List LaidE) (ps : List MemPlace), (L.map (·.num)).Nodup → (∀ x ∈ L, x.ok) → DataW.LaidVars Tryz.prog W (L.map LaidE.datum) ps → ps.Nodup →
   (∀ b off, MemPlace.cell b off ∈ ps → (∃ c t, W.heap[b]? = some (.cells c t (0, 0))) ∧ ∀ u v, W.cell? ⟨b, off, none⟩ = some (.iface u v) → Value.okWide Tryz.prog W .any 0 u v) →
   ∃ ea : Int → Addr, (∀ x ∈ L, ErrIs W x.g (ea x.num) ∧ MemPlace.cell (ea x.num).block (ea x.num).off ∈ ps) ∧ (∀ x ∈ L, ∀ y ∈ L, ea x.num = ea y.num → x.num = y.num) := by
 intro L
 induction L with
 | nil => intro ps _ _ _ _ _; exact ⟨fun _ => ⟨0, 0, none⟩, fun x hx => by simp at hx, fun x hx => by simp at hx⟩
 | cons x L ih =>
   intro ps hnum hok h hnd hrows
   obtain ⟨g0, t0, cs0, f0, p0, q0, hg0, ht0, hv0, hd0, hrest, e0⟩ := h
   have hx := hok x (by simp)
   obtain rfl := Option.some.inj (hx.1.symm.trans hg0)
   obtain rfl := Option.some.inj (hx.2.symm.trans ht0)
   subst e0
   obtain ⟨l0⟩ := cs0
   have ok0 : ∀ u v, l0 = [.iface u v] → Value.okWide Tryz.prog W .any 0 u v := fun u v e => by
     subst e
     exact (hrows x.g 0 (by simp [MemPlace.row])).2 u v (by simpa using World.var?_cell hg0 hv0 0)
   obtain ⟨a0, s0, rfl, hc0, hs0, hz0, rfl⟩ := errorString_of_trod Tryz.underlying26 rowE Tryz.underlying387 Tryz.underlying410 rfl rfl Tryz.underlying9 cellsE cellsS hd0 ok0
   have hn2 := List.nodup_append.1 hnd
   obtain ⟨ea, h1, h2⟩ := ih q0 (by simpa using (List.nodup_cons.1 hnum).2) (fun y hy => hok y (by simp [hy])) hrest hn2.2.1 (fun b off hb => hrows b off (by simp [hb]))
   have hne : ∀ y ∈ L, y.num ≠ x.num := fun y hy he => (List.nodup_cons.1 hnum).1 (by
     have := List.mem_map_of_mem (f := LaidE.num) hy
     rw [he] at this; exact this)
   have hin : MemPlace.cell a0.block a0.off ∈ MemPlace.row ⟨x.g, 0, none⟩ #[Value.iface 387 (.pointer (some a0))].size ++ MemPlace.row a0 1 := by simp [MemPlace.row]
   have hcx : ErrIs W x.g a0 := by
     have := World.var?_cell hg0 hv0 0
     simpa [ErrIs] using this
   refine ⟨fun m => if m = x.num then a0 else ea m, fun y hy => ?_, fun y hy z hz he => ?_⟩
   · rcases List.mem_cons.1 hy with e | hy'
     · subst e
       simp only [if_true]
       exact ⟨hcx, List.mem_append_left _ hin⟩
     · simp only [if_neg (hne y hy')]
       exact ⟨(h1 y hy').1, List.mem_append_right _ (h1 y hy').2⟩
   · rcases List.mem_cons.1 hy with e | hy' <;> rcases List.mem_cons.1 hz with e' | hz'
     · rw [e, e']
     · simp only [e, if_true, if_neg (hne z hz')] at he
       have hz2 := (h1 z hz').2
       rw [← he] at hz2
       exact absurd rfl (hn2.2.2 _ hin _ hz2)
     · simp only [e', if_true, if_neg (hne y hy')] at he
       have hy2 := (h1 y hy').2
       rw [he] at hy2
       exact absurd rfl (hn2.2.2 _ hin _ hy2)
     · simp only [if_neg (hne y hy'), if_neg (hne z hz')] at he
       exact h2 y hy' z hz' he

section frame
variable {H : Type} {enc : TypeId × Value → H}
theorem trodAll_below {W W' : World} (hb : Below W.heap.size W W') : ∀ (ts : List TypeId) (vs : List Value) (ds : List (DataW H)) (ps : List MemPlace), (∀ t ∈ ts, Tryz.prog.readableRec t = true ∧ t < Tryz.prog.types.size) →
   DataW.TrodAll enc Tryz.prog W 0 (fun _ => true) true ts vs ds ps → (∀ x ∈ ps, x.block < W.heap.size) → DataW.TrodAll enc Tryz.prog W' 0 (fun b => decide (b < W.heap.size)) true ts vs ds ps := by
 intro ts
 induction ts with
 | nil =>
   intro vs ds ps _ h _
   obtain ⟨rfl, rfl, rfl⟩ := trodAll_nil h
   exact trodAll_mk0
 | cons t ts ih =>
   intro vs ds ps hts h hlt
   obtain ⟨v, vs', d, ds', p, q, rfl, rfl, rfl, hd, hrest⟩ := trodAll_cons h
   have h1 := Below.trod Tryz.laidOut (hts t (by simp)).1 (hts t (by simp)).2 hd hb (fun x hx => hlt x (by simp [hx]))
   exact trodAll_cons_mk h1 (ih vs' ds' q (fun u hu => hts u (by simp [hu])) hrest (fun x hx => hlt x (by simp [hx])))

theorem trodAll_len {W : World} {base : Nat} {sp : Nat → Bool} {held : Bool} : ∀ {ts : List TypeId} {vs : List Value} {ds : List (DataW H)} {ps : List MemPlace}, DataW.TrodAll enc Tryz.prog W base sp held ts vs ds ps → ds.length = ts.length := by
 intro ts
 induction ts with
 | nil =>
   intro vs ds ps h
   obtain ⟨rfl, rfl, rfl⟩ := trodAll_nil h
   rfl
 | cons t ts ih =>
   intro vs ds ps h
   obtain ⟨v, vs', d, ds', p, q, rfl, rfl, rfl, hd, hrest⟩ := trodAll_cons h
   simp [ih hrest]

theorem frame_post {fn : Func} {s : ChangeSpec} {W W' : World} {args : Array Value} {ds gs : List (DataW H)} {before : List MemPlace}
   (hts : ∀ t ∈ fn.params.toList, Tryz.prog.readableRec t = true ∧ t < Tryz.prog.types.size) (hres : fn.resultTypes = #[4]) (hvars : s.vars = [])
   (hspec : ∀ ds : List (DataW H), ds.length = fn.params.toList.length → (s.fn H ds).results = [.lit (.bool true)] ∧ (s.fn H ds).args = ds ∧ (s.fn H ds).vars = [])
   (hW : DataW.Whole enc Tryz.prog fn.params.toList s.vars false W args.toList ds gs before) (hb : Below W.heap.size W W') :
   s.post enc Tryz.prog fn false true false false W args (.bool true) W' := by
 have hW' := hW
 have hlt := hW.lt
 obtain ⟨p, q, hA, hV, rfl, hfz, hnd⟩ := hW
 rw [hvars] at hV
 obtain ⟨rfl, rfl⟩ : gs = [] ∧ q = [] := by
   cases gs with
   | nil => exact ⟨rfl, hV⟩
   | cons g r => exact absurd hV (by intro h; cases h)
 have hlen : ds.length = fn.params.toList.length := trodAll_len hA
 obtain ⟨e1, e2, e3⟩ := hspec ds hlen
 refine ⟨ds, [], p ++ [], [], p, [], hW', ?_, ?_, ?_, hb.frame _, fun h => by cases h⟩
 · rw [List.append_nil, e1, hres]
   exact trodAll_mk1 (shut_bool Tryz.underlying4 true)
 · rw [List.append_nil, e2]
   exact trodAll_below hb _ _ _ _ hts hA (fun x hx => hlt x (by simp [hx]))
 · rw [List.append_nil, e3, hvars]
   rfl
end frame
end Go.Proofs.YtlkajejbfojkeaaGreatDoor

namespace Go.Proofs.YtlkajejbfojkeaaGreatDoor
open Go.ChangeShapes Go.WideShapes Go.ChangeAt Go.WideMaps Go.WideElems Go.RowKit

def err1 : LaidE := ⟨1, "liaison/api.ErrRange", 0, [108, 105, 97, 105, 115, 111, 110, 58, 32, 114, 97, 110, 103, 101]⟩
theorem ok_err1 : err1.ok := ⟨by kernel_rfl, by kernel_rfl⟩
def err2 : LaidE := ⟨2, "liaison/api.ErrShort", 1, [108, 105, 97, 105, 115, 111, 110, 58, 32, 115, 104, 111, 114, 116]⟩
theorem ok_err2 : err2.ok := ⟨by kernel_rfl, by kernel_rfl⟩
def err3 : LaidE := ⟨3, "liaison/api.ErrLong", 2, [108, 105, 97, 105, 115, 111, 110, 58, 32, 108, 111, 110, 103]⟩
theorem ok_err3 : err3.ok := ⟨by kernel_rfl, by kernel_rfl⟩
def err4 : LaidE := ⟨4, "liaison/api.ErrForm", 3, [108, 105, 97, 105, 115, 111, 110, 58, 32, 102, 111, 114, 109]⟩
theorem ok_err4 : err4.ok := ⟨by kernel_rfl, by kernel_rfl⟩
def err5 : LaidE := ⟨5, "liaison/api.ErrCheck", 4, [108, 105, 97, 105, 115, 111, 110, 58, 32, 99, 104, 101, 99, 107]⟩
theorem ok_err5 : err5.ok := ⟨by kernel_rfl, by kernel_rfl⟩
def err6 : LaidE := ⟨6, "liaison/api.ErrFull", 5, [108, 105, 97, 105, 115, 111, 110, 58, 32, 102, 117, 108, 108]⟩
theorem ok_err6 : err6.ok := ⟨by kernel_rfl, by kernel_rfl⟩
def err7 : LaidE := ⟨7, "liaison/api.ErrPower", 6, [108, 105, 97, 105, 115, 111, 110, 58, 32, 112, 111, 119, 101, 114]⟩
theorem ok_err7 : err7.ok := ⟨by kernel_rfl, by kernel_rfl⟩
def err8 : LaidE := ⟨8, "liaison/api.ErrNone", 7, [108, 105, 97, 105, 115, 111, 110, 58, 32, 110, 111, 110, 101]⟩
theorem ok_err8 : err8.ok := ⟨by kernel_rfl, by kernel_rfl⟩
def err9 : LaidE := ⟨9, "liaison/api.ErrState", 8, [108, 105, 97, 105, 115, 111, 110, 58, 32, 115, 116, 97, 116, 101]⟩
theorem ok_err9 : err9.ok := ⟨by kernel_rfl, by kernel_rfl⟩
def err10 : LaidE := ⟨10, "liaison/api.ErrTwice", 9, [108, 105, 97, 105, 115, 111, 110, 58, 32, 116, 119, 105, 99, 101]⟩
theorem ok_err10 : err10.ok := ⟨by kernel_rfl, by kernel_rfl⟩
def err11 : LaidE := ⟨11, "liaison/api.ErrDepth", 10, [108, 105, 97, 105, 115, 111, 110, 58, 32, 100, 101, 112, 116, 104]⟩
theorem ok_err11 : err11.ok := ⟨by kernel_rfl, by kernel_rfl⟩
def err12 : LaidE := ⟨12, "liaison/api.ErrExpired", 11, [108, 105, 97, 105, 115, 111, 110, 58, 32, 101, 120, 112, 105, 114, 101, 100]⟩
theorem ok_err12 : err12.ok := ⟨by kernel_rfl, by kernel_rfl⟩
def err13 : LaidE := ⟨13, "liaison/api.ErrPanic", 12, [108, 105, 97, 105, 115, 111, 110, 58, 32, 112, 97, 110, 105, 99]⟩
theorem ok_err13 : err13.ok := ⟨by kernel_rfl, by kernel_rfl⟩
def err14 : LaidE := ⟨14, "liaison/api.ErrProtocol", 13, [108, 105, 97, 105, 115, 111, 110, 58, 32, 112, 114, 111, 116, 111, 99, 111, 108]⟩
theorem ok_err14 : err14.ok := ⟨by kernel_rfl, by kernel_rfl⟩
def errs14 : List LaidE := [err1, err2, err3, err4, err5, err6, err7, err8, err9, err10, err11, err12, err13, err14]
theorem num14 (i : Int) (h1 : 1 ≤ i) (h2 : i ≤ 14) : ∃ x ∈ errs14, x.num = i := by
 obtain ⟨n, rfl⟩ := nat14 ⟨h1, h2⟩
 have h0 : n ≠ 0 := fun h => by rw [h] at h1; exact absurd h1 (by decide)
 revert n
 decide
theorem ok14 : ∀ x ∈ errs14, x.ok := by
 intro x hx
 simp only [errs14, List.mem_cons, List.not_mem_nil, or_false] at hx
 rcases hx with rfl | rfl | rfl | rfl | rfl | rfl | rfl | rfl | rfl | rfl | rfl | rfl | rfl | rfl
 · exact ok_err1
 · exact ok_err2
 · exact ok_err3
 · exact ok_err4
 · exact ok_err5
 · exact ok_err6
 · exact ok_err7
 · exact ok_err8
 · exact ok_err9
 · exact ok_err10
 · exact ok_err11
 · exact ok_err12
 · exact ok_err13
 · exact ok_err14

theorem errs_of_laid {W : World} {l : List (String × DataW Unit)} (hl : l = errs14.map LaidE.datum) (h : laidMetH Tryz.prog l W) : ∃ ea, Errs ea W := by
 rw [MakeChecks.laidMetH_plain _ _ _ (by rw [hl]; rfl)] at h
 obtain ⟨ps, h, hnd, hrows⟩ := h
 rw [hl] at h
 obtain ⟨ea, h1, h2⟩ := sentinels errs14 ps (by decide) ok14 h hnd hrows
 have hm : ∀ i : Int, 1 ≤ i → i ≤ 14 → ∃ x ∈ errs14, x.num = i := num14
 refine ⟨ea, (h1 err1 (by simp [errs14])).1, (h1 err2 (by simp [errs14])).1, (h1 err3 (by simp [errs14])).1, (h1 err4 (by simp [errs14])).1, (h1 err5 (by simp [errs14])).1, (h1 err6 (by simp [errs14])).1, (h1 err7 (by simp [errs14])).1, (h1 err8 (by simp [errs14])).1, (h1 err9 (by simp [errs14])).1, (h1 err10 (by simp [errs14])).1, (h1 err11 (by simp [errs14])).1, (h1 err12 (by simp [errs14])).1, (h1 err13 (by simp [errs14])).1, (h1 err14 (by simp [errs14])).1, ?_, ?_⟩
 · intro i j a b c d he
   obtain ⟨x, hx, rfl⟩ := hm i a b
   obtain ⟨y, hy, rfl⟩ := hm j c d
   exact h2 x hx y hy he
 · intro i a b
   obtain ⟨x, hx, rfl⟩ := hm i a b
   exact (hrows _ _ (h1 x hx).2).1

end Go.Proofs.YtlkajejbfojkeaaGreatDoor

namespace Go.Proofs.YtlkajejbfojkeaaGreatDoor
open Go.RowKit

section wrap
variable {H : Type} {enc : TypeId × Value → H}
theorem handed_and_shaped {a : Assume} {C : Checked} {os : Os} {f : FuncId} {fn : Func} {s : ChangeSpec} {conds : List PathCond} {apart fresh handsOn again : Bool} {X : World → Array Value → Prop}
   (hX : ∀ (w w' : World) (args : Array Value), w.heap = w'.heap → X w args → X w' args)
   (own : ownKnob C.prog.godebug = none) (started : os.Started) (noInit : C.prog.inits.idxOf? f = none) (hfn : C.prog.funcs[f]? = some fn)
   (witness : ∃ (w : World) (tape : Tape) (i : Input), w.os = os ∧ (w.forCall tape i).Shaped C.prog ∧ i.vars = [] ∧ Input.okWide C.prog (w.forCall tape i) .any w.heap.size f i ∧
     ((s.pre enc C.prog fn conds apart (w.forCall tape i).memory i.args ∧ X (w.forCall tape i).memory i.args) ∧ sizedMet enc C.prog fn (OpenSpec.ofChange s) apart (w.forCall tape i).memory i.args) ∧ a.holds C.prog (lone (Frame.enter C.prog f i.args .normal) [] (w.forCall tape i)))
   (contract : ∀ (W : World) (base : Nat) (args : Array Value) (ds gs : List (DataW H)) (before : List MemPlace),
     (∀ (j : Nat) t v, fn.params[j]? = some t → args[j]? = some v → Value.okWide C.prog W .any base t v) →
     DataW.Whole enc C.prog fn.params.toList s.vars apart W args.toList ds gs before →
     conds.all (PathCond.test C.prog ⟨fn.params.toList, ds, s.plain.varTypes C.prog, gs⟩) = true →
     (DataW.weightsEach C.prog (fn.params.toList ++ s.plain.varTypes C.prog) (ds ++ gs)).all (· ≤ reachBytes) = true → X W args → W.ShapedOpen C.prog →
     a.holds C.prog (lone (Frame.enter C.prog f args .normal) [] W) →
     Calls C.prog f args W fun e W' => ∃ v, e = .returned v ∧ s.post enc C.prog fn apart fresh handsOn again W args v W') :
   ReturnsInHanded a C os f .any (fun w args => (s.pre enc C.prog fn conds apart w args ∧ X w args) ∧ sizedMet enc C.prog fn (OpenSpec.ofChange s) apart w args) (s.post enc C.prog fn apart fresh handsOn again) := by
 refine returnsInHanded_of_calls own started noInit witness ?_
 intro w tape i _ hsh _ hok hpre hholds
 obtain ⟨_, _, _, fn', hfn', _, _, _, _, hval⟩ := hok
 have e : fn' = fn := Option.some.inj (hfn'.symm.trans hfn)
 subst e
 obtain ⟨⟨⟨ds, gs, before, hw, hc⟩, hx⟩, hz⟩ := hpre
 have hw' := DataW.Whole.of_heap (w' := w.forCall tape i) (by rfl) hw
 refine (contract (w.forCall tape i) w.heap.size i.args ds gs before hval hw' hc (hz.weights hw) (hX _ _ _ (by rfl) hx) hsh hholds).mono fun e W' ⟨v, he, hp⟩ => ?_
 subst he
 exact ChangeSpec.post_blind hp
end wrap
theorem laidVars_parts {P : Program} {W : World} : ∀ (A B : List (String × DataW Unit)) (ps : List MemPlace), DataW.LaidVars P W (A ++ B) ps → ∃ p q, ps = p ++ q ∧ DataW.LaidVars P W A p ∧ DataW.LaidVars P W B q
 | [], _, ps, h => ⟨[], ps, rfl, rfl, h⟩
 | (n, d) :: A, B, ps, h => by
   obtain ⟨g0, t0, cs0, f0, p0, q0, hg0, ht0, hv0, hd0, hrest, e0⟩ := h
   obtain ⟨p, q, rfl, h1, h2⟩ := laidVars_parts A B q0 hrest
   exact ⟨MemPlace.row ⟨g0, 0, none⟩ cs0.size ++ p0 ++ p, q, by rw [e0]; simp [List.append_assoc], ⟨g0, t0, cs0, f0, p0, p, hg0, ht0, hv0, hd0, h1, rfl⟩, h2⟩
theorem laidMet_parts {P : Program} {W : World} {A B : List (String × DataW Unit)} (h : laidMet P (A ++ B) W) : laidMet P A W ∧ laidMet P B W := by
 obtain ⟨ps, h, hnd, hrows⟩ := h
 obtain ⟨p, q, rfl, h1, h2⟩ := laidVars_parts A B ps h
 have hn := List.nodup_append.1 hnd
 exact ⟨⟨p, h1, hn.1, fun b off hb => hrows b off (List.mem_append_left _ hb)⟩, ⟨q, h2, hn.2.1, fun b off hb => hrows b off (List.mem_append_right _ hb)⟩⟩
end Go.Proofs.YtlkajejbfojkeaaGreatDoor

namespace Go.Proofs.YtlkajejbfojkeaaGreatDoor
open Go.ChangeShapes Go.WideShapes Go.ChangeAt Go.WideMaps Go.WideElems Go.RowKit

set_option maxRecDepth 100000 in
theorem pow10_dataS : (Lib.tabData .u64 Lib.pow10Tab : DataW Unit) = Rows.laid_internal_strconv_uint64pow10 := by kernel_rfl
theorem errsS_of_met {W : World} (h : laidMet Tryz.prog (errs14.map LaidE.datum) W) : ∃ ea, Errs ea W :=
 errs_of_laid rfl (by rw [MakeChecks.laidMetH_plain _ _ _ (by rfl)]; exact h)
set_option maxRecDepth 100000 in
theorem envS_of_laid {W : World} {A : List (String × DataW Unit)} {B : List (String × DataW Unit)} {l : List (String × DataW Unit)}
   (hl : l = A ++ (("internal/strconv.uint64pow10", Lib.tabData .u64 Lib.pow10Tab) :: B) ∧ ∃ D, B = errs14.map LaidE.datum ++ D) (hp : (l.all fun x => x.2.handleName?.isNone) = true) (h : laidMetH Tryz.prog l W) : ∃ ea, EnvS ea W := by
 rw [MakeChecks.laidMetH_plain _ _ _ hp] at h
 obtain ⟨rfl, D, rfl⟩ := hl
 have h2 := (laidMet_parts h).2
 have h3 := (laidMet_parts (A := [("internal/strconv.uint64pow10", Lib.tabData .u64 Lib.pow10Tab)]) (B := errs14.map LaidE.datum ++ D) h2).2
 have h4 := (laidMet_parts h3).1
 obtain ⟨ea, he⟩ := errsS_of_met h4
 exact ⟨ea, he, Lib.tabIs_of_head (g := 15) (t := 380) (e := 202) (n := 20) (by kernel_rfl) (by kernel_rfl) Tryz.underlying380 Tryz.underlying202 (by kernel_rfl) (by kernel_rfl) h2⟩
end Go.Proofs.YtlkajejbfojkeaaGreatDoor

namespace Go.Proofs.YtlkajejbfojkeaaGreatDoor
open Go.ChangeShapes Go.WideShapes Go.ChangeAt Go.WideMaps Go.WideElems Go.RowKit Go.Joins

theorem partnerAnswers_laid {l : List (String × DataW Unit)} (hl : l = Rows.partnerAnswersRow.laid) {W : World} (h : laidMetH Tryz.prog l W) : ∃ ea, EnvS ea W := by
 subst hl
 exact envS_of_laid (A := Rows.partnerAnswersRow.laid.take 2) (B := Rows.partnerAnswersRow.laid.drop 3) ⟨by rw [pow10_dataS]; rfl, Rows.partnerAnswersRow.laid.drop 17, rfl⟩ (by kernel_rfl) h
set_option maxRecDepth 100000 in
theorem partnerAnswers_lifted (os : Os) (started : os.Started) (H : Type) (enc : TypeId × Value → H) :
   ReturnsInHanded {} Tryz.checked os 10 .any (fun w args => (Rows.partnerAnswersSpec.pre enc Tryz.prog Tryz.f10 [] false w args ∧ laidMetH Tryz.prog Rows.partnerAnswersRow.laid w) ∧ sizedMet enc Tryz.prog Tryz.f10 (OpenSpec.ofChange Rows.partnerAnswersSpec) false w args)
     (Rows.partnerAnswersSpec.post enc Tryz.prog Tryz.f10 false true false false) := by
 refine handed_and_shaped (C := Tryz.checked) (X := fun w _ => laidMetH Tryz.prog Rows.partnerAnswersRow.laid w) (fun _ _ _ hh h => h.of_heap hh) Tryz.own started (by kernel_rfl) Tryz.func10
   (ChangeSpec.witness_shaped (enc := enc) (C := Tryz.checked) (os := os) (X := fun w _ => laidMetH Tryz.prog Rows.partnerAnswersRow.laid w) false (World.laidAll Tryz.prog os Rows.partnerAnswersRow.laid) #[.int .i64 0, .slice none 0 0, .agg #[.int .i64 0, .int .i64 0, .int .i64 0, .int .i64 0, .int .i64 0, .int .i64 0, .int .i64 0, .int .i64 0, .int .i64 0]] 8 (World.laidAll_os _ _ _) (World.shaped_of_ZipB (by kernel_rfl) (by kernel_rfl)) (by kernel_rfl) (by kernel_rfl) (by kernel_rfl)
     (by rw [MakeChecks.laidMetH_plain _ _ _ (by kernel_rfl)]; exact laidMet_laidAll _ (by kernel_rfl) (by kernel_rfl))) ?_
 intro W base args ds gs before hval0 hW _ hsz hL hshape _
 have hval : ∀ (j : Nat) t v, Tryz.f10.params[j]? = some t → args[j]? = some v → Value.okWide Tryz.prog W .any base t v := hval0
 have hpost : ∀ W', Below W.heap.size W W' → Rows.partnerAnswersSpec.post enc Tryz.prog Tryz.f10 false true false false W args (.bool true) W' := fun W' hb =>
   frame_post (by rw [Tryz.params10]; decide +kernel) rfl rfl (fun ds h => by rw [Tryz.params10] at h; match ds, h with | [d0, d1, d2], _ => exact ⟨rfl, rfl, rfl⟩) hW hb
 obtain ⟨p, q, hA0, hV, rfl, hfz, hnd⟩ := hW
 have hA : DataW.TrodAll enc Tryz.prog W 0 (fun _ => true) true Tryz.f10.params.toList args.toList ds p := hA0
 rw [Tryz.params10] at hA hval
 obtain ⟨v0, v1, v2, d0, d1, d2, p0, p1, p2, rfl, rfl, rfl, h0, h1, h2⟩ := trodAll_three hA
 obtain ⟨x, rfl, _, _, wx⟩ := open_int Tryz.underlying3 (hval 0 _ v0 rfl rfl) h0
 obtain ⟨a1, n1, c1, rfl⟩ := okWide_slice Tryz.underlying22 (hval 1 _ v1 rfl rfl)
 obtain ⟨fs, hR, hF⟩ := open_facts h1
 obtain ⟨m, rfl⟩ := open_msg (hval 2 _ v2 rfl rfl) h2
 obtain ⟨ea, hE⟩ := (partnerAnswers_laid rfl hL)
 exact (law_ans x _ fs m ea W hE hR hF).mono fun e W' ⟨he, hb⟩ => ⟨_, he, hpost W' hb⟩

end Go.Proofs.YtlkajejbfojkeaaGreatDoor

namespace Go.Proofs.YtlkajejbfojkeaaGreatDoor

theorem js_laid : laidOutB Tryz.pinned.checked.prog = true := by kernel_rfl
theorem js_maps : mapsRowed Tryz.pinned.checked.prog = true := by kernel_rfl
theorem js_heard : Tryz.pinned.checked.prog.stopsHeard = true := by kernel_rfl
theorem js_enter : Tryz.pinned.checked.prog.mayEnter = true := by kernel_rfl
theorem js_plain : (Rows.partnerOnceRow.plainKeys == Tryz.pinned.checked.prog.plainKeys) = true := by kernel_rfl
theorem js_lift : (Rows.partnerOnceRow.lifted == Tryz.pinned.checked.prog.liftsFinal) = true := by kernel_rfl
theorem js_make : (Tryz.pinned.checked.prog.make == some Rows.partnerOnceRow.make) = true := by kernel_rfl
end Go.Proofs.YtlkajejbfojkeaaGreatDoor

namespace Go.Proofs.YtlkajejbfojkeaaGreatDoor

set_option maxHeartbeats 16000000 in
theorem partnerAnswers_joined : joinedFacts Tryz.pinned.checked.prog 10 Tryz.f10 Rows.partnerAnswersSpec Rows.partnerAnswersRow = true := by
 unfold joinedFacts
 simp only [Bool.and_eq_true]
 repeat' apply And.intro
 · as_aux_lemma => kernel_rfl
 · exact js_laid
 · exact js_maps
 · as_aux_lemma => kernel_rfl
 · as_aux_lemma => kernel_rfl
 · as_aux_lemma => kernel_rfl
 · as_aux_lemma => kernel_rfl
 · as_aux_lemma => kernel_rfl
 · as_aux_lemma => kernel_rfl
 · as_aux_lemma => kernel_rfl
 · as_aux_lemma => kernel_rfl
 · as_aux_lemma => kernel_rfl
 · as_aux_lemma => kernel_rfl
 · as_aux_lemma => kernel_rfl
 · as_aux_lemma => kernel_rfl
 · as_aux_lemma => kernel_rfl
 · as_aux_lemma => kernel_rfl
 · as_aux_lemma => kernel_rfl
 · as_aux_lemma => kernel_rfl
 · as_aux_lemma => kernel_rfl
 · as_aux_lemma => kernel_rfl
 · as_aux_lemma => kernel_rfl
 · exact js_plain
 · as_aux_lemma => kernel_rfl
 · exact js_heard
 · exact js_enter
 · exact js_lift
 · exact js_make
 · as_aux_lemma => kernel_rfl
 · as_aux_lemma => kernel_rfl
 · as_aux_lemma => kernel_rfl
 · as_aux_lemma => kernel_rfl
end Go.Proofs.YtlkajejbfojkeaaGreatDoor
