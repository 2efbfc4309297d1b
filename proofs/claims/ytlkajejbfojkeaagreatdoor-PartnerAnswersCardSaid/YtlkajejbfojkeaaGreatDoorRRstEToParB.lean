/- RstE, RstQ, Bu16, Al16, MovBw, PaL, PaK, ParA, ParB -/
import Derived.Test.YtlkajejbfojkeaaGreatDoorRows
import Derived.WalkKit
import Derived.WalkSpells
import Derived.WalkLawsBesides
import Derived.BigQuiet
import Derived.Deep.QuietTactic
import Derived.StillTailTactics
import Derived.Handy
import Derived.Lib.Hide
import Derived.Test.YtlkajejbfojkeaaGreatDoorRRstD
import Derived.Deep.RegionHeld3
import Derived.Deep.RegionWith
import Derived.Test.YtlkajejbfojkeaaGreatDoorRRstOToRstW
import Derived.Test.YtlkajejbfojkeaaGreatDoorRRstN
import Derived.Test.YtlkajejbfojkeaaGreatDoorRRstM
import Derived.Test.YtlkajejbfojkeaaGreatDoorRRstJ
import Derived.Test.YtlkajejbfojkeaaGreatDoorRRstI
import Derived.Test.YtlkajejbfojkeaaGreatDoorRRstH
import Derived.Test.YtlkajejbfojkeaaGreatDoorRRstG
import Derived.Test.YtlkajejbfojkeaaGreatDoorRRstF
import Derived.Test.YtlkajejbfojkeaaGreatDoorRStoSToRfcA
import Derived.Test.YtlkajejbfojkeaaGreatDoorRTabPlainToMovB
import Derived.Test.YtlkajejbfojkeaaGreatDoorRStoUToPaB
import Derived.Test.YtlkajejbfojkeaaGreatDoorRTrcPToFlC
import Derived.Laws.Tables
set_option linter.unusedSimpArgs false
set_option linter.unusedVariables false
namespace Go.Proofs.YtlkajejbfojkeaaGreatDoor
open Go.RowKit

set_option maxRecDepth 100000 in
set_option maxHeartbeats 4000000 in
theorem rnopart7 (R : RLoc) (S : Sto) (f : SFact) (w : World) (hx : F64 f.ex) (h : RStoreAt R S w) (hok : fok f = true) (hk : f.k = 7) (hi : (S.parts.length : Int) ≤ f.pt) :
   Calls Tryz.prog 22 #[.pointer (some ⟨R.sb, 0, none⟩), factV f] w (RApplyEnds R S 9 w) := by
 have hR := fun W => rright14_of f hx W
 rw [hok] at hR
 obtain ⟨a, cap, hv, hn, hr⟩ := part_row h.parts
 have HR := Lib.hid hR; have H := Lib.hid h
 have hsb := h.blk.lt
 obtain ⟨n, hnn⟩ : ∃ n, n = S.parts.length := ⟨_, rfl⟩
 rw [← hnn] at hv hi
 have HQ := Lib.hid (fun W (hW : RStoreAt R S W) => (show W.cell? ⟨R.sb, 3, none⟩ = some (.slice a n cap) by rw [← hv]; exact hW.blk.cell 3))
 obtain ⟨k, an, aq, rg, nd, pt, pr, oc, dp, pa, st, hw, de, ex⟩ := f
 dsimp only at hi hk
 subst hk
 dsimp only [factV, factC] at *
 clear hR h hok hx hnn hn hr hv
 go_enter Tryz.func22, Tryz.ntmps22
 go_wp2_with fail
 (with_reducible refine (HR.out _).mono ?_)
 rintro e w1 ⟨rfl, hb1⟩
 have B1 : Below w.heap.size w w1 := below_then (by go_grown) hb1
 have HK1 := Lib.hid ((Blk.fresh w #[.int .i64 7, .int .i64 an, .int .i64 aq, .int .i64 rg, .int .i64 nd, .int .i64 pt, .int .i64 pr, .int .i64 oc, .int .i64 dp, .int .i64 pa, .int .i64 st, .int .i64 hw, .int .i64 de, .float .f64 ex] 42 _ rfl).below hb1)
 have hz1 := hb1.size
 simp only [World.size_alloc] at hz1
 have hs1 : R.sb < w1.heap.size := by omega
 have hs2 : w.heap.size < w1.heap.size := by omega
 obtain ⟨q, qf⟩ := HK1.out.out
 have c3 := HQ.out _ (H.out.below B1)
 have hi3 : decide ((n : Int) ≤ pt) = true := decide_eq_true hi
 go_wp2_with fail
 go_region
 all_goals go_wp2_with fail
 all_goals go_ret
 all_goals exact ⟨rfl, RGoes.same H.out (below_then B1 (by go_grown))⟩
set_option maxRecDepth 100000 in
set_option maxHeartbeats 4000000 in
theorem rpart7_yes (R : RLoc) (S : Sto) (f : SFact) (i : Nat) (p : SPart) (w : World) (hx : F64 f.ex) (h : RStoreAt R S w) (hok : fok f = true) (hk : f.k = 7) (hi : f.pt = (i : Int)) (hp : S.parts[i]? = some p) (hr7 : p.rg = -1) :
   Calls Tryz.prog 22 #[.pointer (some ⟨R.sb, 0, none⟩), factV f] w (RApplyEnds R { S with parts := S.parts.set i { p with rg := f.rg } } 0 w) := by
 have hR := fun W => rright14_of f hx W
 rw [hok] at hR
 obtain ⟨a, cap, hv, hn, hr⟩ := part_row h.parts
 have hil := (List.getElem?_eq_some_iff.1 hp).1
 obtain ⟨g, rfl, hg, hfz, hcell⟩ := hr (by omega)
 have hcl := hcell i p hp
 have HG := Lib.hid (fun w2 (hb : Below w.heap.size w w2) => rrg_part_goes h hb hv hp f.rg)
 obtain ⟨n, hnn⟩ : ∃ n, n = S.parts.length := ⟨_, rfl⟩
 rw [← hnn] at hv hil
 have HR := Lib.hid hR; have HCL := Lib.hid hcl; have HFZ := Lib.hid hfz
 have hsb := h.blk.lt
 have HQ := Lib.hid (show w.cell? ⟨R.sb, 3, none⟩ = some (.slice (some ⟨g, 0, none⟩) n cap) by rw [← hv]; exact h.blk.cell 3)
 have hi0 : (0 : Int) ≤ (i : Int) := by omega
 have hi1 : (i : Int) < (n : Int) := by omega
 have hi2 : ¬ (n : Int) ≤ (i : Int) := by omega
 have hi3 : decide ((n : Int) ≤ (i : Int)) = false := decide_eq_false hi2
 have hi4 : ¬ n ≤ i := by omega
 have hi5 : decide (n ≤ i) = false := decide_eq_false hi4
 obtain ⟨pan, paq, prg, ⟨sp, sd, ss, sh⟩⟩ := p
 obtain ⟨k, an, aq, rg, nd, pt, pr, oc, dp, pa, st, hw, de, ex⟩ := f
 dsimp only at hi hk
 subst hk
 subst hi
 dsimp only [factV, factC] at *
 subst hr7
 clear hR h hok hx hnn hn hr hv hcl hcell hp hfz
 go_enter Tryz.func22, Tryz.ntmps22
 go_wp2_with fail
 (with_reducible refine (HR.out _).mono ?_)
 rintro e w1 ⟨rfl, hb1⟩
 have B1 : Below w.heap.size w w1 := below_then (by go_grown) hb1
 have HK1 := Lib.hid ((Blk.fresh w #[.int .i64 7, .int .i64 an, .int .i64 aq, .int .i64 rg, .int .i64 nd, .int .i64 (i : Int), .int .i64 pr, .int .i64 oc, .int .i64 dp, .int .i64 pa, .int .i64 st, .int .i64 hw, .int .i64 de, .float .f64 ex] 42 _ rfl).below hb1)
 have hz1 := hb1.size
 simp only [World.size_alloc] at hz1
 have hs1 : R.sb < w1.heap.size := by omega
 have hs2 : w.heap.size < w1.heap.size := by omega
 obtain ⟨q, qf⟩ := HK1.out.out
 have hg1 : g < w1.heap.size := by omega
 obtain ⟨pc0, pc1, pc2, pc3, pc4, pc5, pc6⟩ := PartC.below HCL.out B1 hg
 have f1 : ∀ j, w1.frozen? ⟨g, j, none⟩ = false := fun j => (B1.frozen (p := ⟨g, j, none⟩) hg).trans (HFZ.out j)
 have c3 := (B1.cell (p := ⟨R.sb, 3, none⟩) hsb).trans HQ.out
 dsimp only at pc0 pc1 pc2 pc3 pc4 pc5 pc6
 clear pc0 pc1 pc3 pc4 pc5 pc6
 go_wp2_with fail
 go_region
 all_goals go_wp2_with fail
 go_region
 all_goals go_wp2_with fail
 all_goals go_ret
 all_goals exact ⟨rfl, (HG.out _ (below_then B1 (by go_grown))).then_below (by go_grown)⟩
set_option maxRecDepth 100000 in
set_option maxHeartbeats 4000000 in
theorem rpart7_no (R : RLoc) (S : Sto) (f : SFact) (i : Nat) (p : SPart) (w : World) (hx : F64 f.ex) (h : RStoreAt R S w) (hok : fok f = true) (hk : f.k = 7) (hi : f.pt = (i : Int)) (hp : S.parts[i]? = some p) (hr7 : 0 ≤ p.rg) :
   Calls Tryz.prog 22 #[.pointer (some ⟨R.sb, 0, none⟩), factV f] w (RApplyEnds R S 9 w) := by
 have hR := fun W => rright14_of f hx W
 rw [hok] at hR
 obtain ⟨a, cap, hv, hn, hr⟩ := part_row h.parts
 have hil := (List.getElem?_eq_some_iff.1 hp).1
 obtain ⟨g, rfl, hg, hfz, hcell⟩ := hr (by omega)
 have hcl := hcell i p hp
 have HG := Lib.hid (fun w2 (hb : Below w.heap.size w w2) => RGoes.same h hb)
 obtain ⟨n, hnn⟩ : ∃ n, n = S.parts.length := ⟨_, rfl⟩
 rw [← hnn] at hv hil
 have HR := Lib.hid hR; have HCL := Lib.hid hcl; have HFZ := Lib.hid hfz
 have hsb := h.blk.lt
 have HQ := Lib.hid (show w.cell? ⟨R.sb, 3, none⟩ = some (.slice (some ⟨g, 0, none⟩) n cap) by rw [← hv]; exact h.blk.cell 3)
 have hi0 : (0 : Int) ≤ (i : Int) := by omega
 have hi1 : (i : Int) < (n : Int) := by omega
 have hi2 : ¬ (n : Int) ≤ (i : Int) := by omega
 have hi3 : decide ((n : Int) ≤ (i : Int)) = false := decide_eq_false hi2
 have hi4 : ¬ n ≤ i := by omega
 have hi5 : decide (n ≤ i) = false := decide_eq_false hi4
 obtain ⟨pan, paq, prg, ⟨sp, sd, ss, sh⟩⟩ := p
 obtain ⟨k, an, aq, rg, nd, pt, pr, oc, dp, pa, st, hw, de, ex⟩ := f
 dsimp only at hi hk
 subst hk
 subst hi
 dsimp only [factV, factC] at *
 have hr8 : decide ((0 : Int) ≤ prg) = true := decide_eq_true hr7
 clear hR h hok hx hnn hn hr hv hcl hcell hp hfz
 go_enter Tryz.func22, Tryz.ntmps22
 go_wp2_with fail
 (with_reducible refine (HR.out _).mono ?_)
 rintro e w1 ⟨rfl, hb1⟩
 have B1 : Below w.heap.size w w1 := below_then (by go_grown) hb1
 have HK1 := Lib.hid ((Blk.fresh w #[.int .i64 7, .int .i64 an, .int .i64 aq, .int .i64 rg, .int .i64 nd, .int .i64 (i : Int), .int .i64 pr, .int .i64 oc, .int .i64 dp, .int .i64 pa, .int .i64 st, .int .i64 hw, .int .i64 de, .float .f64 ex] 42 _ rfl).below hb1)
 have hz1 := hb1.size
 simp only [World.size_alloc] at hz1
 have hs1 : R.sb < w1.heap.size := by omega
 have hs2 : w.heap.size < w1.heap.size := by omega
 obtain ⟨q, qf⟩ := HK1.out.out
 have hg1 : g < w1.heap.size := by omega
 obtain ⟨pc0, pc1, pc2, pc3, pc4, pc5, pc6⟩ := PartC.below HCL.out B1 hg
 have f1 : ∀ j, w1.frozen? ⟨g, j, none⟩ = false := fun j => (B1.frozen (p := ⟨g, j, none⟩) hg).trans (HFZ.out j)
 have c3 := (B1.cell (p := ⟨R.sb, 3, none⟩) hsb).trans HQ.out
 dsimp only at pc0 pc1 pc2 pc3 pc4 pc5 pc6
 clear pc0 pc1 pc3 pc4 pc5 pc6
 go_wp2_with fail
 go_region
 all_goals go_wp2_with fail
 all_goals go_ret
 all_goals exact ⟨rfl, HG.out _ (below_then B1 (by go_grown))⟩
end Go.Proofs.YtlkajejbfojkeaaGreatDoor

namespace Go.Proofs.YtlkajejbfojkeaaGreatDoor
open Go.RowKit

theorem rapply_of (R : RLoc) (S : Sto) (f : SFact) (w : World) (hx : F64 f.ex) (h : RStoreAt R S w) (hG : StoGood S) :
   Calls Tryz.prog 22 #[.pointer (some ⟨R.sb, 0, none⟩), factV f] w (RApplyEnds R (sapply S f).1 (sapply S f).2 w) := by
 cases hok : fok f with
 | false =>
   have e : sapply S f = (S, 4) := by unfold sapply; rw [if_pos hok]
   rw [e]
   exact rapply_bad R S f w hx h hok
 | true =>
   have hs : ∀ T, sput S f = some T → sapply S f = (T, 0) := fun T hT => by unfold sapply; rw [if_neg (by rw [hok]; simp), hT]
   have hn : sput S f = none → sapply S f = (S, 9) := fun hT => by unfold sapply; rw [if_neg (by rw [hok]; simp), hT]
   have hkk := fok_any hok
   by_cases k1 : f.k = 1
   · obtain ⟨f1, f2, f3⟩ := fok1 hok k1
     have fi := ctxOk_id f1
     by_cases c1 : f.an = S.node
     case neg =>
       have e : sput S f = none := by unfold sput; rw [if_pos k1, if_pos (.inl c1)]
       rw [hn e]
       exact ropen_no1 R S f w hx h hok k1 c1
     by_cases c2 : S.next ≤ f.aq
     case neg =>
       have e : sput S f = none := by unfold sput; rw [if_pos k1, if_pos (.inr (.inl (by omega)))]
       rw [hn e]
       exact ropen_no2 R S f w hx h hok k1 c1 (by omega)
     by_cases c3 : S.acts.length < 8
     case neg =>
       have e : sput S f = none := by unfold sput; rw [if_pos k1, if_pos (.inr (.inr (.inl (by omega))))]
       rw [hn e]
       exact ropen_no3 R S f w hx h hok k1 c1 c2 (by omega)
     by_cases c4 : 0 < f.pa → f.pa ≤ (S.parts.length : Int) ∧ schild S f.pa = none
     · have e : sput S f = some { S with next := f.aq + 1, acts := S.acts ++ [⟨f.an, f.aq, f.oc, f.dp, f.ex, f.pa, 0, []⟩] } := by
         unfold sput
         rw [if_pos k1, if_neg]
         rintro (e | e | e | ⟨e1, e2⟩)
         · exact e c1
         · omega
         · omega
         · obtain ⟨q1, q2⟩ := c4 e1
           rcases e2 with e2 | e2
           · omega
           · rw [q2] at e2; cases e2
       rw [hs _ e]
       by_cases c5 : 0 < f.pa
       · exact ropen_yes2 R S f w hx h hok k1 ⟨fi.2.2.1, fi.2.2.2⟩ ⟨f2, f3⟩ c1 c2 c3 c5 (c4 c5).1 (c4 c5).2
       · exact ropen_yes1 R S f w hx h hok k1 ⟨fi.2.2.1, fi.2.2.2⟩ ⟨f2, f3⟩ c1 c2 c3 (by omega)
     · have c5 : 0 < f.pa := Decidable.byContradiction fun e => c4 (fun e' => absurd e' e)
       by_cases c6 : f.pa ≤ (S.parts.length : Int)
       · cases hc : schild S f.pa with
         | none => exact absurd (fun _ => ⟨c6, hc⟩) c4
         | some i =>
           have e : sput S f = none := by unfold sput; rw [if_pos k1, if_pos (.inr (.inr (.inr ⟨c5, .inr (by rw [hc]; rfl)⟩)))]
           rw [hn e]
           exact ropen_no5 R S f w hx h hok k1 hG.acts c1 c2 c3 c5 f3 c6 i hc
       · have e : sput S f = none := by unfold sput; rw [if_pos k1, if_pos (.inr (.inr (.inr ⟨c5, .inl (by omega)⟩)))]
         rw [hn e]
         exact ropen_no4 R S f w hx h hok k1 hG.acts c1 c2 c3 c5 f3 (by omega)
   by_cases k6 : f.k = 6
   · obtain ⟨f1, f2, f3, f4, f5⟩ := fok6 hok k6
     by_cases c : f.pt = (S.parts.length : Int)
     · have e : sput S f = some { S with parts := S.parts ++ [⟨f.an, f.aq, -1, ⟨f.pr, 2, 1, 0⟩⟩] } := by unfold sput; rw [if_neg k1, if_pos k6, if_neg (by simp [c])]
       rw [hs _ e]
       exact rjoin_yes R S f w hx h hok k6 hG.parts c
     · have e : sput S f = none := by unfold sput; rw [if_neg k1, if_pos k6, if_pos c]
       rw [hn e]
       exact rjoin_no R S f w hx h hok k6 c
   by_cases k78 : f.k = 7 ∨ f.k = 8
   · have h0 : 0 ≤ f.pt := by
       rcases k78 with k | k
       · exact (fok7 hok k).1
       · exact (fok8 hok k).1
     by_cases c : f.pt < (S.parts.length : Int)
     case neg =>
       have e : sput S f = none := by
         unfold sput
         rw [if_neg k1, if_neg k6, if_pos k78, List.getElem?_eq_none (by omega)]
       rw [hn e]
       rcases k78 with k7 | k8
       · exact rnopart7 R S f w hx h hok k7 (by omega)
       · exact rnopart8 R S f w hx h hok k8 (by omega)
     obtain ⟨i, hi⟩ : ∃ i : Nat, f.pt = (i : Int) := ⟨f.pt.toNat, by omega⟩
     have hil : i < S.parts.length := by omega
     have hp : S.parts[i]? = some S.parts[i] := List.getElem?_eq_getElem hil
     have hit : f.pt.toNat = i := by omega
     obtain ⟨p, hpe⟩ : ∃ p, p = S.parts[i] := ⟨_, rfl⟩
     rw [← hpe] at hp
     by_cases k8 : f.k = 8
     · cases ht : sturn p.seat f.st f.hw with
       | none =>
         have e : sput S f = none := by
           unfold sput
           rw [if_neg k1, if_neg k6, if_pos k78, hit, hp]
           simp only
           rw [if_pos k8, ht]
           rfl
         rw [hn e]
         exact rpart8_no R S f i p w hx h hok k8 hi hp (turnOk_none ht)
       | some t =>
         have e : sput S f = some { S with parts := S.parts.set i { p with seat := t } } := by
           unfold sput
           rw [if_neg k1, if_neg k6, if_pos k78, hit, hp]
           simp only
           rw [if_pos k8, ht]
           rfl
         rw [hs _ e]
         obtain ⟨q1, q2⟩ := turnOk_some ht
         subst q2
         exact rpart8_yes R S f i p w hx h hok k8 hi hp q1
     · have k7 := k78.resolve_right k8
       by_cases hr : p.rg = -1
       · have e : sput S f = some { S with parts := S.parts.set i { p with rg := f.rg } } := by
           unfold sput
           rw [if_neg k1, if_neg k6, if_pos k78, hit, hp]
           simp only
           rw [if_neg k8, if_neg (by simp [hr])]
         rw [hs _ e]
         exact rpart7_yes R S f i p w hx h hok k7 hi hp hr
       · have e : sput S f = none := by
           unfold sput
           rw [if_neg k1, if_neg k6, if_pos k78, hit, hp]
           simp only
           rw [if_neg k8, if_pos hr]
         rw [hn e]
         exact rpart7_no R S f i p w hx h hok k7 hi hp (by have := (hG.part p (List.mem_of_getElem? hp)).2.1; omega)
   have hk4 : f.k ≠ 1 ∧ f.k ≠ 6 ∧ f.k ≠ 7 ∧ f.k ≠ 8 := ⟨k1, k6, fun e => k78 (.inl e), fun e => k78 (.inr e)⟩
   cases hi : sfind S f.an f.aq with
   | none =>
     have e : sput S f = none := by unfold sput; rw [if_neg k1, if_neg k6, if_neg k78, hi]
     rw [hn e]
     exact rapply_noact R S f w hx h hG.acts hok hk4 hi
   | some i =>
     have hil : i < S.acts.length := by unfold sfind at hi; exact (List.findIdx?_eq_some_iff_getElem.1 hi).1
     obtain ⟨a, ha⟩ : ∃ a, S.acts[i]? = some a := ⟨_, List.getElem?_eq_getElem hil⟩
     obtain ⟨x, hxi⟩ : ∃ x, R.rv[i]? = some x := ⟨_, List.getElem?_eq_getElem (by rw [h.len]; exact hil)⟩
     have hA := hG.act a (List.mem_of_getElem? ha)
     have hl := hA.len
     have hsp : sput S f = if f.k = 5 then (if (a.regs.any fun r => decide (r.seat.s ≠ 14)) = true then none else some { S with acts := S.acts.take i ++ S.acts.drop (i + 1) }) else (sact a f).map fun b => { S with acts := S.acts.set i b } := by
       unfold sput
       rw [if_neg k1, if_neg k6, if_neg k78, hi]
       simp only
       rw [ha]
     have yes : ∀ T, sput S f = some T → (∀ W, Below w.heap.size w W → Calls Tryz.prog 93 #[.pointer (some ⟨R.sb, 0, none⟩), .int .i64 (i : Int), factV f] W fun e w' => e = .returned (.bool true) ∧ RGoes R T W w') → Calls Tryz.prog 22 #[.pointer (some ⟨R.sb, 0, none⟩), factV f] w (RApplyEnds R (sapply S f).1 (sapply S f).2 w) := fun T hT hC => by
       rw [hs _ hT]
       exact rapply_act R S T f i true w hx h hG.acts hok hk4 hi hC
     have no : sput S f = none → (∀ W, Below w.heap.size w W → Calls Tryz.prog 93 #[.pointer (some ⟨R.sb, 0, none⟩), .int .i64 (i : Int), factV f] W fun e w' => e = .returned (.bool false) ∧ RGoes R S W w') → Calls Tryz.prog 22 #[.pointer (some ⟨R.sb, 0, none⟩), factV f] w (RApplyEnds R (sapply S f).1 (sapply S f).2 w) := fun hT hC => by
       rw [hn hT]
       exact rapply_act R S S f i false w hx h hG.acts hok hk4 hi hC
     have hxl : ∀ W, Below w.heap.size w W → RStoreAt R S W := fun W hW => h.below hW
     by_cases k5 : f.k = 5
     · rw [if_pos k5] at hsp
       cases hany : (a.regs.any fun r => decide (r.seat.s ≠ 14)) with
       | true =>
         rw [hany, if_pos rfl] at hsp
         exact no hsp (fun W hW => ract5_no R S f i a x W (hxl W hW) hG.acts k5 hxi ha hl hany)
       | false =>
         rw [hany, if_neg (by simp)] at hsp
         exact yes _ hsp (fun W hW => ract5_yes R S f i a x W (hxl W hW) hG.acts k5 hxi ha hl hany)
     rw [if_neg k5] at hsp
     by_cases k2 : f.k = 2
     · obtain ⟨f1, f2, f3, f4, f5, f6, f7, f8, f9⟩ := fok2 hok k2
       by_cases c1 : f.rg = (a.regs.length : Int)
       case neg =>
         have e : sact a f = none := by unfold sact; rw [if_pos k2, if_pos (.inl c1)]
         rw [e] at hsp
         exact no hsp (fun W hW => ract2_no1 R S f i a x W (hxl W hW) hG.acts k2 hxi ha c1)
       by_cases c2 : a.de = 0
       case neg =>
         have e : sact a f = none := by unfold sact; rw [if_pos k2, if_pos (.inr (.inl c2))]
         rw [e] at hsp
         exact no hsp (fun W hW => ract2_no2 R S f i a x W (hxl W hW) hG.acts k2 hxi ha c1 c2)
       cases hany : (a.regs.any fun r => decide (r.n = f.nd ∧ r.p = f.pt)) with
       | true =>
         have e : sact a f = none := by unfold sact; rw [if_pos k2, if_pos (.inr (.inr hany))]
         rw [e] at hsp
         exact no hsp (fun W hW => ract2_no3 R S f i a x W (hxl W hW) hG.acts k2 hxi ha hl c1 c2 hany)
       | false =>
         have e : sact a f = some { a with regs := a.regs ++ [⟨f.nd, f.pt, ⟨f.pr, 1, 1, 0⟩⟩] } := by
           unfold sact
           rw [if_pos k2, if_neg]
           rintro (e | e | e)
           · exact e c1
           · exact e c2
           · rw [hany] at e; cases e
         rw [e] at hsp
         exact yes _ hsp (fun W hW => ract2_yes R S f i a x W (hxl W hW) hG.acts k2 hxi ha hl c1 c2 hany)
     by_cases k3 : f.k = 3
     · obtain ⟨f1, f2, f3, f4⟩ := fok3 hok k3
       have hsa : sact a f = match a.regs[f.rg.toNat]? with
           | none => none
           | some r => (sturn r.seat f.st f.hw).map fun t => { a with regs := a.regs.set f.rg.toNat { r with seat := t } } := by
         unfold sact; rw [if_neg k2, if_pos k3]; cases a.regs[f.rg.toNat]? <;> rfl
       by_cases c1 : f.rg < (a.regs.length : Int)
       case neg =>
         have e : sact a f = none := by rw [hsa, List.getElem?_eq_none (by omega)]
         rw [e] at hsp
         exact no hsp (fun W hW => ract3_len R S f i a x W (hxl W hW) hG.acts k3 hxi ha (by omega))
       obtain ⟨j, hj⟩ : ∃ j : Nat, f.rg = (j : Int) := ⟨f.rg.toNat, by omega⟩
       have hjt : f.rg.toNat = j := by omega
       obtain ⟨r, hr⟩ : ∃ r, a.regs[j]? = some r := ⟨_, List.getElem?_eq_getElem (by omega)⟩
       rw [hjt, hr] at hsa
       simp only at hsa
       cases ht : sturn r.seat f.st f.hw with
       | none =>
         rw [ht] at hsa
         rw [hsa] at hsp
         exact no hsp (fun W hW => ract3_no R S f i a x j r W (hxl W hW) hG.acts k3 hxi ha hj hr hl (turnOk_none ht))
       | some t =>
         rw [ht] at hsa
         rw [hsa] at hsp
         obtain ⟨q1, q2⟩ := turnOk_some ht
         subst q2
         exact yes _ hsp (fun W hW => ract3_yes R S f i a x j r W (hxl W hW) hG.acts k3 hxi ha hj hr hl q1)
     have k4 : f.k = 4 := by omega
     have hsa : sact a f = if a.oc ≠ 1 ∨ a.de ≠ 0 then none else some { a with de := f.de } := by
       unfold sact; rw [if_neg k2, if_neg k3]
     by_cases c : a.oc ≠ 1 ∨ a.de ≠ 0
     · rw [hsa, if_pos c] at hsp
       exact no hsp (fun W hW => by
         by_cases c0 : a.oc = 1
         · exact ract4_no2 R S f i a x W (hxl W hW) hG.acts k4 hxi ha c0 (c.resolve_left (fun e => e c0))
         · exact ract4_no1 R S f i a x W (hxl W hW) hG.acts k4 hxi ha c0)
     · rw [hsa, if_neg c] at hsp
       exact yes _ hsp (fun W hW => ract4_yes R S f i a x W (hxl W hW) hG.acts k4 hxi ha (Decidable.byContradiction fun e => c (.inl e)) (Decidable.byContradiction fun e => c (.inr e)))
end Go.Proofs.YtlkajejbfojkeaaGreatDoor

namespace Go.Proofs.YtlkajejbfojkeaaGreatDoor
open Go.RowKit
attribute [local go_sem] store_float

def BuiltYes16 (S : Sto) (w : World) (e : Ending) (w' : World) : Prop := ∃ L R, e = .returned (.tuple #[.pointer (some ⟨L.sb, 0, none⟩), .pointer (some ⟨R.sb, 0, none⟩), .bool true]) ∧ Built L R S w w'
set_option maxRecDepth 100000 in
set_option maxHeartbeats 2000000 in
theorem built16_no (node : Int) (v : Value) (fs : List SFact) (ea : Int → Addr) (w : World) (hE : EnvS ea w) (hR : ReadFacts w v fs) (h : ¬ ((0 ≤ node ∧ node ≤ 3) ∧ fs.length ≤ 60)) : Calls Tryz.prog 37 #[.int .i64 node, v] w (Makes (.tuple #[.pointer none, .pointer none, .bool false]) w) := by
 obtain ⟨a, cap, rfl, _⟩ := hR
 obtain ⟨n, hn⟩ : ∃ n, n = fs.length := ⟨_, rfl⟩
 rw [← hn] at h ⊢
 clear hn
 by_cases hnd : 0 ≤ node ∧ node ≤ 3
 · have HN := Lib.hid (snew_yes node w hnd)
   have hl : (60 : Int) < (n : Int) := by have : ¬ n ≤ 60 := fun e => h ⟨hnd, e⟩; omega
   have d1 : decide ((60 : Int) < (n : Int)) = true := decide_eq_true hl
   have d2 : decide (60 < n) = true := decide_eq_true (by omega)
   clear hE h hnd hl
   go_enter Tryz.func37, Tryz.ntmps37
   go_wp2_with fail
   refine HN.out.mono ?_
   rintro e w1 ⟨rfl, rfl⟩
   go_wp2_with fail
   go_ret3
   exact ⟨rfl, by go_grown⟩
 · have HN := Lib.hid (snew_no node ea w hE hnd)
   clear hE h hnd
   go_enter Tryz.func37, Tryz.ntmps37
   go_wp2_with fail
   refine HN.out.mono ?_
   rintro e w1 ⟨rfl, hb1⟩
   go_wp2_with fail
   go_ret3
   exact ⟨rfl, below_then hb1 (by go_grown)⟩
set_option maxRecDepth 100000 in
set_option maxHeartbeats 4000000 in
theorem built16_yes (node : Int) (v : Value) (fs : List SFact) (ea : Int → Addr) (w : World) (hE : EnvS ea w) (hR : ReadFacts w v fs) (hF : ∀ f ∈ fs, F64 f.ex) (hnd : 0 ≤ node ∧ node ≤ 3) (hl : fs.length ≤ 60) : Calls Tryz.prog 37 #[.int .i64 node, v] w (BuiltYes16 (splay node fs) w) := by
 obtain ⟨a, cap, rfl, hcells⟩ := hR
 obtain ⟨n, hn⟩ : ∃ n, n = fs.length := ⟨_, rfl⟩
 rw [← hn] at hl ⊢
 have HC := Lib.hid hcells; have HN0 := Lib.hid hn; have HE := Lib.hid hE; have HF := Lib.hid hF
 have HN := Lib.hid (snew_yes node w hnd)
 have HG := Lib.hid (fun gs => splay_good hnd gs)
 have d1 : decide ((60 : Int) < (n : Int)) = false := decide_eq_false (by omega)
 have d2 : decide (60 < n) = false := decide_eq_false (by omega)
 clear hcells hn hE hF hnd
 go_enter Tryz.func37, Tryz.ntmps37
 go_wp2_with fail
 refine HN.out.mono ?_
 rintro e w1 ⟨rfl, rfl⟩
 have HB0 := Lib.hid (built_start (w := w) (W := w.alloc (.cells #[.int .i64 node, .int .i64 0, .slice none 0 0, .slice none 0 0] 154)) (node := node) (x := w.heap.size) (by go_grown) (Blk.fresh w _ _ _ rfl) (Nat.le_refl _) 34)
 rw [show (w.alloc (.cells #[.int .i64 node, .int .i64 0, .slice none 0 0, .slice none 0 0] 154)).heap.size = w.heap.size + 1 by simp] at HB0
 go_wp2_with fail
 clear d1 d2
 go_loopw [29] (fun i wr => ∃ k : Nat, k ≤ n ∧ i = .int .i64 (k : Nat) ∧ Hid (∃ L R, L.sb = w.heap.size ∧ R.sb = w.heap.size + 1 ∧ Built L R (splay node (fs.take k)) w wr)) (fun i _ => n - (intOf i).toNat)
 case atStart => exact ⟨0, by omega, by first | rfl | go_num, Lib.hid ⟨_, _, rfl, rfl, HB0.out⟩⟩
 case round =>
   obtain ⟨k, hk, rfl, HBU⟩ := hrel
   obtain ⟨L, R, hLb, hRb, hB⟩ := HBU.out
   by_cases hlt : k < n
   · have hks : k < fs.length := by rw [← HN0.out]; exact hlt
     obtain ⟨b, off, rfl, hbl, hfact⟩ := HC.out (by intro e; rw [e] at hks; simp at hks)
     obtain ⟨f, hf⟩ : ∃ f, f = fs[k] := ⟨_, rfl⟩
     have hat := (hfact k hks).below hB.be hbl
     rw [← hf] at hat
     have hx : F64 f.ex := HF.out f (by rw [hf]; exact List.getElem_mem hks)
     have hsn : splay node (fs.take (k + 1)) = (sapply (splay node (fs.take k)) f).1 := by
       rw [List.take_succ_eq_append_getElem hks, splay_snoc, hf]
     have HSN := Lib.hid hsn
     have HG1 := Lib.hid (HG.out (fs.take k))
     obtain ⟨S, hS⟩ : ∃ S, S = splay node (fs.take k) := ⟨_, rfl⟩
     rw [← hS] at hB HSN HG1
     obtain ⟨T, hT⟩ : ∃ T, T = (sapply S f).1 := ⟨_, rfl⟩
     rw [← hT] at HSN
     have hwr := hB.be.size
     have hLz : w.heap.size < wr.heap.size := by have := hB.st.blk.lt; omega
     have HA := Lib.hid (fun L W (hW : EnvG L ea W) (hs : StoreAt L S W) => apply_of L S f ea W hx hW hs HG1.out)
     have HRA := Lib.hid (fun R W (hs : RStoreAt R S W) => rapply_of R S f W hx hs HG1.out)
     rw [← hT] at HA HRA
     obtain ⟨en, hen⟩ : ∃ en, en = (sapply S f).2 := ⟨_, rfl⟩
     rw [← hen] at HA HRA
     have HB := Lib.hid hB
     obtain ⟨c0, c1, c2, c3, c4, c5, c6, c7, c8, c9, c10, c11, c12, c13⟩ := hat
     have hki : (k : Int) < (n : Int) := by omega
     have hk0 : (0 : Int) ≤ (k : Int) := by omega
     have hbw : b < wr.heap.size := by omega
     clear hB hfact hf hsn hS hT hen HBU hx
     obtain ⟨k', an, aq, rg, nd, pt, pr, oc, dp, pa, st, hw, de, ex⟩ := f
     dsimp only [factV, factC, ApplyEnds, RApplyEnds] at *
     go_wp2_with fail
     rw [← hLb]
     refine (HA.out L _ (envG_of HE.out (below_then HB.out.be (by go_grown)) HB.out.nl) (HB.out.st.below (by go_grown))).mono ?_
     rintro e w2 ⟨rfl, hs⟩
     obtain ⟨L2, hL2, hH, hz2, hbk⟩ := (HB.out.below (w2 := wr.alloc (.cells #[.int .i64 k', .int .i64 an, .int .i64 aq, .int .i64 rg, .int .i64 nd, .int .i64 pt, .int .i64 pr, .int .i64 oc, .int .i64 dp, .int .i64 pa, .int .i64 st, .int .i64 hw, .int .i64 de, .float .f64 ex] 39)) (by go_grown)).first hs
     have HX := Lib.hid (((Blk.fresh wr #[.int .i64 k', .int .i64 an, .int .i64 aq, .int .i64 rg, .int .i64 nd, .int .i64 pt, .int .i64 pr, .int .i64 oc, .int .i64 dp, .int .i64 pa, .int .i64 st, .int .i64 hw, .int .i64 de, .float .f64 ex] 39 _ rfl)).same hz2 (hbk _ (by simp) (fun h => by have := HB.out.st.lt _ h; omega)))
     have HH := Lib.hid hH
     have q := HX.out.cell
     have hzz := HX.out.lt
     clear hs hH hbk
     go_wp2_with fail
     rw [← hRb]
     refine (HRA.out R _ HH.out.rs).mono ?_
     rintro e w3 ⟨rfl, hs⟩
     obtain ⟨R2, hR2, hB3⟩ := HH.out.second hs
     have HB3 := Lib.hid hB3
     clear hs hB3 q
     go_wp2_with fail
     go_roundw
     case rel => exact ⟨k + 1, by omega, by go_num, Lib.hid ⟨L2, R2, by rw [hL2, hLb], by rw [hR2, hRb], by rw [HSN.out]; exact HB3.out⟩⟩
     case measure => (simp [intOf]; omega)
   · obtain rfl : k = n := by omega
     rw [show fs.take k = fs from List.take_of_length_le (by rw [← HN0.out]; exact Nat.le_refl _)] at hB
     have HB := Lib.hid hB
     clear hB
     go_wp2_with fail
     go_ret3
     refine ⟨L, R, ?_, HB.out⟩
     rw [hLb, hRb]
     rfl
end Go.Proofs.YtlkajejbfojkeaaGreatDoor

namespace Go.Proofs.YtlkajejbfojkeaaGreatDoor
open Go.RowKit
attribute [local go_sem] store_float

theorem one_st {fs : List SFact} {x : Int} (h : fs.map (·.st) = [x]) : ∃ f, fs = [f] ∧ f.st = x := by
 cases fs with
 | nil => cases h
 | cons f t =>
   rw [List.map_cons] at h
   injection h with h1 h2
   exact ⟨f, by rw [List.map_eq_nil_iff.1 h2], h1⟩
def fs16 : List SFact := [⟨6, 0, 0, 0, 0, 0, 1, 0, 0, 0, 0, 0, 0, 0⟩, ⟨7, 0, 0, 0, 0, 0, 0, 0, 0, 0, 0, 0, 0, 0⟩, ⟨8, 0, 0, 0, 0, 0, 0, 0, 0, 0, 5, 0, 0, 0⟩]
def m16 : SMsg := ⟨9, 0, 1, 0, 0, 0, 0, 0, 0⟩
set_option maxRecDepth 100000 in
theorem al16 : (pTell (splay 1 fs16) m16).wk = 9 ∧ (pTell (splay 1 fs16) m16).fs.map (·.st) = [6] := by decide +kernel
set_option maxRecDepth 100000 in
set_option maxHeartbeats 4000000 in
theorem alive16_of (ea : Int → Addr) (w : World) (hE : EnvS ea w) : Calls Tryz.prog 36 #[] w (Makes (.bool true) w) := by
 have hX := Blk.fresh w #[.int .i64 6, .int .i64 0, .int .i64 0, .int .i64 0, .int .i64 0, .int .i64 0, .int .i64 1, .int .i64 0, .int .i64 0, .int .i64 0, .int .i64 0, .int .i64 0, .int .i64 0, .float .f64 0, .int .i64 7, .int .i64 0, .int .i64 0, .int .i64 0, .int .i64 0, .int .i64 0, .int .i64 0, .int .i64 0, .int .i64 0, .int .i64 0, .int .i64 0, .int .i64 0, .int .i64 0, .float .f64 0, .int .i64 8, .int .i64 0, .int .i64 0, .int .i64 0, .int .i64 0, .int .i64 0, .int .i64 0, .int .i64 0, .int .i64 0, .int .i64 0, .int .i64 5, .int .i64 0, .int .i64 0, .float .f64 0] 39 _ rfl
 have hR : ReadFacts (w.alloc (.cells #[.int .i64 6, .int .i64 0, .int .i64 0, .int .i64 0, .int .i64 0, .int .i64 0, .int .i64 1, .int .i64 0, .int .i64 0, .int .i64 0, .int .i64 0, .int .i64 0, .int .i64 0, .float .f64 0, .int .i64 7, .int .i64 0, .int .i64 0, .int .i64 0, .int .i64 0, .int .i64 0, .int .i64 0, .int .i64 0, .int .i64 0, .int .i64 0, .int .i64 0, .int .i64 0, .int .i64 0, .float .f64 0, .int .i64 8, .int .i64 0, .int .i64 0, .int .i64 0, .int .i64 0, .int .i64 0, .int .i64 0, .int .i64 0, .int .i64 0, .int .i64 0, .int .i64 5, .int .i64 0, .int .i64 0, .float .f64 0] 39)) (.slice (some ⟨w.heap.size, 0, none⟩) 3 3) fs16 := ⟨_, 3, rfl, fun _ => ⟨w.heap.size, 0, rfl, hX.lt, fun j hj => by
   have hj3 : j < 3 := hj
   match j, hj3 with
   | 0, _ => exact ⟨hX.cell 0, hX.cell 1, hX.cell 2, hX.cell 3, hX.cell 4, hX.cell 5, hX.cell 6, hX.cell 7, hX.cell 8, hX.cell 9, hX.cell 10, hX.cell 11, hX.cell 12, hX.cell 13⟩
   | 1, _ => exact ⟨hX.cell 14, hX.cell 15, hX.cell 16, hX.cell 17, hX.cell 18, hX.cell 19, hX.cell 20, hX.cell 21, hX.cell 22, hX.cell 23, hX.cell 24, hX.cell 25, hX.cell 26, hX.cell 27⟩
   | 2, _ => exact ⟨hX.cell 28, hX.cell 29, hX.cell 30, hX.cell 31, hX.cell 32, hX.cell 33, hX.cell 34, hX.cell 35, hX.cell 36, hX.cell 37, hX.cell 38, hX.cell 39, hX.cell 40, hX.cell 41⟩⟩⟩
 have hF : ∀ f ∈ fs16, F64 f.ex := by
   intro f hf
   simp only [fs16, List.mem_cons, List.not_mem_nil, or_false] at hf
   rcases hf with rfl | rfl | rfl <;> (unfold F64; decide)
 have HB := Lib.hid (built16_yes 1 _ fs16 ea _ (hE.below (by go_grown)) hR hF (by decide) (by decide))
 have HE := Lib.hid hE
 have HG := Lib.hid (splay_good (node := 1) (by decide) fs16)
 have HA := Lib.hid al16
 generalize splay 1 fs16 = S at *
 clear hX hR hF hE
 go_enter Tryz.func36, Tryz.ntmps36
 go_wp2_with fail
 refine HB.out.mono ?_
 rintro e w1 ⟨L, R, rfl, hB⟩
 have B1 : Below w.heap.size w w1 := below_then (by go_grown) hB.be
 have HT := Lib.hid (ptell_of L S m16 ea w1 (HE.out.below B1) hB.st HG.out (by decide))
 dsimp only [m16, msgV, msgA] at HT
 clear hB
 go_wp2_with fail
 refine HT.out.mono ?_
 rintro e w2 ⟨fv, mv, rfl, ho1, ho2, hb2⟩
 obtain ⟨a1, a2⟩ := HA.out
 dsimp only [m16] at a1 a2
 have B2 : Below w.heap.size w w2 := below_then B1 hb2
 generalize (pTell S ⟨9, 0, 1, 0, 0, 0, 0, 0, 0⟩) = r at *
 obtain ⟨fs, ms, wk⟩ := r
 dsimp only at a1 a2 ho1 ho2
 subst a1
 obtain ⟨f, rfl, hst⟩ := one_st a2
 obtain ⟨g, cap, rfl, _, _, hg, hc, _⟩ := row_form ho1 (by simp)
 obtain ⟨am, cm, rfl⟩ := row_slice ho2
 have c10 : w2.cell? ⟨g, 10, none⟩ = some (.int .i64 6) := by
   have := hc 10 (.int .i64 f.st) (by simp [factsL, factL])
   rw [hst] at this
   exact this
 clear hc ho1 ho2 a2 hst hb2
 go_wp2_with fail
 go_ret
 exact ⟨rfl, below_then B2 (by go_grown)⟩
end Go.Proofs.YtlkajejbfojkeaaGreatDoor

namespace Go.Proofs.YtlkajejbfojkeaaGreatDoor
open Go.RowKit

set_option maxHeartbeats 1000000 in
theorem mwaits_of (x : MSeat) (ea : Int → Addr) (w : World) (h : Err3 ea w) : Calls Tryz.prog 67 #[seatV x] w (Makes (.int .i64 (mWaits x)) w) := by
 have H := Lib.hid h; clear h
 obtain ⟨r, hr⟩ : ∃ r, r = mRight x := ⟨_, rfl⟩
 have hR : ∀ W, Err3 ea W → Calls Tryz.prog 169 #[seatV x] W (Makes (.bool r) W) := fun W hw => by
   have := right_of x ea W hw
   rw [← hr] at this; exact this
 have hW : r = true → ∀ W, Err3 ea W → Calls Tryz.prog 170 #[.int .i64 x.p, .int .i64 x.d, .int .i64 x.s] W (Makes (.tuple #[.int .i64 (mWaits x), .nilIface]) W) := fun ht W hw => by
   have := waits_any x.p x.d x.s ea W hw
   have h1 : mRight x = true := by rw [← hr]; exact ht
   have h2 : (rWait x.p x.d x.s).2 = 0 := by
     unfold mRight at h1; simp only [Bool.and_eq_true, decide_eq_true_eq] at h1; exact h1.1
   have h3 : mWaits x = (rWait x.p x.d x.s).1 := by unfold mWaits; rw [h1]; rfl
   rw [h3]
   rw [h2] at this
   exact this
 have h0 : r = false → mWaits x = 0 := fun hf => by unfold mWaits; rw [← hr, hf]; rfl
 obtain ⟨k, hk⟩ : ∃ k, k = mWaits x := ⟨_, rfl⟩
 rw [← hk] at hW h0 ⊢
 clear hk hr
 obtain ⟨p, d, s, h4⟩ := x
 dsimp only [seatV] at *
 have HR := Lib.hid hR; clear hR
 cases r with
 | false =>
   rw [h0 rfl]
   clear hW h0
   go_enter Tryz.func67, Tryz.ntmps67
   go_wp2_with (go_at_call 169; refine (HR.out _ (H.out.below (by go_grown))).mono ?_; rintro e w1 ⟨rfl, hb1⟩; have B1 : Below w.heap.size w w1 := below_then (by go_grown) hb1)
   go_ret
   exact ⟨rfl, B1⟩
 | true =>
   have HW := Lib.hid (hW rfl)
   clear hW h0
   go_enter Tryz.func67, Tryz.ntmps67
   go_wp2_with (first
     | (go_at_call 169; refine (HR.out _ (H.out.below (by go_grown))).mono ?_; rintro e w1 ⟨rfl, hb1⟩; have HK1 := Lib.hid ((Blk.fresh w _ _ _ rfl).below hb1); obtain ⟨q1, f1⟩ := HK1.out.out; have B1 : Below w.heap.size w w1 := below_then (by go_grown) hb1)
     | (go_at_call 170; refine (HW.out _ (H.out.below B1)).mono ?_; rintro e w2 ⟨rfl, hb2⟩; have B2 : Below w.heap.size w w2 := below_then B1 hb2))
   go_ret
   exact ⟨rfl, B2⟩
end Go.Proofs.YtlkajejbfojkeaaGreatDoor

namespace Go.Proofs.YtlkajejbfojkeaaGreatDoor
open Go.RowKit Go.Shelf
attribute [local go_sem] store_float

set_option maxRecDepth 100000 in
set_option maxHeartbeats 4000000 in
theorem again_none (sb : Value) (p : SPart) (nd pt : Int) (w : World) (hFd : ∀ W, Below w.heap.size w W → Calls Tryz.prog 121 #[sb, .int .i64 pt] W (Makes (.tuple #[oneV p nd pt, .bool false]) W)) :
   Calls Tryz.prog 45 #[sb, .int .i64 pt] w (Makes (.tuple #[msgV msg0, .bool false]) w) := by
 have HFd := Lib.hid hFd
 obtain ⟨an, aq, rg, ⟨sp, sd, ss, sh⟩⟩ := p
 dsimp only [oneV, msgV, msgA, msg0, seatV] at *
 clear hFd
 go_enter Tryz.func45, Tryz.ntmps45
 go_wp2_with fail
 refine (HFd.out _ (by go_grown)).mono ?_
 rintro e w1 ⟨rfl, hb1⟩
 have B1 : Below w.heap.size w w1 := below_then (by go_grown) hb1
 have hlt : w.heap.size < w1.heap.size := by have := hb1.size; simp only [World.size_alloc] at this; omega
 have HT1 : Hid (w1.heap[w.heap.size]? = some (.cells #[.int .i64 0, .int .i64 0, .int .i64 0, .int .i64 0, .int .i64 0, .int .i64 0, .int .i64 0, .int .i64 0, .int .i64 0] 81 (0, 0))) := Lib.hid ((hb1.block _ (by simp)).trans (heap_alloc_new _ _))
 clear hb1
 have HB0 := Lib.hid (B1.alloc B1.size (.cells #[.int .i64 an, .int .i64 aq, .int .i64 rg, .int .i64 sp, .int .i64 sd, .int .i64 ss, .int .i64 sh, .int .i64 nd, .int .i64 pt] 205))
 have HT0 : Hid ((w1.alloc (.cells #[.int .i64 an, .int .i64 aq, .int .i64 rg, .int .i64 sp, .int .i64 sd, .int .i64 ss, .int .i64 sh, .int .i64 nd, .int .i64 pt] 205)).heap[w.heap.size]? = some (.cells #[.int .i64 0, .int .i64 0, .int .i64 0, .int .i64 0, .int .i64 0, .int .i64 0, .int .i64 0, .int .i64 0, .int .i64 0] 81 (0, 0))) := Lib.hid ((((Below.refl w1.heap.size w1).alloc (Nat.le_refl _) (.cells #[.int .i64 an, .int .i64 aq, .int .i64 rg, .int .i64 sp, .int .i64 sd, .int .i64 ss, .int .i64 sh, .int .i64 nd, .int .i64 pt] 205)).block _ hlt).trans HT1.out)
 have HPB := Lib.hid (Blk.fresh w1 #[.int .i64 an, .int .i64 aq, .int .i64 rg, .int .i64 sp, .int .i64 sd, .int .i64 ss, .int .i64 sh, .int .i64 nd, .int .i64 pt] 205 _ rfl)
 obtain ⟨HFr, hgr⟩ := row_end (cells := #[.int .i64 0, .int .i64 0, .int .i64 0, .int .i64 0, .int .i64 0, .int .i64 0, .int .i64 0, .int .i64 0, .int .i64 0]) HT0.out
 have HBf := Lib.hid (HB0.out.grown hgr HB0.out.size (fun k hk => by injection hk with hk; omega))
 obtain ⟨q1, f1⟩ := HFr.out
 have HQ1 := Lib.hid q1; have HF1 := Lib.hid f1
 clear hgr HFr q1 f1
 go_wp2_with (refine wpList_store_row rfl 81 (.tmp 4) (.tmp 49) rfl w.heap.size #[.int .i64 0, .int .i64 0, .int .i64 0, .int .i64 0, .int .i64 0, .int .i64 0, .int .i64 0, .int .i64 0, .int .i64 0] rfl rfl 81 #[.int .i64 0, .int .i64 0, .int .i64 0, .int .i64 0, .int .i64 0, .int .i64 0, .int .i64 0, .int .i64 0, .int .i64 0] HT0.out (by kernel_rfl) rfl (by simp [Value.oneCell']) ?_)
 exact bodyPost_ret (v := .tuple #[.agg #[.int .i64 0, .int .i64 0, .int .i64 0, .int .i64 0, .int .i64 0, .int .i64 0, .int .i64 0, .int .i64 0, .int .i64 0], .bool false]) (by simp [results, Tryz.results45, go_sem, HQ1.out, HF1.out]) rfl ⟨rfl, HBf.out⟩
set_option maxRecDepth 100000 in
set_option maxHeartbeats 4000000 in
theorem again_reg (sb : Value) (p : SPart) (nd pt : Int) (w : World) (hFd : ∀ W, Below w.heap.size w W → Calls Tryz.prog 121 #[sb, .int .i64 pt] W (Makes (.tuple #[oneV p nd pt, .bool true]) W)) (hp : p.rg < 0) (hs : p.seat.s = 1) :
   Calls Tryz.prog 45 #[sb, .int .i64 pt] w (Makes (.tuple #[msgV ⟨17, nd, p.an, p.an, p.aq, 0, pt, p.seat.p, 0⟩, .bool true]) w) := by
 have HFd := Lib.hid hFd
 have HRg := Lib.hid (fun W => register_of p nd pt W)
 have hPl := fun W => placed_of p nd pt W
 rw [decide_eq_false (show ¬ 0 ≤ p.rg by omega)] at hPl
 have HPl := Lib.hid hPl
 obtain ⟨an, aq, rg, ⟨sp, sd, ss, sh⟩⟩ := p
 dsimp only [oneV, msgV, msgA, msg0, seatV] at *
 have es : (ss == 1) = true := by simpa using hs
 clear hs hPl hp
 clear hFd
 go_enter Tryz.func45, Tryz.ntmps45
 go_wp2_with fail
 refine (HFd.out _ (by go_grown)).mono ?_
 rintro e w1 ⟨rfl, hb1⟩
 have B1 : Below w.heap.size w w1 := below_then (by go_grown) hb1
 have hlt : w.heap.size < w1.heap.size := by have := hb1.size; simp only [World.size_alloc] at this; omega
 have HT1 : Hid (w1.heap[w.heap.size]? = some (.cells #[.int .i64 0, .int .i64 0, .int .i64 0, .int .i64 0, .int .i64 0, .int .i64 0, .int .i64 0, .int .i64 0, .int .i64 0] 81 (0, 0))) := Lib.hid ((hb1.block _ (by simp)).trans (heap_alloc_new _ _))
 clear hb1
 have HB0 := Lib.hid (B1.alloc B1.size (.cells #[.int .i64 an, .int .i64 aq, .int .i64 rg, .int .i64 sp, .int .i64 sd, .int .i64 ss, .int .i64 sh, .int .i64 nd, .int .i64 pt] 205))
 have HT0 : Hid ((w1.alloc (.cells #[.int .i64 an, .int .i64 aq, .int .i64 rg, .int .i64 sp, .int .i64 sd, .int .i64 ss, .int .i64 sh, .int .i64 nd, .int .i64 pt] 205)).heap[w.heap.size]? = some (.cells #[.int .i64 0, .int .i64 0, .int .i64 0, .int .i64 0, .int .i64 0, .int .i64 0, .int .i64 0, .int .i64 0, .int .i64 0] 81 (0, 0))) := Lib.hid ((((Below.refl w1.heap.size w1).alloc (Nat.le_refl _) (.cells #[.int .i64 an, .int .i64 aq, .int .i64 rg, .int .i64 sp, .int .i64 sd, .int .i64 ss, .int .i64 sh, .int .i64 nd, .int .i64 pt] 205)).block _ hlt).trans HT1.out)
 have HPB := Lib.hid (Blk.fresh w1 #[.int .i64 an, .int .i64 aq, .int .i64 rg, .int .i64 sp, .int .i64 sd, .int .i64 ss, .int .i64 sh, .int .i64 nd, .int .i64 pt] 205 _ rfl)
 go_wp2_with fail
 refine (HPl.out _).mono ?_
 rintro e w2 ⟨rfl, hb2⟩
 have HT0 : Hid (w2.heap[w.heap.size]? = some (.cells #[.int .i64 0, .int .i64 0, .int .i64 0, .int .i64 0, .int .i64 0, .int .i64 0, .int .i64 0, .int .i64 0, .int .i64 0] 81 (0, 0))) := Lib.hid ((hb2.block _ (Array.getElem?_eq_some_iff.1 HT0.out).1).trans HT0.out)
 have HB0 := Lib.hid (below_then HB0.out hb2)
 have HPB := Lib.hid (HPB.out.below hb2)
 clear hb2
 have qp := HPB.out.cell; have lp := HPB.out.lt
 go_wp2_with fail
 clear qp lp
 refine (HRg.out _).mono ?_
 rintro e w3 ⟨rfl, hb3⟩
 have HT0 : Hid (w3.heap[w.heap.size]? = some (.cells #[.int .i64 0, .int .i64 0, .int .i64 0, .int .i64 0, .int .i64 0, .int .i64 0, .int .i64 0, .int .i64 0, .int .i64 0] 81 (0, 0))) := Lib.hid ((hb3.block _ (Array.getElem?_eq_some_iff.1 HT0.out).1).trans HT0.out)
 have HB0 := Lib.hid (below_then HB0.out hb3)
 have HPB := Lib.hid (HPB.out.below hb3)
 clear hb3
 obtain ⟨HFr, hgr⟩ := row_end (cells := #[.int .i64 17, .int .i64 nd, .int .i64 an, .int .i64 an, .int .i64 aq, .int .i64 0, .int .i64 pt, .int .i64 sp, .int .i64 0]) HT0.out
 have HBf := Lib.hid (HB0.out.grown hgr HB0.out.size (fun k hk => by injection hk with hk; omega))
 obtain ⟨q1, f1⟩ := HFr.out
 have HQ1 := Lib.hid q1; have HF1 := Lib.hid f1
 clear hgr HFr q1 f1
 have qp := HPB.out.cell; have lp := HPB.out.lt
 go_wp2_with (refine wpList_store_row rfl 81 (.tmp 4) (.tmp 29) rfl w.heap.size #[.int .i64 17, .int .i64 nd, .int .i64 an, .int .i64 an, .int .i64 aq, .int .i64 0, .int .i64 pt, .int .i64 sp, .int .i64 0] rfl rfl 81 #[.int .i64 0, .int .i64 0, .int .i64 0, .int .i64 0, .int .i64 0, .int .i64 0, .int .i64 0, .int .i64 0, .int .i64 0] HT0.out (by kernel_rfl) rfl (by simp [Value.oneCell']) ?_)
 exact bodyPost_ret (v := .tuple #[.agg #[.int .i64 17, .int .i64 nd, .int .i64 an, .int .i64 an, .int .i64 aq, .int .i64 0, .int .i64 pt, .int .i64 sp, .int .i64 0], .bool true]) (by simp [results, Tryz.results45, go_sem, HQ1.out, HF1.out]) rfl ⟨rfl, HBf.out⟩
set_option maxRecDepth 100000 in
set_option maxHeartbeats 4000000 in
theorem again_off (sb : Value) (p : SPart) (nd pt : Int) (w : World) (hFd : ∀ W, Below w.heap.size w W → Calls Tryz.prog 121 #[sb, .int .i64 pt] W (Makes (.tuple #[oneV p nd pt, .bool true]) W)) (hp : p.rg < 0) (hs : p.seat.s ≠ 1) :
   Calls Tryz.prog 45 #[sb, .int .i64 pt] w (Makes (.tuple #[msgV msg0, .bool false]) w) := by
 have HFd := Lib.hid hFd
 have hPl := fun W => placed_of p nd pt W
 rw [decide_eq_false (show ¬ 0 ≤ p.rg by omega)] at hPl
 have HPl := Lib.hid hPl
 obtain ⟨an, aq, rg, ⟨sp, sd, ss, sh⟩⟩ := p
 dsimp only [oneV, msgV, msgA, msg0, seatV] at *
 have es : (ss == 1) = false := by simpa using hs
 clear hs hPl hp
 clear hFd
 go_enter Tryz.func45, Tryz.ntmps45
 go_wp2_with fail
 refine (HFd.out _ (by go_grown)).mono ?_
 rintro e w1 ⟨rfl, hb1⟩
 have B1 : Below w.heap.size w w1 := below_then (by go_grown) hb1
 have hlt : w.heap.size < w1.heap.size := by have := hb1.size; simp only [World.size_alloc] at this; omega
 have HT1 : Hid (w1.heap[w.heap.size]? = some (.cells #[.int .i64 0, .int .i64 0, .int .i64 0, .int .i64 0, .int .i64 0, .int .i64 0, .int .i64 0, .int .i64 0, .int .i64 0] 81 (0, 0))) := Lib.hid ((hb1.block _ (by simp)).trans (heap_alloc_new _ _))
 clear hb1
 have HB0 := Lib.hid (B1.alloc B1.size (.cells #[.int .i64 an, .int .i64 aq, .int .i64 rg, .int .i64 sp, .int .i64 sd, .int .i64 ss, .int .i64 sh, .int .i64 nd, .int .i64 pt] 205))
 have HT0 : Hid ((w1.alloc (.cells #[.int .i64 an, .int .i64 aq, .int .i64 rg, .int .i64 sp, .int .i64 sd, .int .i64 ss, .int .i64 sh, .int .i64 nd, .int .i64 pt] 205)).heap[w.heap.size]? = some (.cells #[.int .i64 0, .int .i64 0, .int .i64 0, .int .i64 0, .int .i64 0, .int .i64 0, .int .i64 0, .int .i64 0, .int .i64 0] 81 (0, 0))) := Lib.hid ((((Below.refl w1.heap.size w1).alloc (Nat.le_refl _) (.cells #[.int .i64 an, .int .i64 aq, .int .i64 rg, .int .i64 sp, .int .i64 sd, .int .i64 ss, .int .i64 sh, .int .i64 nd, .int .i64 pt] 205)).block _ hlt).trans HT1.out)
 have HPB := Lib.hid (Blk.fresh w1 #[.int .i64 an, .int .i64 aq, .int .i64 rg, .int .i64 sp, .int .i64 sd, .int .i64 ss, .int .i64 sh, .int .i64 nd, .int .i64 pt] 205 _ rfl)
 go_wp2_with fail
 refine (HPl.out _).mono ?_
 rintro e w2 ⟨rfl, hb2⟩
 have HT0 : Hid (w2.heap[w.heap.size]? = some (.cells #[.int .i64 0, .int .i64 0, .int .i64 0, .int .i64 0, .int .i64 0, .int .i64 0, .int .i64 0, .int .i64 0, .int .i64 0] 81 (0, 0))) := Lib.hid ((hb2.block _ (Array.getElem?_eq_some_iff.1 HT0.out).1).trans HT0.out)
 have HB0 := Lib.hid (below_then HB0.out hb2)
 have HPB := Lib.hid (HPB.out.below hb2)
 clear hb2
 have qp := HPB.out.cell; have lp := HPB.out.lt
 go_wp2_with fail
 clear qp lp
 refine (HPl.out _).mono ?_
 rintro e w3 ⟨rfl, hb3⟩
 have HT0 : Hid (w3.heap[w.heap.size]? = some (.cells #[.int .i64 0, .int .i64 0, .int .i64 0, .int .i64 0, .int .i64 0, .int .i64 0, .int .i64 0, .int .i64 0, .int .i64 0] 81 (0, 0))) := Lib.hid ((hb3.block _ (Array.getElem?_eq_some_iff.1 HT0.out).1).trans HT0.out)
 have HB0 := Lib.hid (below_then HB0.out hb3)
 have HPB := Lib.hid (HPB.out.below hb3)
 clear hb3
 obtain ⟨HFr, hgr⟩ := row_end (cells := #[.int .i64 0, .int .i64 0, .int .i64 0, .int .i64 0, .int .i64 0, .int .i64 0, .int .i64 0, .int .i64 0, .int .i64 0]) HT0.out
 have HBf := Lib.hid (HB0.out.grown hgr HB0.out.size (fun k hk => by injection hk with hk; omega))
 obtain ⟨q1, f1⟩ := HFr.out
 have HQ1 := Lib.hid q1; have HF1 := Lib.hid f1
 clear hgr HFr q1 f1
 have qp := HPB.out.cell; have lp := HPB.out.lt
 go_wp2_with (refine wpList_store_row rfl 81 (.tmp 4) (.tmp 49) rfl w.heap.size #[.int .i64 0, .int .i64 0, .int .i64 0, .int .i64 0, .int .i64 0, .int .i64 0, .int .i64 0, .int .i64 0, .int .i64 0] rfl rfl 81 #[.int .i64 0, .int .i64 0, .int .i64 0, .int .i64 0, .int .i64 0, .int .i64 0, .int .i64 0, .int .i64 0, .int .i64 0] HT0.out (by kernel_rfl) rfl (by simp [Value.oneCell']) ?_)
 exact bodyPost_ret (v := .tuple #[.agg #[.int .i64 0, .int .i64 0, .int .i64 0, .int .i64 0, .int .i64 0, .int .i64 0, .int .i64 0, .int .i64 0, .int .i64 0], .bool false]) (by simp [results, Tryz.results45, go_sem, HQ1.out, HF1.out]) rfl ⟨rfl, HBf.out⟩
set_option maxRecDepth 100000 in
set_option maxHeartbeats 4000000 in
theorem again_idle (sb : Value) (p : SPart) (nd pt : Int) (w : World) (hFd : ∀ W, Below w.heap.size w W → Calls Tryz.prog 121 #[sb, .int .i64 pt] W (Makes (.tuple #[oneV p nd pt, .bool true]) W)) (ea : Int → Addr) (hE : EnvS ea w) (hp : 0 ≤ p.rg) (hk : mWaits p.seat = 0) :
   Calls Tryz.prog 45 #[sb, .int .i64 pt] w (Makes (.tuple #[msgV msg0, .bool false]) w) := by
 have HFd := Lib.hid hFd
 have hPl := fun W => placed_of p nd pt W
 rw [decide_eq_true hp] at hPl
 have HPl := Lib.hid hPl
 have HWt := Lib.hid (fun W (hW : EnvS ea W) => mwaits_of p.seat ea W hW.err3)
 rw [hk] at HWt
 have HE := Lib.hid hE
 obtain ⟨an, aq, rg, ⟨sp, sd, ss, sh⟩⟩ := p
 dsimp only [oneV, msgV, msgA, msg0, seatV] at *
 clear hPl hp hk hE
 clear hFd
 go_enter Tryz.func45, Tryz.ntmps45
 go_wp2_with fail
 refine (HFd.out _ (by go_grown)).mono ?_
 rintro e w1 ⟨rfl, hb1⟩
 have B1 : Below w.heap.size w w1 := below_then (by go_grown) hb1
 have hlt : w.heap.size < w1.heap.size := by have := hb1.size; simp only [World.size_alloc] at this; omega
 have HT1 : Hid (w1.heap[w.heap.size]? = some (.cells #[.int .i64 0, .int .i64 0, .int .i64 0, .int .i64 0, .int .i64 0, .int .i64 0, .int .i64 0, .int .i64 0, .int .i64 0] 81 (0, 0))) := Lib.hid ((hb1.block _ (by simp)).trans (heap_alloc_new _ _))
 clear hb1
 have HB0 := Lib.hid (B1.alloc B1.size (.cells #[.int .i64 an, .int .i64 aq, .int .i64 rg, .int .i64 sp, .int .i64 sd, .int .i64 ss, .int .i64 sh, .int .i64 nd, .int .i64 pt] 205))
 have HT0 : Hid ((w1.alloc (.cells #[.int .i64 an, .int .i64 aq, .int .i64 rg, .int .i64 sp, .int .i64 sd, .int .i64 ss, .int .i64 sh, .int .i64 nd, .int .i64 pt] 205)).heap[w.heap.size]? = some (.cells #[.int .i64 0, .int .i64 0, .int .i64 0, .int .i64 0, .int .i64 0, .int .i64 0, .int .i64 0, .int .i64 0, .int .i64 0] 81 (0, 0))) := Lib.hid ((((Below.refl w1.heap.size w1).alloc (Nat.le_refl _) (.cells #[.int .i64 an, .int .i64 aq, .int .i64 rg, .int .i64 sp, .int .i64 sd, .int .i64 ss, .int .i64 sh, .int .i64 nd, .int .i64 pt] 205)).block _ hlt).trans HT1.out)
 have HPB := Lib.hid (Blk.fresh w1 #[.int .i64 an, .int .i64 aq, .int .i64 rg, .int .i64 sp, .int .i64 sd, .int .i64 ss, .int .i64 sh, .int .i64 nd, .int .i64 pt] 205 _ rfl)
 go_wp2_with fail
 refine (HPl.out _).mono ?_
 rintro e w2 ⟨rfl, hb2⟩
 have HT0 : Hid (w2.heap[w.heap.size]? = some (.cells #[.int .i64 0, .int .i64 0, .int .i64 0, .int .i64 0, .int .i64 0, .int .i64 0, .int .i64 0, .int .i64 0, .int .i64 0] 81 (0, 0))) := Lib.hid ((hb2.block _ (Array.getElem?_eq_some_iff.1 HT0.out).1).trans HT0.out)
 have HB0 := Lib.hid (below_then HB0.out hb2)
 have HPB := Lib.hid (HPB.out.below hb2)
 clear hb2
 have qp := HPB.out.cell; have lp := HPB.out.lt
 go_wp2_with fail
 clear qp lp
 refine (HPl.out _).mono ?_
 rintro e w3 ⟨rfl, hb3⟩
 have HT0 : Hid (w3.heap[w.heap.size]? = some (.cells #[.int .i64 0, .int .i64 0, .int .i64 0, .int .i64 0, .int .i64 0, .int .i64 0, .int .i64 0, .int .i64 0, .int .i64 0] 81 (0, 0))) := Lib.hid ((hb3.block _ (Array.getElem?_eq_some_iff.1 HT0.out).1).trans HT0.out)
 have HB0 := Lib.hid (below_then HB0.out hb3)
 have HPB := Lib.hid (HPB.out.below hb3)
 clear hb3
 have qp := HPB.out.cell; have lp := HPB.out.lt
 go_wp2_with fail
 clear qp lp
 refine (HWt.out _ (HE.out.below HB0.out)).mono ?_
 rintro e w4 ⟨rfl, hb4⟩
 have HT0 : Hid (w4.heap[w.heap.size]? = some (.cells #[.int .i64 0, .int .i64 0, .int .i64 0, .int .i64 0, .int .i64 0, .int .i64 0, .int .i64 0, .int .i64 0, .int .i64 0] 81 (0, 0))) := Lib.hid ((hb4.block _ (Array.getElem?_eq_some_iff.1 HT0.out).1).trans HT0.out)
 have HB0 := Lib.hid (below_then HB0.out hb4)
 have HPB := Lib.hid (HPB.out.below hb4)
 clear hb4
 obtain ⟨HFr, hgr⟩ := row_end (cells := #[.int .i64 0, .int .i64 0, .int .i64 0, .int .i64 0, .int .i64 0, .int .i64 0, .int .i64 0, .int .i64 0, .int .i64 0]) HT0.out
 have HBf := Lib.hid (HB0.out.grown hgr HB0.out.size (fun k hk => by injection hk with hk; omega))
 obtain ⟨q1, f1⟩ := HFr.out
 have HQ1 := Lib.hid q1; have HF1 := Lib.hid f1
 clear hgr HFr q1 f1
 have qp := HPB.out.cell; have lp := HPB.out.lt
 go_wp2_with (refine wpList_store_row rfl 81 (.tmp 4) (.tmp 49) rfl w.heap.size #[.int .i64 0, .int .i64 0, .int .i64 0, .int .i64 0, .int .i64 0, .int .i64 0, .int .i64 0, .int .i64 0, .int .i64 0] rfl rfl 81 #[.int .i64 0, .int .i64 0, .int .i64 0, .int .i64 0, .int .i64 0, .int .i64 0, .int .i64 0, .int .i64 0, .int .i64 0] HT0.out (by kernel_rfl) rfl (by simp [Value.oneCell']) ?_)
 exact bodyPost_ret (v := .tuple #[.agg #[.int .i64 0, .int .i64 0, .int .i64 0, .int .i64 0, .int .i64 0, .int .i64 0, .int .i64 0, .int .i64 0, .int .i64 0], .bool false]) (by simp [results, Tryz.results45, go_sem, HQ1.out, HF1.out]) rfl ⟨rfl, HBf.out⟩
set_option maxRecDepth 100000 in
set_option maxHeartbeats 4000000 in
theorem again_wait (sb : Value) (p : SPart) (nd pt : Int) (w : World) (hFd : ∀ W, Below w.heap.size w W → Calls Tryz.prog 121 #[sb, .int .i64 pt] W (Makes (.tuple #[oneV p nd pt, .bool true]) W)) (kk : Int) (ea : Int → Addr) (hE : EnvS ea w) (hp : 0 ≤ p.rg) (hk : mWaits p.seat = kk) (hk0 : kk ≠ 0) :
   Calls Tryz.prog 45 #[sb, .int .i64 pt] w (Makes (.tuple #[msgV ⟨kk, nd, p.an, p.an, p.aq, p.rg, pt, 0, 0⟩, .bool true]) w) := by
 have HFd := Lib.hid hFd
 have hPl := fun W => placed_of p nd pt W
 rw [decide_eq_true hp] at hPl
 have HPl := Lib.hid hPl
 have HWt := Lib.hid (fun W (hW : EnvS ea W) => mwaits_of p.seat ea W hW.err3)
 rw [hk] at HWt
 have HE := Lib.hid hE
 have hM := fun W => message_of p nd pt kk W
 rw [show max p.rg 0 = p.rg by omega] at hM
 have HMs := Lib.hid hM
 obtain ⟨an, aq, rg, ⟨sp, sd, ss, sh⟩⟩ := p
 dsimp only [oneV, msgV, msgA, msg0, seatV] at *
 have ek : (kk != 0) = true := by simpa using hk0
 clear hPl hp hk hE hM hk0
 clear hFd
 go_enter Tryz.func45, Tryz.ntmps45
 go_wp2_with fail
 refine (HFd.out _ (by go_grown)).mono ?_
 rintro e w1 ⟨rfl, hb1⟩
 have B1 : Below w.heap.size w w1 := below_then (by go_grown) hb1
 have hlt : w.heap.size < w1.heap.size := by have := hb1.size; simp only [World.size_alloc] at this; omega
 have HT1 : Hid (w1.heap[w.heap.size]? = some (.cells #[.int .i64 0, .int .i64 0, .int .i64 0, .int .i64 0, .int .i64 0, .int .i64 0, .int .i64 0, .int .i64 0, .int .i64 0] 81 (0, 0))) := Lib.hid ((hb1.block _ (by simp)).trans (heap_alloc_new _ _))
 clear hb1
 have HB0 := Lib.hid (B1.alloc B1.size (.cells #[.int .i64 an, .int .i64 aq, .int .i64 rg, .int .i64 sp, .int .i64 sd, .int .i64 ss, .int .i64 sh, .int .i64 nd, .int .i64 pt] 205))
 have HT0 : Hid ((w1.alloc (.cells #[.int .i64 an, .int .i64 aq, .int .i64 rg, .int .i64 sp, .int .i64 sd, .int .i64 ss, .int .i64 sh, .int .i64 nd, .int .i64 pt] 205)).heap[w.heap.size]? = some (.cells #[.int .i64 0, .int .i64 0, .int .i64 0, .int .i64 0, .int .i64 0, .int .i64 0, .int .i64 0, .int .i64 0, .int .i64 0] 81 (0, 0))) := Lib.hid ((((Below.refl w1.heap.size w1).alloc (Nat.le_refl _) (.cells #[.int .i64 an, .int .i64 aq, .int .i64 rg, .int .i64 sp, .int .i64 sd, .int .i64 ss, .int .i64 sh, .int .i64 nd, .int .i64 pt] 205)).block _ hlt).trans HT1.out)
 have HPB := Lib.hid (Blk.fresh w1 #[.int .i64 an, .int .i64 aq, .int .i64 rg, .int .i64 sp, .int .i64 sd, .int .i64 ss, .int .i64 sh, .int .i64 nd, .int .i64 pt] 205 _ rfl)
 go_wp2_with fail
 refine (HPl.out _).mono ?_
 rintro e w2 ⟨rfl, hb2⟩
 have HT0 : Hid (w2.heap[w.heap.size]? = some (.cells #[.int .i64 0, .int .i64 0, .int .i64 0, .int .i64 0, .int .i64 0, .int .i64 0, .int .i64 0, .int .i64 0, .int .i64 0] 81 (0, 0))) := Lib.hid ((hb2.block _ (Array.getElem?_eq_some_iff.1 HT0.out).1).trans HT0.out)
 have HB0 := Lib.hid (below_then HB0.out hb2)
 have HPB := Lib.hid (HPB.out.below hb2)
 clear hb2
 have qp := HPB.out.cell; have lp := HPB.out.lt
 go_wp2_with fail
 clear qp lp
 refine (HPl.out _).mono ?_
 rintro e w3 ⟨rfl, hb3⟩
 have HT0 : Hid (w3.heap[w.heap.size]? = some (.cells #[.int .i64 0, .int .i64 0, .int .i64 0, .int .i64 0, .int .i64 0, .int .i64 0, .int .i64 0, .int .i64 0, .int .i64 0] 81 (0, 0))) := Lib.hid ((hb3.block _ (Array.getElem?_eq_some_iff.1 HT0.out).1).trans HT0.out)
 have HB0 := Lib.hid (below_then HB0.out hb3)
 have HPB := Lib.hid (HPB.out.below hb3)
 clear hb3
 have qp := HPB.out.cell; have lp := HPB.out.lt
 go_wp2_with fail
 clear qp lp
 refine (HWt.out _ (HE.out.below HB0.out)).mono ?_
 rintro e w4 ⟨rfl, hb4⟩
 have HT0 : Hid (w4.heap[w.heap.size]? = some (.cells #[.int .i64 0, .int .i64 0, .int .i64 0, .int .i64 0, .int .i64 0, .int .i64 0, .int .i64 0, .int .i64 0, .int .i64 0] 81 (0, 0))) := Lib.hid ((hb4.block _ (Array.getElem?_eq_some_iff.1 HT0.out).1).trans HT0.out)
 have HB0 := Lib.hid (below_then HB0.out hb4)
 have HPB := Lib.hid (HPB.out.below hb4)
 clear hb4
 have qp := HPB.out.cell; have lp := HPB.out.lt
 go_wp2_with fail
 clear qp lp
 have HT0 : Hid ((World.drew w4).heap[w.heap.size]? = some (.cells #[.int .i64 0, .int .i64 0, .int .i64 0, .int .i64 0, .int .i64 0, .int .i64 0, .int .i64 0, .int .i64 0, .int .i64 0] 81 (0, 0))) := HT0
 have HB0 := Lib.hid (HB0.out.drew)
 have HP1 := Lib.hid HPB.out.drew
 refine wp_region_held_drew (S := fun w' => Blk w' w1.heap.size #[.int .i64 an, .int .i64 aq, .int .i64 rg, .int .i64 sp, .int .i64 sd, .int .i64 ss, .int .i64 sh, .int .i64 nd, .int .i64 pt]) (by kernel_rfl) HP1.out (fun hHeld => ?_)
 generalize (World.drew w4) = w5 at *
 refine takeT (v := ?_) (d := some 43) 0 hHeld ?_ ?_
 rotate_left 1
 · (intro w' hS'; (try dsimp only at hS'); have qS := hS'.cell; clear hS'; go_simp; (try with_reducible rfl))
 simp only [puts]
 refine takeT (v := ?_) (d := some 44) 1 hHeld ?_ ?_
 rotate_left 1
 · (intro w' hS'; (try dsimp only at hS'); have qS := hS'.cell; clear hS'; go_simp; (try with_reducible rfl))
 simp only [puts]
 refine takeT (v := ?_) (d := some 45) 2 hHeld ?_ ?_
 rotate_left 1
 · (intro w' hS'; (try dsimp only at hS'); have qS := hS'.cell; clear hS'; go_simp; (try with_reducible rfl))
 simp only [puts]
 refine takeT (v := ?_) (d := some 46) 3 hHeld ?_ ?_
 rotate_left 1
 · (intro w' hS'; (try dsimp only at hS'); have qS := hS'.cell; clear hS'; go_simp; (try with_reducible rfl))
 simp only [puts]
 refine wpAnyH_call (d := some 47) 4 67 _ _ [.agg #[.int .i64 sp, .int .i64 sd, .int .i64 ss, .int .i64 sh]] rfl rfl (by kernel_rfl) rfl (enters_of Tryz.func67 (by kernel_rfl) rfl) (by rfl) (by rfl) ?_
 refine (HWt.out _ (HE.out.below HB0.out)).mono ?_; rintro e w5 ⟨rfl, hb5⟩
 have HT0 := Lib.hid ((hb5.block _ (Array.getElem?_eq_some_iff.1 HT0.out).1).trans HT0.out); have HB0 := Lib.hid (below_then HB0.out hb5); have hHeld := hHeld.below hb5
 clear hb5
 have hHeld := (hHeld : (fun w' : World => Blk w' w1.heap.size #[.int .i64 an, .int .i64 aq, .int .i64 rg, .int .i64 sp, .int .i64 sd, .int .i64 ss, .int .i64 sh, .int .i64 nd, .int .i64 pt]) w5)
 refine ⟨_, rfl, _, fun _ h => h, hHeld, fun hHeld => ?_⟩
 simp only [Act.put, puts]
 refine wpAnyH_call (d := some 48) 5 142 _ _ [.agg #[.int .i64 an, .int .i64 aq, .int .i64 rg, .int .i64 sp, .int .i64 sd, .int .i64 ss, .int .i64 sh, .int .i64 nd, .int .i64 pt], .int .i64 kk] rfl rfl (by kernel_rfl) rfl (enters_of Tryz.func142 (by kernel_rfl) rfl) (by rfl) (by rfl) ?_
 refine (HMs.out _).mono ?_; rintro e w5 ⟨rfl, hb5⟩
 have HT0 := Lib.hid ((hb5.block _ (Array.getElem?_eq_some_iff.1 HT0.out).1).trans HT0.out); have HB0 := Lib.hid (below_then HB0.out hb5); have hHeld := hHeld.below hb5
 clear hb5
 have hHeld := (hHeld : (fun w' : World => Blk w' w1.heap.size #[.int .i64 an, .int .i64 aq, .int .i64 rg, .int .i64 sp, .int .i64 sd, .int .i64 ss, .int .i64 sh, .int .i64 nd, .int .i64 pt]) w5)
 refine ⟨_, rfl, _, fun _ h => h, hHeld, fun hHeld => ?_⟩
 simp only [Act.put, puts]
 refine wpAnyH_all (rs := [6]) (by kernel_rfl) (by simp) (fun j hj => ?_)
 obtain rfl : j = 6 := by simpa using hj
 refine wpOp_step rfl (fun K' hK => ?_)
 rw [if_pos (by rfl)]
 refine wp_store_row 81 (.tmp 4) (.tmp 48) rfl w.heap.size #[.int .i64 kk, .int .i64 nd, .int .i64 an, .int .i64 an, .int .i64 aq, .int .i64 rg, .int .i64 pt, .int .i64 0, .int .i64 0] rfl rfl 81 #[.int .i64 0, .int .i64 0, .int .i64 0, .int .i64 0, .int .i64 0, .int .i64 0, .int .i64 0, .int .i64 0, .int .i64 0] HT0.out (by kernel_rfl) rfl (by simp [Value.oneCell']) ?_
 obtain ⟨HFr, hgr⟩ := row_end (cells := #[.int .i64 kk, .int .i64 nd, .int .i64 an, .int .i64 an, .int .i64 aq, .int .i64 rg, .int .i64 pt, .int .i64 0, .int .i64 0]) HT0.out
 have hK2 := hHeld.heap' hgr.size (hgr.block _ hHeld.lt (fun e => by injection e with e; omega))
 have hB2 := Lib.hid (HB0.out.grown hgr HB0.out.size (fun k hk => by injection hk with hk; omega))
 have hHeld := (hK2 : (fun w' : World => Blk w' w1.heap.size #[.int .i64 an, .int .i64 aq, .int .i64 rg, .int .i64 sp, .int .i64 sd, .int .i64 ss, .int .i64 sh, .int .i64 nd, .int .i64 pt]) (w5.setRow w.heap.size #[.int .i64 kk, .int .i64 nd, .int .i64 an, .int .i64 an, .int .i64 aq, .int .i64 rg, .int .i64 pt, .int .i64 0, .int .i64 0]))
 refine hK _ _ ⟨hHeld, ?_⟩
 simp only [Act.put, puts]
 clear hK hK2
 obtain ⟨q1, f1⟩ := HFr.out
 generalize w5.setRow w.heap.size #[.int .i64 kk, .int .i64 nd, .int .i64 an, .int .i64 an, .int .i64 aq, .int .i64 rg, .int .i64 pt, .int .i64 0, .int .i64 0] = w6 at *
 refine takeT (v := ?_) (d := some 5) 7 hHeld ?_ ?_
 rotate_left 1
 · (intro w' hS'; (try dsimp only at hS'); have qS := hS'.cell; clear hS'; go_simp; (try with_reducible rfl))
 simp only [puts]
 refine wpAnyH_done (by kernel_rfl) ?_ _
 clear hHeld
 go_wp2_with fail
 exact bodyPost_ret (v := .tuple #[.agg #[.int .i64 kk, .int .i64 nd, .int .i64 an, .int .i64 an, .int .i64 aq, .int .i64 rg, .int .i64 pt, .int .i64 0, .int .i64 0], .bool true]) (by simp [results, Tryz.results45, go_sem, q1, f1]) rfl ⟨by simp, hB2.out⟩
theorem pagain_of (L : SLoc) (S : Sto) (pt : Int) (ea : Int → Addr) (w : World) (hE : EnvS ea w) (h : StoreAt L S w) (hG : StoGood S) :
   Calls Tryz.prog 45 #[.pointer (some ⟨L.sb, 0, none⟩), .int .i64 pt] w (Makes (.tuple #[msgV (pAgain S pt).1, .bool (pAgain S pt).2]) w) := by
 have hl := hG.parts
 unfold pAgain
 cases hp : pGet S pt with
 | none => exact again_none _ part0 S.node pt w (fun W hW => pfind_any L S pt part0 false W (h.below hW) (fun W' hW' => part_no L S pt W' ((h.below hW).below hW') hp))
 | some p =>
   have hFd : ∀ W, Below w.heap.size w W → Calls Tryz.prog 121 #[.pointer (some ⟨L.sb, 0, none⟩), .int .i64 pt] W (Makes (.tuple #[oneV p S.node pt, .bool true]) W) := fun W hW => pfind_any L S pt p true W (h.below hW) (fun W' hW' => part_yes L S pt p W' ((h.below hW).below hW') hl hp)
   simp only
   by_cases hr : p.rg < 0
   · rw [if_pos hr]
     by_cases hs : p.seat.s = 1
     · rw [if_pos hs]
       exact again_reg _ p S.node pt w hFd hr hs
     · rw [if_neg hs]
       exact again_off _ p S.node pt w hFd hr hs
   · rw [if_neg hr]
     by_cases hk : mWaits p.seat = 0
     · rw [if_neg (by simp [hk])]
       exact again_idle _ p S.node pt w hFd ea hE (by omega) hk
     · rw [if_pos hk]
       exact again_wait _ p S.node pt w hFd _ ea hE (by omega) rfl hk
end Go.Proofs.YtlkajejbfojkeaaGreatDoor

namespace Go.Proofs.YtlkajejbfojkeaaGreatDoor
open Go.RowKit
attribute [local go_sem] store_float

def coLo (k : Int) : Int := if k = 19 then 1 else if k = 16 then 1 else 0
def coHi (k : Int) : Int := if k = 19 then 5 else if k = 16 then 14 else 0
def prLo (k : Int) : Int := if k = 17 ∨ k = 18 then 1 else 0
def prHi (k : Int) : Int := if k = 17 ∨ k = 18 then 2 else 0
def rgHi (k : Int) : Int := if k = 17 then 0 else 5
def msgOk (m : SMsg) : Bool := decide (1 ≤ m.k ∧ m.k ≤ 19) && (decide (0 ≤ m.fr ∧ m.fr ≤ 3) && (decide (0 ≤ m.to ∧ m.to ≤ 3) && (idOk m.an m.aq && (decide (0 ≤ m.rg ∧ m.rg ≤ rgHi m.k) && (decide (0 ≤ m.pt ∧ m.pt ≤ 7) && (decide (prLo m.k ≤ m.pr ∧ m.pr ≤ prHi m.k) && decide (coLo m.k ≤ m.co ∧ m.co ≤ coHi m.k)))))))
theorem codes_of (k : Int) (w : World) : Calls Tryz.prog 138 #[.int .i64 k] w (Gives (.tuple #[.int .i64 (coLo k), .int .i64 (coHi k)]) w) := by
 unfold coLo coHi
 by_cases h1 : k = 19
 · subst h1
   rw [if_pos rfl, if_pos rfl]
   go_enter Tryz.func138, Tryz.ntmps138
   go_wp2_with fail
   go_ret2
   exact ⟨rfl, rfl⟩
 rw [if_neg h1, if_neg h1]
 have e1 : (k == 19) = false := by simpa using h1
 by_cases h2 : k = 16
 · subst h2
   rw [if_pos rfl, if_pos rfl]
   clear h1
   go_enter Tryz.func138, Tryz.ntmps138
   go_wp2_with fail
   go_ret2
   exact ⟨rfl, rfl⟩
 rw [if_neg h2, if_neg h2]
 have e2 : (k == 16) = false := by simpa using h2
 clear h1 h2
 go_enter Tryz.func138, Tryz.ntmps138
 go_wp2_with fail
 go_ret2
 exact ⟨rfl, rfl⟩
theorem protocols_of (k : Int) (w : World) : Calls Tryz.prog 139 #[.int .i64 k] w (Gives (.tuple #[.int .i64 (prLo k), .int .i64 (prHi k)]) w) := by
 unfold prLo prHi
 by_cases h1 : k = 17
 · subst h1
   rw [if_pos (.inl rfl), if_pos (.inl rfl)]
   go_enter Tryz.func139, Tryz.ntmps139
   go_wp2_with fail
   go_ret2
   exact ⟨rfl, rfl⟩
 have e1 : (k == 17) = false := by simpa using h1
 by_cases h2 : k = 18
 · subst h2
   rw [if_pos (.inr rfl), if_pos (.inr rfl)]
   clear h1
   go_enter Tryz.func139, Tryz.ntmps139
   go_wp2_with fail
   go_ret2
   exact ⟨rfl, rfl⟩
 rw [if_neg (by omega), if_neg (by omega)]
 have e2 : (k == 18) = false := by simpa using h2
 clear h1 h2
 go_enter Tryz.func139, Tryz.ntmps139
 go_wp2_with fail
 go_ret2
 exact ⟨rfl, rfl⟩
set_option maxRecDepth 100000 in
set_option maxHeartbeats 4000000 in
theorem mright_go (m : SMsg) (r7 : Bool) (ea : Int → Addr) (w : World) (hE : EnvS ea w) (h7 : (m.k == 17) = r7) (hr : rgHi m.k = if r7 = true then 0 else 5) : Calls Tryz.prog 44 #[msgV m] w (Makes (.bool (msgOk m)) w) := by
 have HC := Lib.hid (fun W => codes_of m.k W)
 have HP := Lib.hid (fun W => protocols_of m.k W)
 have HI := Lib.hid (fun W hW => idRight_of m.an m.aq ea W hW)
 have HE := Lib.hid hE
 have H1 := Lib.hid (fun W => lwithin_of m.k 1 19 W)
 have H2 := Lib.hid (fun W => lwithin_of m.fr 0 3 W)
 have H3 := Lib.hid (fun W => lwithin_of m.to 0 3 W)
 have H5 := Lib.hid (fun W => lwithin_of m.rg 0 (rgHi m.k) W)
 have H6 := Lib.hid (fun W => lwithin_of m.pt 0 7 W)
 have H7 := Lib.hid (fun W => lwithin_of m.pr (prLo m.k) (prHi m.k) W)
 have H8 := Lib.hid (fun W => lwithin_of m.co (coLo m.k) (coHi m.k) W)
 unfold msgOk
 generalize decide (1 ≤ m.k ∧ m.k ≤ 19) = b1 at *
 generalize decide (0 ≤ m.fr ∧ m.fr ≤ 3) = b2 at *
 generalize decide (0 ≤ m.to ∧ m.to ≤ 3) = b3 at *
 generalize idOk m.an m.aq = b4 at *
 generalize decide (0 ≤ m.rg ∧ m.rg ≤ rgHi m.k) = b5 at *
 generalize decide (0 ≤ m.pt ∧ m.pt ≤ 7) = b6 at *
 generalize decide (prLo m.k ≤ m.pr ∧ m.pr ≤ prHi m.k) = b7 at *
 generalize decide (coLo m.k ≤ m.co ∧ m.co ≤ coHi m.k) = b8 at *
 rw [hr] at H5
 generalize coLo m.k = c0 at *
 generalize coHi m.k = c1 at *
 generalize prLo m.k = p0 at *
 generalize prHi m.k = p1 at *
 obtain ⟨mk, fr, tq, man, maq, mrg, mpt, mpr, mco⟩ := m
 dsimp only [msgV, msgA] at *
 clear hE hr
 cases r7
 all_goals
   (try simp only [Bool.false_eq_true, if_false, if_true] at H5)
   go_enter Tryz.func44, Tryz.ntmps44
   go_wp2_with fail
   refine (HC.out _).mono ?_
   rintro e w1 ⟨rfl, rfl⟩
   go_wp2_with fail
   refine (HP.out _).mono ?_
   rintro e w1 ⟨rfl, rfl⟩
   go_wp2_with fail
   refine (H1.out _).mono ?_
   rintro e w5 ⟨rfl, rfl⟩
   cases b1
   case false =>
     go_wp2_with fail
     go_ret
     exact ⟨ret_bool (by simp), by go_grown⟩
   go_wp2_with fail
   refine (H2.out _).mono ?_
   rintro e w5 ⟨rfl, rfl⟩
   cases b2
   case false =>
     go_wp2_with fail
     go_ret
     exact ⟨ret_bool (by simp), by go_grown⟩
   go_wp2_with fail
   refine (H3.out _).mono ?_
   rintro e w5 ⟨rfl, rfl⟩
   cases b3
   case false =>
     go_wp2_with fail
     go_ret
     exact ⟨ret_bool (by simp), by go_grown⟩
   go_wp2_with fail
   refine (HI.out _ (HE.out.below (by go_grown))).mono ?_
   rintro e w4 ⟨rfl, hb4⟩
   have B4 : Below w.heap.size w w4 := below_then (by go_grown) hb4
   have HK := Lib.hid ((Blk.fresh w #[.int .i64 mk, .int .i64 fr, .int .i64 tq, .int .i64 man, .int .i64 maq, .int .i64 mrg, .int .i64 mpt, .int .i64 mpr, .int .i64 mco] 81 _ rfl).below hb4)
   have qm := HK.out.cell
   cases b4
   case false =>
     go_wp2_with fail
     go_ret
     exact ⟨ret_bool (by simp), by go_grown⟩
   go_wp2_with fail
   refine (H5.out _).mono ?_
   rintro e w5 ⟨rfl, rfl⟩
   cases b5
   case false =>
     go_wp2_with fail
     go_ret
     exact ⟨ret_bool (by simp), by go_grown⟩
   go_wp2_with fail
   refine (H6.out _).mono ?_
   rintro e w5 ⟨rfl, rfl⟩
   cases b6
   case false =>
     go_wp2_with fail
     go_ret
     exact ⟨ret_bool (by simp), by go_grown⟩
   go_wp2_with fail
   refine (H7.out _).mono ?_
   rintro e w5 ⟨rfl, rfl⟩
   cases b7
   case false =>
     go_wp2_with fail
     go_ret
     exact ⟨ret_bool (by simp), by go_grown⟩
   go_wp2_with fail
   refine (H8.out _).mono ?_
   rintro e w5 ⟨rfl, rfl⟩
   go_wp2_with fail
   go_ret
   exact ⟨ret_bool (by simp), by go_grown⟩
theorem mright_of (m : SMsg) (ea : Int → Addr) (w : World) (hE : EnvS ea w) : Calls Tryz.prog 44 #[msgV m] w (Makes (.bool (msgOk m)) w) := by
 by_cases h : m.k = 17
 · exact mright_go m true ea w hE (by simpa using h) (by unfold rgHi; rw [if_pos h]; rfl)
 · exact mright_go m false ea w hE (by simpa using h) (by unfold rgHi; rw [if_neg h]; rfl)
end Go.Proofs.YtlkajejbfojkeaaGreatDoor

namespace Go.Proofs.YtlkajejbfojkeaaGreatDoor

def sendOk (x : MSeat) (k : Int) : Bool := decide ((mTell x k).1.send = 0 ∨ 1 ≤ (mTell x k).1.send ∧ (mTell x k).1.send ≤ 14) && decide (0 ≤ (mTell x k).1.fault ∧ (mTell x k).1.fault ≤ 5)
set_option maxRecDepth 100000 in
theorem sendOk_all : (seatList.all fun x => !mRight x || (decide (0 ≤ mWaits x ∧ mWaits x ≤ 14) && decide (1 ≤ x.s ∧ x.s ≤ 14 ∧ 1 ≤ x.p ∧ x.p ≤ 2) && kinds15.all fun k => sendOk x k)) = true := by decide +kernel
theorem sendOk_in {x : MSeat} (h : mRight x = true) : (0 ≤ mWaits x ∧ mWaits x ≤ 14) ∧ (1 ≤ x.s ∧ x.s ≤ 14 ∧ 1 ≤ x.p ∧ x.p ≤ 2) ∧ ∀ k, 0 ≤ k ∧ k ≤ 14 → ((mTell x k).1.send = 0 ∨ 1 ≤ (mTell x k).1.send ∧ (mTell x k).1.send ≤ 14) ∧ 0 ≤ (mTell x k).1.fault ∧ (mTell x k).1.fault ≤ 5 := by
 have h1 := List.all_eq_true.1 sendOk_all x (seat_mem h)
 rw [h] at h1
 simp only [Bool.not_true, Bool.false_or, Bool.and_eq_true, decide_eq_true_eq, List.all_eq_true] at h1
 refine ⟨h1.1.1, h1.1.2, fun k hk => ?_⟩
 have h2 := h1.2 k (by simp [kinds15]; omega)
 unfold sendOk at h2
 simpa using h2
theorem msgOk_iff {m : SMsg} : msgOk m = true ↔ (1 ≤ m.k ∧ m.k ≤ 19) ∧ (0 ≤ m.fr ∧ m.fr ≤ 3) ∧ (0 ≤ m.to ∧ m.to ≤ 3) ∧ idOk m.an m.aq = true ∧ (0 ≤ m.rg ∧ m.rg ≤ rgHi m.k) ∧ (0 ≤ m.pt ∧ m.pt ≤ 7) ∧ (prLo m.k ≤ m.pr ∧ m.pr ≤ prHi m.k) ∧ (coLo m.k ≤ m.co ∧ m.co ≤ coHi m.k) := by
 unfold msgOk
 simp only [Bool.and_eq_true, decide_eq_true_eq]
theorem rg5 {k : Int} : rgHi k ≤ 5 := by unfold rgHi; split <;> omega
def rightTo (x : SMsg) (fr tx an aq pt : Int) : Prop := msgOk x = true ∧ x.fr = fr ∧ x.to = tx ∧ x.an = an ∧ x.aq = aq ∧ x.pt = pt
theorem ans_right {m : SMsg} {k c nd : Int} (hm : msgOk m = true) (hto : m.to = nd) (hk : k = 16 ∧ 1 ≤ c ∧ c ≤ 14 ∨ k = 19 ∧ 1 ≤ c ∧ c ≤ 5) : rightTo (ans m k c) nd m.fr m.an m.aq m.pt := by
 obtain ⟨m1, m2, m3, m4, m5, m6, m7, m8⟩ := msgOk_iff.1 hm
 have hr := rg5 (k := m.k)
 refine ⟨msgOk_iff.2 ⟨?_, m3, m2, m4, ?_, m6, ?_, ?_⟩, hto, rfl, rfl, rfl, rfl⟩
 · show 1 ≤ k ∧ k ≤ 19; omega
 · show 0 ≤ m.rg ∧ m.rg ≤ rgHi k
   unfold rgHi; rw [if_neg (by omega)]; omega
 · show prLo k ≤ 0 ∧ 0 ≤ prHi k
   unfold prLo prHi; rw [if_neg (by omega), if_neg (by omega)]; omega
 · show coLo k ≤ c ∧ c ≤ coHi k
   unfold coLo coHi
   rcases hk with ⟨h, h1, h2⟩ | ⟨h, h1, h2⟩
   · rw [if_neg (by omega), if_pos h, if_neg (by omega), if_pos h]; omega
   · rw [if_pos h, if_pos h]; omega
theorem pMsg_right {S : Sto} {pt rg k : Int} {p : SPart} (hS : StoGood S) (hid : idOk p.an p.aq = true) (hpt : 0 ≤ pt ∧ pt ≤ 7) (hrg : 0 ≤ rg ∧ rg ≤ 5) (hk : 1 ≤ k ∧ k ≤ 14) : rightTo (pMsg S pt p rg k) S.node p.an p.an p.aq pt := by
 have hi := (idOk_iff _ _).1 hid
 refine ⟨msgOk_iff.2 ⟨?_, hS.node, ⟨hi.1, hi.2.1⟩, hid, ?_, hpt, ?_, ?_⟩, rfl, rfl, rfl, rfl, rfl⟩
 · show 1 ≤ k ∧ k ≤ 19; omega
 · show 0 ≤ rg ∧ rg ≤ rgHi k
   unfold rgHi; rw [if_neg (by omega)]; omega
 · show prLo k ≤ 0 ∧ 0 ≤ prHi k
   unfold prLo prHi; rw [if_neg (by omega), if_neg (by omega)]; omega
 · show coLo k ≤ 0 ∧ 0 ≤ coHi k
   unfold coLo coHi; rw [if_neg (by omega), if_neg (by omega), if_neg (by omega), if_neg (by omega)]; omega
theorem pTell_right {S : Sto} {m : SMsg} (hS : StoGood S) (hm : msgOk m = true) (hto : m.to = S.node) : ∀ x ∈ (pTell S m).ms, rightTo x S.node m.fr m.an m.aq m.pt := by
 obtain ⟨m1, m2, m3, m4, m5, m6, m7, m8⟩ := msgOk_iff.1 hm
 have hr5 := rg5 (k := m.k)
 intro x hx
 unfold pTell at hx
 simp only at hx
 split at hx
 · cases hx
 split at hx
 · cases hx
 split at hx
 · rename_i h
   obtain rfl := List.mem_singleton.1 hx
   unfold pFor at h ⊢
   cases hp : pGet S m.pt with
   | none => rw [hp] at h; simp at h
   | some p =>
     simp only
     have hs := (sendOk_in (hS.part p (pGet_some hp).2.2.2).2.2.2).2.1
     exact ans_right hm hto (.inl ⟨rfl, hs.1, hs.2.1⟩)
 split at hx
 · obtain rfl := List.mem_singleton.1 hx
   exact ans_right hm hto (.inr ⟨rfl, by omega, by omega⟩)
 split at hx
 · rename_i h1 h2 h3 h4 hd
   unfold pFor at hx h4
   cases hp : pGet S m.pt with
   | none =>
     rw [hp] at h4
     simp only at h4
     exact absurd (.inr ⟨hd, by first | rfl | trivial⟩) h4
   | some p =>
     rw [hp] at hx h4
     simp only at hx h4
     cases hf : pFits S p m with
     | false => rw [hf] at h4; exact absurd (.inr ⟨hd, by first | rfl | trivial⟩) h4
     | true =>
       unfold pFits at hf
       simp only [decide_eq_true_eq] at hf
       obtain ⟨q1, q2, q3, q4⟩ := hS.part p (pGet_some hp).2.2.2
       have hk : 0 ≤ m.k ∧ m.k ≤ 14 := by have : m.k = 2 ∨ 9 ≤ m.k ∧ m.k ≤ 14 := by simpa [isDown] using hd
                                          omega
       obtain ⟨_, _, hs3⟩ := sendOk_in q4
       obtain ⟨hs3, hs4, hs5⟩ := hs3 m.k hk
       unfold pDown at hx
       simp only at hx
       split at hx
       · cases hx
       · rcases List.mem_append.1 hx with hx | hx
         · split at hx
           · rename_i hne
             obtain rfl := List.mem_singleton.1 hx
             have hrg : 0 ≤ max (if p.rg < 0 then m.rg else p.rg) 0 ∧ max (if p.rg < 0 then m.rg else p.rg) 0 ≤ 5 := by
               split <;> omega
             have := pMsg_right (pt := m.pt) (k := (mTell p.seat m.k).1.send) hS q1 m6 hrg (by omega)
             rw [hf.1, hf.2.1, ← hf.2.2.1] at this
             rw [← hf.2.2.1]
             exact this
           · cases hx
         · split at hx
           · obtain rfl := List.mem_singleton.1 hx
             exact ans_right hm hto (.inr ⟨rfl, by omega, by omega⟩)
           · cases hx
 · cases hx
theorem pTell_mlen {S : Sto} {m : SMsg} : (pTell S m).ms.length ≤ 2 := by
 have hD : ∀ p, (pDown S m.pt p m).ms.length ≤ 2 := fun p => by
   unfold pDown
   simp only
   split
   · simp
   · rw [List.length_append]
     have h1 : ∀ (c : Prop) [Decidable c] (x : SMsg), (if c then [x] else []).length ≤ 1 := fun c _ x => by split <;> simp
     exact Nat.add_le_add (h1 _ _) (h1 _ _)
 unfold pTell
 simp only
 split
 · simp
 split
 · simp
 split
 · simp
 split
 · simp
 split
 · exact hD _
 · simp [res0]
theorem pAgain_right {S : Sto} {i : Nat} {p : SPart} (hS : StoGood S) (hp : S.parts[i]? = some p) (ha : (pAgain S (i : Int)).2 = true) : rightTo (pAgain S (i : Int)).1 S.node p.an p.an p.aq (i : Int) := by
 have hil := (List.getElem?_eq_some_iff.1 hp).1
 have hl := hS.parts
 have hg : pGet S (i : Int) = some p := by unfold pGet; rw [if_pos (by omega)]; simpa using hp
 obtain ⟨q1, q2, q3, q4⟩ := hS.part p (List.mem_of_getElem? hp)
 obtain ⟨w1, w2, _⟩ := sendOk_in q4
 have hi := (idOk_iff _ _).1 q1
 unfold pAgain at ha ⊢
 rw [hg] at ha ⊢
 simp only at ha ⊢
 split at ha
 · rename_i hr
   rw [if_pos hr]
   split at ha
   · rename_i hs
     rw [if_pos hs]
     refine ⟨msgOk_iff.2 ⟨(by decide : (1 : Int) ≤ 17 ∧ (17 : Int) ≤ 19), hS.node, ⟨hi.1, hi.2.1⟩, q1, (by decide : (0 : Int) ≤ 0 ∧ (0 : Int) ≤ rgHi 17), ⟨by show 0 ≤ (i : Int); omega, by show (i : Int) ≤ 7; omega⟩, ?_, (by decide : coLo 17 ≤ 0 ∧ 0 ≤ coHi 17)⟩, rfl, rfl, rfl, rfl, rfl⟩
     show prLo 17 ≤ p.seat.p ∧ p.seat.p ≤ prHi 17
     have e1 : prLo 17 = 1 := by decide
     have e2 : prHi 17 = 2 := by decide
     rw [e1, e2]
     exact w2.2.2
   · cases ha
 · rename_i hr
   rw [if_neg hr]
   split at ha
   · rename_i hk
     rw [if_pos hk]
     exact pMsg_right hS q1 (by omega) (by omega) (by omega)
   · cases ha
end Go.Proofs.YtlkajejbfojkeaaGreatDoor

namespace Go.Proofs.YtlkajejbfojkeaaGreatDoor

theorem sapply_node (S : Sto) (f : SFact) : (sapply S f).1.node = S.node := by
 unfold sapply
 split
 · rfl
 · cases h : sput S f with
   | none => rfl
   | some T =>
     simp only
     unfold sput at h
     repeat' split at h
     all_goals first
       | (cases h; done)
       | (injection h with h; subst h; rfl)
       | (obtain ⟨t, _, rfl⟩ := Option.map_eq_some_iff.1 h; rfl)
theorem splay_node (node : Int) (fs : List SFact) : (splay node fs).node = node := by
 unfold splay
 have : ∀ (l : List SFact) (S : Sto), (l.foldl (fun S f => (sapply S f).1) S).node = S.node := fun l => by
   induction l with
   | nil => intro S; rfl
   | cons f t ih => intro S; exact (ih _).trans (sapply_node S f)
 exact this fs _
end Go.Proofs.YtlkajejbfojkeaaGreatDoor
