/- RstE, RstQ, Bu16, Al16b, MovBw, PaN -/
import Derived.Test.YtlkajejbfojkeaaGreatDoorRows
import Derived.WalkKit
import Derived.WalkSpells
import Derived.WalkLawsBesides
import Derived.BigQuiet
import Derived.Deep.QuietTactic
import Derived.StillTailTactics
import Derived.Handy
import Derived.Lib.Hide
import Derived.Test.YtlkajejbfojkeaaGreatDoorSRstD
import Derived.Deep.RegionHeld3
import Derived.Deep.RegionWith
import Derived.Test.YtlkajejbfojkeaaGreatDoorSRstOToRstW
import Derived.Test.YtlkajejbfojkeaaGreatDoorSRstN
import Derived.Test.YtlkajejbfojkeaaGreatDoorSRstM
import Derived.Test.YtlkajejbfojkeaaGreatDoorSRstJ
import Derived.Test.YtlkajejbfojkeaaGreatDoorSRstI
import Derived.Test.YtlkajejbfojkeaaGreatDoorSRstH
import Derived.Test.YtlkajejbfojkeaaGreatDoorSRstG
import Derived.Test.YtlkajejbfojkeaaGreatDoorSRstF
import Derived.Test.YtlkajejbfojkeaaGreatDoorSStoSToRfcA
import Derived.Test.YtlkajejbfojkeaaGreatDoorSPaCToFacI
import Derived.Test.YtlkajejbfojkeaaGreatDoorSMovCToTold
import Derived.Test.YtlkajejbfojkeaaGreatDoorSTabPlainToMovB
import Derived.Test.YtlkajejbfojkeaaGreatDoorSToldBToStoN
set_option linter.unusedSimpArgs false
set_option linter.unusedVariables false
namespace Go.Proofs.YtlkajejbfojkeaaGreatDoor
open Go.RowKit

set_option maxRecDepth 100000 in
set_option maxHeartbeats 4000000 in
theorem rnopart7 (R : RLoc) (S : Sto) (f : SFact) (w : World) (hx : F64 f.ex) (h : RStoreAt R S w) (hok : fok f = true) (hk : f.k = 7) (hi : (S.parts.length : Int) ≤ f.pt) :
   Calls Tryz.prog 22 #[.pointer (some ⟨R.sb, 0, none⟩), factV f] w (RApplyEnds R S 9 w) := by
 have hR := fun W => rright14_of f hx W
 rw [hok] at hR
 obtain ⟨a, cap, hv, hn, hr⟩ := part_row h.parts
 have HR := Lib.hid hR; have H := Lib.hid h
 have hsb := h.blk.lt
 obtain ⟨n, hnn⟩ : ∃ n, n = S.parts.length := ⟨_, rfl⟩
 rw [← hnn] at hv hi
 have HQ := Lib.hid (fun W (hW : RStoreAt R S W) => (show W.cell? ⟨R.sb, 3, none⟩ = some (.slice a n cap) by rw [← hv]; exact hW.blk.cell 3))
 obtain ⟨k, an, aq, rg, nd, pt, pr, oc, dp, pa, st, hw, de, ex⟩ := f
 dsimp only at hi hk
 subst hk
 dsimp only [factV, factC] at *
 clear hR h hok hx hnn hn hr hv
 go_enter Tryz.func22, Tryz.ntmps22
 go_wp2_with fail
 (with_reducible refine (HR.out _).mono ?_)
 rintro e w1 ⟨rfl, hb1⟩
 have B1 : Below w.heap.size w w1 := below_then (by go_grown) hb1
 have HK1 := Lib.hid ((Blk.fresh w #[.int .i64 7, .int .i64 an, .int .i64 aq, .int .i64 rg, .int .i64 nd, .int .i64 pt, .int .i64 pr, .int .i64 oc, .int .i64 dp, .int .i64 pa, .int .i64 st, .int .i64 hw, .int .i64 de, .float .f64 ex] 42 _ rfl).below hb1)
 have hz1 := hb1.size
 simp only [World.size_alloc] at hz1
 have hs1 : R.sb < w1.heap.size := by omega
 have hs2 : w.heap.size < w1.heap.size := by omega
 obtain ⟨q, qf⟩ := HK1.out.out
 have c3 := HQ.out _ (H.out.below B1)
 have hi3 : decide ((n : Int) ≤ pt) = true := decide_eq_true hi
 go_wp2_with fail
 go_region
 all_goals go_wp2_with fail
 all_goals go_ret
 all_goals exact ⟨rfl, RGoes.same H.out (below_then B1 (by go_grown))⟩
set_option maxRecDepth 100000 in
set_option maxHeartbeats 4000000 in
theorem rpart7_yes (R : RLoc) (S : Sto) (f : SFact) (i : Nat) (p : SPart) (w : World) (hx : F64 f.ex) (h : RStoreAt R S w) (hok : fok f = true) (hk : f.k = 7) (hi : f.pt = (i : Int)) (hp : S.parts[i]? = some p) (hr7 : p.rg = -1) :
   Calls Tryz.prog 22 #[.pointer (some ⟨R.sb, 0, none⟩), factV f] w (RApplyEnds R { S with parts := S.parts.set i { p with rg := f.rg } } 0 w) := by
 have hR := fun W => rright14_of f hx W
 rw [hok] at hR
 obtain ⟨a, cap, hv, hn, hr⟩ := part_row h.parts
 have hil := (List.getElem?_eq_some_iff.1 hp).1
 obtain ⟨g, rfl, hg, hfz, hcell⟩ := hr (by omega)
 have hcl := hcell i p hp
 have HG := Lib.hid (fun w2 (hb : Below w.heap.size w w2) => rrg_part_goes h hb hv hp f.rg)
 obtain ⟨n, hnn⟩ : ∃ n, n = S.parts.length := ⟨_, rfl⟩
 rw [← hnn] at hv hil
 have HR := Lib.hid hR; have HCL := Lib.hid hcl; have HFZ := Lib.hid hfz
 have hsb := h.blk.lt
 have HQ := Lib.hid (show w.cell? ⟨R.sb, 3, none⟩ = some (.slice (some ⟨g, 0, none⟩) n cap) by rw [← hv]; exact h.blk.cell 3)
 have hi0 : (0 : Int) ≤ (i : Int) := by omega
 have hi1 : (i : Int) < (n : Int) := by omega
 have hi2 : ¬ (n : Int) ≤ (i : Int) := by omega
 have hi3 : decide ((n : Int) ≤ (i : Int)) = false := decide_eq_false hi2
 have hi4 : ¬ n ≤ i := by omega
 have hi5 : decide (n ≤ i) = false := decide_eq_false hi4
 obtain ⟨pan, paq, prg, ⟨sp, sd, ss, sh⟩⟩ := p
 obtain ⟨k, an, aq, rg, nd, pt, pr, oc, dp, pa, st, hw, de, ex⟩ := f
 dsimp only at hi hk
 subst hk
 subst hi
 dsimp only [factV, factC] at *
 subst hr7
 clear hR h hok hx hnn hn hr hv hcl hcell hp hfz
 go_enter Tryz.func22, Tryz.ntmps22
 go_wp2_with fail
 (with_reducible refine (HR.out _).mono ?_)
 rintro e w1 ⟨rfl, hb1⟩
 have B1 : Below w.heap.size w w1 := below_then (by go_grown) hb1
 have HK1 := Lib.hid ((Blk.fresh w #[.int .i64 7, .int .i64 an, .int .i64 aq, .int .i64 rg, .int .i64 nd, .int .i64 (i : Int), .int .i64 pr, .int .i64 oc, .int .i64 dp, .int .i64 pa, .int .i64 st, .int .i64 hw, .int .i64 de, .float .f64 ex] 42 _ rfl).below hb1)
 have hz1 := hb1.size
 simp only [World.size_alloc] at hz1
 have hs1 : R.sb < w1.heap.size := by omega
 have hs2 : w.heap.size < w1.heap.size := by omega
 obtain ⟨q, qf⟩ := HK1.out.out
 have hg1 : g < w1.heap.size := by omega
 obtain ⟨pc0, pc1, pc2, pc3, pc4, pc5, pc6⟩ := PartC.below HCL.out B1 hg
 have f1 : ∀ j, w1.frozen? ⟨g, j, none⟩ = false := fun j => (B1.frozen (p := ⟨g, j, none⟩) hg).trans (HFZ.out j)
 have c3 := (B1.cell (p := ⟨R.sb, 3, none⟩) hsb).trans HQ.out
 dsimp only at pc0 pc1 pc2 pc3 pc4 pc5 pc6
 clear pc0 pc1 pc3 pc4 pc5 pc6
 go_wp2_with fail
 go_region
 all_goals go_wp2_with fail
 go_region
 all_goals go_wp2_with fail
 all_goals go_ret
 all_goals exact ⟨rfl, (HG.out _ (below_then B1 (by go_grown))).then_below (by go_grown)⟩
set_option maxRecDepth 100000 in
set_option maxHeartbeats 4000000 in
theorem rpart7_no (R : RLoc) (S : Sto) (f : SFact) (i : Nat) (p : SPart) (w : World) (hx : F64 f.ex) (h : RStoreAt R S w) (hok : fok f = true) (hk : f.k = 7) (hi : f.pt = (i : Int)) (hp : S.parts[i]? = some p) (hr7 : 0 ≤ p.rg) :
   Calls Tryz.prog 22 #[.pointer (some ⟨R.sb, 0, none⟩), factV f] w (RApplyEnds R S 9 w) := by
 have hR := fun W => rright14_of f hx W
 rw [hok] at hR
 obtain ⟨a, cap, hv, hn, hr⟩ := part_row h.parts
 have hil := (List.getElem?_eq_some_iff.1 hp).1
 obtain ⟨g, rfl, hg, hfz, hcell⟩ := hr (by omega)
 have hcl := hcell i p hp
 have HG := Lib.hid (fun w2 (hb : Below w.heap.size w w2) => RGoes.same h hb)
 obtain ⟨n, hnn⟩ : ∃ n, n = S.parts.length := ⟨_, rfl⟩
 rw [← hnn] at hv hil
 have HR := Lib.hid hR; have HCL := Lib.hid hcl; have HFZ := Lib.hid hfz
 have hsb := h.blk.lt
 have HQ := Lib.hid (show w.cell? ⟨R.sb, 3, none⟩ = some (.slice (some ⟨g, 0, none⟩) n cap) by rw [← hv]; exact h.blk.cell 3)
 have hi0 : (0 : Int) ≤ (i : Int) := by omega
 have hi1 : (i : Int) < (n : Int) := by omega
 have hi2 : ¬ (n : Int) ≤ (i : Int) := by omega
 have hi3 : decide ((n : Int) ≤ (i : Int)) = false := decide_eq_false hi2
 have hi4 : ¬ n ≤ i := by omega
 have hi5 : decide (n ≤ i) = false := decide_eq_false hi4
 obtain ⟨pan, paq, prg, ⟨sp, sd, ss, sh⟩⟩ := p
 obtain ⟨k, an, aq, rg, nd, pt, pr, oc, dp, pa, st, hw, de, ex⟩ := f
 dsimp only at hi hk
 subst hk
 subst hi
 dsimp only [factV, factC] at *
 have hr8 : decide ((0 : Int) ≤ prg) = true := decide_eq_true hr7
 clear hR h hok hx hnn hn hr hv hcl hcell hp hfz
 go_enter Tryz.func22, Tryz.ntmps22
 go_wp2_with fail
 (with_reducible refine (HR.out _).mono ?_)
 rintro e w1 ⟨rfl, hb1⟩
 have B1 : Below w.heap.size w w1 := below_then (by go_grown) hb1
 have HK1 := Lib.hid ((Blk.fresh w #[.int .i64 7, .int .i64 an, .int .i64 aq, .int .i64 rg, .int .i64 nd, .int .i64 (i : Int), .int .i64 pr, .int .i64 oc, .int .i64 dp, .int .i64 pa, .int .i64 st, .int .i64 hw, .int .i64 de, .float .f64 ex] 42 _ rfl).below hb1)
 have hz1 := hb1.size
 simp only [World.size_alloc] at hz1
 have hs1 : R.sb < w1.heap.size := by omega
 have hs2 : w.heap.size < w1.heap.size := by omega
 obtain ⟨q, qf⟩ := HK1.out.out
 have hg1 : g < w1.heap.size := by omega
 obtain ⟨pc0, pc1, pc2, pc3, pc4, pc5, pc6⟩ := PartC.below HCL.out B1 hg
 have f1 : ∀ j, w1.frozen? ⟨g, j, none⟩ = false := fun j => (B1.frozen (p := ⟨g, j, none⟩) hg).trans (HFZ.out j)
 have c3 := (B1.cell (p := ⟨R.sb, 3, none⟩) hsb).trans HQ.out
 dsimp only at pc0 pc1 pc2 pc3 pc4 pc5 pc6
 clear pc0 pc1 pc3 pc4 pc5 pc6
 go_wp2_with fail
 go_region
 all_goals go_wp2_with fail
 all_goals go_ret
 all_goals exact ⟨rfl, HG.out _ (below_then B1 (by go_grown))⟩
end Go.Proofs.YtlkajejbfojkeaaGreatDoor

namespace Go.Proofs.YtlkajejbfojkeaaGreatDoor
open Go.RowKit

theorem rapply_of (R : RLoc) (S : Sto) (f : SFact) (w : World) (hx : F64 f.ex) (h : RStoreAt R S w) (hG : StoGood S) :
   Calls Tryz.prog 22 #[.pointer (some ⟨R.sb, 0, none⟩), factV f] w (RApplyEnds R (sapply S f).1 (sapply S f).2 w) := by
 cases hok : fok f with
 | false =>
   have e : sapply S f = (S, 4) := by unfold sapply; rw [if_pos hok]
   rw [e]
   exact rapply_bad R S f w hx h hok
 | true =>
   have hs : ∀ T, sput S f = some T → sapply S f = (T, 0) := fun T hT => by unfold sapply; rw [if_neg (by rw [hok]; simp), hT]
   have hn : sput S f = none → sapply S f = (S, 9) := fun hT => by unfold sapply; rw [if_neg (by rw [hok]; simp), hT]
   have hkk := fok_any hok
   by_cases k1 : f.k = 1
   · obtain ⟨f1, f2, f3⟩ := fok1 hok k1
     have fi := ctxOk_id f1
     by_cases c1 : f.an = S.node
     case neg =>
       have e : sput S f = none := by unfold sput; rw [if_pos k1, if_pos (.inl c1)]
       rw [hn e]
       exact ropen_no1 R S f w hx h hok k1 c1
     by_cases c2 : S.next ≤ f.aq
     case neg =>
       have e : sput S f = none := by unfold sput; rw [if_pos k1, if_pos (.inr (.inl (by omega)))]
       rw [hn e]
       exact ropen_no2 R S f w hx h hok k1 c1 (by omega)
     by_cases c3 : S.acts.length < 8
     case neg =>
       have e : sput S f = none := by unfold sput; rw [if_pos k1, if_pos (.inr (.inr (.inl (by omega))))]
       rw [hn e]
       exact ropen_no3 R S f w hx h hok k1 c1 c2 (by omega)
     by_cases c4 : 0 < f.pa → f.pa ≤ (S.parts.length : Int) ∧ schild S f.pa = none
     · have e : sput S f = some { S with next := f.aq + 1, acts := S.acts ++ [⟨f.an, f.aq, f.oc, f.dp, f.ex, f.pa, 0, []⟩] } := by
         unfold sput
         rw [if_pos k1, if_neg]
         rintro (e | e | e | ⟨e1, e2⟩)
         · exact e c1
         · omega
         · omega
         · obtain ⟨q1, q2⟩ := c4 e1
           rcases e2 with e2 | e2
           · omega
           · rw [q2] at e2; cases e2
       rw [hs _ e]
       by_cases c5 : 0 < f.pa
       · exact ropen_yes2 R S f w hx h hok k1 ⟨fi.2.2.1, fi.2.2.2⟩ ⟨f2, f3⟩ c1 c2 c3 c5 (c4 c5).1 (c4 c5).2
       · exact ropen_yes1 R S f w hx h hok k1 ⟨fi.2.2.1, fi.2.2.2⟩ ⟨f2, f3⟩ c1 c2 c3 (by omega)
     · have c5 : 0 < f.pa := Decidable.byContradiction fun e => c4 (fun e' => absurd e' e)
       by_cases c6 : f.pa ≤ (S.parts.length : Int)
       · cases hc : schild S f.pa with
         | none => exact absurd (fun _ => ⟨c6, hc⟩) c4
         | some i =>
           have e : sput S f = none := by unfold sput; rw [if_pos k1, if_pos (.inr (.inr (.inr ⟨c5, .inr (by rw [hc]; rfl)⟩)))]
           rw [hn e]
           exact ropen_no5 R S f w hx h hok k1 hG.acts c1 c2 c3 c5 f3 c6 i hc
       · have e : sput S f = none := by unfold sput; rw [if_pos k1, if_pos (.inr (.inr (.inr ⟨c5, .inl (by omega)⟩)))]
         rw [hn e]
         exact ropen_no4 R S f w hx h hok k1 hG.acts c1 c2 c3 c5 f3 (by omega)
   by_cases k6 : f.k = 6
   · obtain ⟨f1, f2, f3, f4, f5⟩ := fok6 hok k6
     by_cases c : f.pt = (S.parts.length : Int)
     · have e : sput S f = some { S with parts := S.parts ++ [⟨f.an, f.aq, -1, ⟨f.pr, 2, 1, 0⟩⟩] } := by unfold sput; rw [if_neg k1, if_pos k6, if_neg (by simp [c])]
       rw [hs _ e]
       exact rjoin_yes R S f w hx h hok k6 hG.parts c
     · have e : sput S f = none := by unfold sput; rw [if_neg k1, if_pos k6, if_pos c]
       rw [hn e]
       exact rjoin_no R S f w hx h hok k6 c
   by_cases k78 : f.k = 7 ∨ f.k = 8
   · have h0 : 0 ≤ f.pt := by
       rcases k78 with k | k
       · exact (fok7 hok k).1
       · exact (fok8 hok k).1
     by_cases c : f.pt < (S.parts.length : Int)
     case neg =>
       have e : sput S f = none := by
         unfold sput
         rw [if_neg k1, if_neg k6, if_pos k78, List.getElem?_eq_none (by omega)]
       rw [hn e]
       rcases k78 with k7 | k8
       · exact rnopart7 R S f w hx h hok k7 (by omega)
       · exact rnopart8 R S f w hx h hok k8 (by omega)
     obtain ⟨i, hi⟩ : ∃ i : Nat, f.pt = (i : Int) := ⟨f.pt.toNat, by omega⟩
     have hil : i < S.parts.length := by omega
     have hp : S.parts[i]? = some S.parts[i] := List.getElem?_eq_getElem hil
     have hit : f.pt.toNat = i := by omega
     obtain ⟨p, hpe⟩ : ∃ p, p = S.parts[i] := ⟨_, rfl⟩
     rw [← hpe] at hp
     by_cases k8 : f.k = 8
     · cases ht : sturn p.seat f.st f.hw with
       | none =>
         have e : sput S f = none := by
           unfold sput
           rw [if_neg k1, if_neg k6, if_pos k78, hit, hp]
           simp only
           rw [if_pos k8, ht]
           rfl
         rw [hn e]
         exact rpart8_no R S f i p w hx h hok k8 hi hp (turnOk_none ht)
       | some t =>
         have e : sput S f = some { S with parts := S.parts.set i { p with seat := t } } := by
           unfold sput
           rw [if_neg k1, if_neg k6, if_pos k78, hit, hp]
           simp only
           rw [if_pos k8, ht]
           rfl
         rw [hs _ e]
         obtain ⟨q1, q2⟩ := turnOk_some ht
         subst q2
         exact rpart8_yes R S f i p w hx h hok k8 hi hp q1
     · have k7 := k78.resolve_right k8
       by_cases hr : p.rg = -1
       · have e : sput S f = some { S with parts := S.parts.set i { p with rg := f.rg } } := by
           unfold sput
           rw [if_neg k1, if_neg k6, if_pos k78, hit, hp]
           simp only
           rw [if_neg k8, if_neg (by simp [hr])]
         rw [hs _ e]
         exact rpart7_yes R S f i p w hx h hok k7 hi hp hr
       · have e : sput S f = none := by
           unfold sput
           rw [if_neg k1, if_neg k6, if_pos k78, hit, hp]
           simp only
           rw [if_neg k8, if_pos hr]
         rw [hn e]
         exact rpart7_no R S f i p w hx h hok k7 hi hp (by have := (hG.part p (List.mem_of_getElem? hp)).2.1; omega)
   have hk4 : f.k ≠ 1 ∧ f.k ≠ 6 ∧ f.k ≠ 7 ∧ f.k ≠ 8 := ⟨k1, k6, fun e => k78 (.inl e), fun e => k78 (.inr e)⟩
   cases hi : sfind S f.an f.aq with
   | none =>
     have e : sput S f = none := by unfold sput; rw [if_neg k1, if_neg k6, if_neg k78, hi]
     rw [hn e]
     exact rapply_noact R S f w hx h hG.acts hok hk4 hi
   | some i =>
     have hil : i < S.acts.length := by unfold sfind at hi; exact (List.findIdx?_eq_some_iff_getElem.1 hi).1
     obtain ⟨a, ha⟩ : ∃ a, S.acts[i]? = some a := ⟨_, List.getElem?_eq_getElem hil⟩
     obtain ⟨x, hxi⟩ : ∃ x, R.rv[i]? = some x := ⟨_, List.getElem?_eq_getElem (by rw [h.len]; exact hil)⟩
     have hA := hG.act a (List.mem_of_getElem? ha)
     have hl := hA.len
     have hsp : sput S f = if f.k = 5 then (if (a.regs.any fun r => decide (r.seat.s ≠ 14)) = true then none else some { S with acts := S.acts.take i ++ S.acts.drop (i + 1) }) else (sact a f).map fun b => { S with acts := S.acts.set i b } := by
       unfold sput
       rw [if_neg k1, if_neg k6, if_neg k78, hi]
       simp only
       rw [ha]
     have yes : ∀ T, sput S f = some T → (∀ W, Below w.heap.size w W → Calls Tryz.prog 93 #[.pointer (some ⟨R.sb, 0, none⟩), .int .i64 (i : Int), factV f] W fun e w' => e = .returned (.bool true) ∧ RGoes R T W w') → Calls Tryz.prog 22 #[.pointer (some ⟨R.sb, 0, none⟩), factV f] w (RApplyEnds R (sapply S f).1 (sapply S f).2 w) := fun T hT hC => by
       rw [hs _ hT]
       exact rapply_act R S T f i true w hx h hG.acts hok hk4 hi hC
     have no : sput S f = none → (∀ W, Below w.heap.size w W → Calls Tryz.prog 93 #[.pointer (some ⟨R.sb, 0, none⟩), .int .i64 (i : Int), factV f] W fun e w' => e = .returned (.bool false) ∧ RGoes R S W w') → Calls Tryz.prog 22 #[.pointer (some ⟨R.sb, 0, none⟩), factV f] w (RApplyEnds R (sapply S f).1 (sapply S f).2 w) := fun hT hC => by
       rw [hn hT]
       exact rapply_act R S S f i false w hx h hG.acts hok hk4 hi hC
     have hxl : ∀ W, Below w.heap.size w W → RStoreAt R S W := fun W hW => h.below hW
     by_cases k5 : f.k = 5
     · rw [if_pos k5] at hsp
       cases hany : (a.regs.any fun r => decide (r.seat.s ≠ 14)) with
       | true =>
         rw [hany, if_pos rfl] at hsp
         exact no hsp (fun W hW => ract5_no R S f i a x W (hxl W hW) hG.acts k5 hxi ha hl hany)
       | false =>
         rw [hany, if_neg (by simp)] at hsp
         exact yes _ hsp (fun W hW => ract5_yes R S f i a x W (hxl W hW) hG.acts k5 hxi ha hl hany)
     rw [if_neg k5] at hsp
     by_cases k2 : f.k = 2
     · obtain ⟨f1, f2, f3, f4, f5, f6, f7, f8, f9⟩ := fok2 hok k2
       by_cases c1 : f.rg = (a.regs.length : Int)
       case neg =>
         have e : sact a f = none := by unfold sact; rw [if_pos k2, if_pos (.inl c1)]
         rw [e] at hsp
         exact no hsp (fun W hW => ract2_no1 R S f i a x W (hxl W hW) hG.acts k2 hxi ha c1)
       by_cases c2 : a.de = 0
       case neg =>
         have e : sact a f = none := by unfold sact; rw [if_pos k2, if_pos (.inr (.inl c2))]
         rw [e] at hsp
         exact no hsp (fun W hW => ract2_no2 R S f i a x W (hxl W hW) hG.acts k2 hxi ha c1 c2)
       cases hany : (a.regs.any fun r => decide (r.n = f.nd ∧ r.p = f.pt)) with
       | true =>
         have e : sact a f = none := by unfold sact; rw [if_pos k2, if_pos (.inr (.inr hany))]
         rw [e] at hsp
         exact no hsp (fun W hW => ract2_no3 R S f i a x W (hxl W hW) hG.acts k2 hxi ha hl c1 c2 hany)
       | false =>
         have e : sact a f = some { a with regs := a.regs ++ [⟨f.nd, f.pt, ⟨f.pr, 1, 1, 0⟩⟩] } := by
           unfold sact
           rw [if_pos k2, if_neg]
           rintro (e | e | e)
           · exact e c1
           · exact e c2
           · rw [hany] at e; cases e
         rw [e] at hsp
         exact yes _ hsp (fun W hW => ract2_yes R S f i a x W (hxl W hW) hG.acts k2 hxi ha hl c1 c2 hany)
     by_cases k3 : f.k = 3
     · obtain ⟨f1, f2, f3, f4⟩ := fok3 hok k3
       have hsa : sact a f = match a.regs[f.rg.toNat]? with
           | none => none
           | some r => (sturn r.seat f.st f.hw).map fun t => { a with regs := a.regs.set f.rg.toNat { r with seat := t } } := by
         unfold sact; rw [if_neg k2, if_pos k3]; cases a.regs[f.rg.toNat]? <;> rfl
       by_cases c1 : f.rg < (a.regs.length : Int)
       case neg =>
         have e : sact a f = none := by rw [hsa, List.getElem?_eq_none (by omega)]
         rw [e] at hsp
         exact no hsp (fun W hW => ract3_len R S f i a x W (hxl W hW) hG.acts k3 hxi ha (by omega))
       obtain ⟨j, hj⟩ : ∃ j : Nat, f.rg = (j : Int) := ⟨f.rg.toNat, by omega⟩
       have hjt : f.rg.toNat = j := by omega
       obtain ⟨r, hr⟩ : ∃ r, a.regs[j]? = some r := ⟨_, List.getElem?_eq_getElem (by omega)⟩
       rw [hjt, hr] at hsa
       simp only at hsa
       cases ht : sturn r.seat f.st f.hw with
       | none =>
         rw [ht] at hsa
         rw [hsa] at hsp
         exact no hsp (fun W hW => ract3_no R S f i a x j r W (hxl W hW) hG.acts k3 hxi ha hj hr hl (turnOk_none ht))
       | some t =>
         rw [ht] at hsa
         rw [hsa] at hsp
         obtain ⟨q1, q2⟩ := turnOk_some ht
         subst q2
         exact yes _ hsp (fun W hW => ract3_yes R S f i a x j r W (hxl W hW) hG.acts k3 hxi ha hj hr hl q1)
     have k4 : f.k = 4 := by omega
     have hsa : sact a f = if a.oc ≠ 1 ∨ a.de ≠ 0 then none else some { a with de := f.de } := by
       unfold sact; rw [if_neg k2, if_neg k3]
     by_cases c : a.oc ≠ 1 ∨ a.de ≠ 0
     · rw [hsa, if_pos c] at hsp
       exact no hsp (fun W hW => by
         by_cases c0 : a.oc = 1
         · exact ract4_no2 R S f i a x W (hxl W hW) hG.acts k4 hxi ha c0 (c.resolve_left (fun e => e c0))
         · exact ract4_no1 R S f i a x W (hxl W hW) hG.acts k4 hxi ha c0)
     · rw [hsa, if_neg c] at hsp
       exact yes _ hsp (fun W hW => ract4_yes R S f i a x W (hxl W hW) hG.acts k4 hxi ha (Decidable.byContradiction fun e => c (.inl e)) (Decidable.byContradiction fun e => c (.inr e)))
end Go.Proofs.YtlkajejbfojkeaaGreatDoor

namespace Go.Proofs.YtlkajejbfojkeaaGreatDoor
open Go.RowKit
attribute [local go_sem] store_float

def BuiltYes16 (S : Sto) (w : World) (e : Ending) (w' : World) : Prop := ∃ L R, e = .returned (.tuple #[.pointer (some ⟨L.sb, 0, none⟩), .pointer (some ⟨R.sb, 0, none⟩), .bool true]) ∧ Built L R S w w'
set_option maxRecDepth 100000 in
set_option maxHeartbeats 2000000 in
theorem built16_no (node : Int) (v : Value) (fs : List SFact) (ea : Int → Addr) (w : World) (hE : EnvS ea w) (hR : ReadFacts w v fs) (h : ¬ ((0 ≤ node ∧ node ≤ 3) ∧ fs.length ≤ 60)) : Calls Tryz.prog 37 #[.int .i64 node, v] w (Makes (.tuple #[.pointer none, .pointer none, .bool false]) w) := by
 obtain ⟨a, cap, rfl, _⟩ := hR
 obtain ⟨n, hn⟩ : ∃ n, n = fs.length := ⟨_, rfl⟩
 rw [← hn] at h ⊢
 clear hn
 by_cases hnd : 0 ≤ node ∧ node ≤ 3
 · have HN := Lib.hid (snew_yes node w hnd)
   have hl : (60 : Int) < (n : Int) := by have : ¬ n ≤ 60 := fun e => h ⟨hnd, e⟩; omega
   have d1 : decide ((60 : Int) < (n : Int)) = true := decide_eq_true hl
   have d2 : decide (60 < n) = true := decide_eq_true (by omega)
   clear hE h hnd hl
   go_enter Tryz.func37, Tryz.ntmps37
   go_wp2_with fail
   refine HN.out.mono ?_
   rintro e w1 ⟨rfl, rfl⟩
   go_wp2_with fail
   go_ret3
   exact ⟨rfl, by go_grown⟩
 · have HN := Lib.hid (snew_no node ea w hE hnd)
   clear hE h hnd
   go_enter Tryz.func37, Tryz.ntmps37
   go_wp2_with fail
   refine HN.out.mono ?_
   rintro e w1 ⟨rfl, hb1⟩
   go_wp2_with fail
   go_ret3
   exact ⟨rfl, below_then hb1 (by go_grown)⟩
set_option maxRecDepth 100000 in
set_option maxHeartbeats 4000000 in
theorem built16_yes (node : Int) (v : Value) (fs : List SFact) (ea : Int → Addr) (w : World) (hE : EnvS ea w) (hR : ReadFacts w v fs) (hF : ∀ f ∈ fs, F64 f.ex) (hnd : 0 ≤ node ∧ node ≤ 3) (hl : fs.length ≤ 60) : Calls Tryz.prog 37 #[.int .i64 node, v] w (BuiltYes16 (splay node fs) w) := by
 obtain ⟨a, cap, rfl, hcells⟩ := hR
 obtain ⟨n, hn⟩ : ∃ n, n = fs.length := ⟨_, rfl⟩
 rw [← hn] at hl ⊢
 have HC := Lib.hid hcells; have HN0 := Lib.hid hn; have HE := Lib.hid hE; have HF := Lib.hid hF
 have HN := Lib.hid (snew_yes node w hnd)
 have HG := Lib.hid (fun gs => splay_good hnd gs)
 have d1 : decide ((60 : Int) < (n : Int)) = false := decide_eq_false (by omega)
 have d2 : decide (60 < n) = false := decide_eq_false (by omega)
 clear hcells hn hE hF hnd
 go_enter Tryz.func37, Tryz.ntmps37
 go_wp2_with fail
 refine HN.out.mono ?_
 rintro e w1 ⟨rfl, rfl⟩
 have HB0 := Lib.hid (built_start (w := w) (W := w.alloc (.cells #[.int .i64 node, .int .i64 0, .slice none 0 0, .slice none 0 0] 154)) (node := node) (x := w.heap.size) (by go_grown) (Blk.fresh w _ _ _ rfl) (Nat.le_refl _) 34)
 rw [show (w.alloc (.cells #[.int .i64 node, .int .i64 0, .slice none 0 0, .slice none 0 0] 154)).heap.size = w.heap.size + 1 by simp] at HB0
 go_wp2_with fail
 clear d1 d2
 go_loopw [29] (fun i wr => ∃ k : Nat, k ≤ n ∧ i = .int .i64 (k : Nat) ∧ Hid (∃ L R, L.sb = w.heap.size ∧ R.sb = w.heap.size + 1 ∧ Built L R (splay node (fs.take k)) w wr)) (fun i _ => n - (intOf i).toNat)
 case atStart => exact ⟨0, by omega, by first | rfl | go_num, Lib.hid ⟨_, _, rfl, rfl, HB0.out⟩⟩
 case round =>
   obtain ⟨k, hk, rfl, HBU⟩ := hrel
   obtain ⟨L, R, hLb, hRb, hB⟩ := HBU.out
   by_cases hlt : k < n
   · have hks : k < fs.length := by rw [← HN0.out]; exact hlt
     obtain ⟨b, off, rfl, hbl, hfact⟩ := HC.out (by intro e; rw [e] at hks; simp at hks)
     obtain ⟨f, hf⟩ : ∃ f, f = fs[k] := ⟨_, rfl⟩
     have hat := (hfact k hks).below hB.be hbl
     rw [← hf] at hat
     have hx : F64 f.ex := HF.out f (by rw [hf]; exact List.getElem_mem hks)
     have hsn : splay node (fs.take (k + 1)) = (sapply (splay node (fs.take k)) f).1 := by
       rw [List.take_succ_eq_append_getElem hks, splay_snoc, hf]
     have HSN := Lib.hid hsn
     have HG1 := Lib.hid (HG.out (fs.take k))
     obtain ⟨S, hS⟩ : ∃ S, S = splay node (fs.take k) := ⟨_, rfl⟩
     rw [← hS] at hB HSN HG1
     obtain ⟨T, hT⟩ : ∃ T, T = (sapply S f).1 := ⟨_, rfl⟩
     rw [← hT] at HSN
     have hwr := hB.be.size
     have hLz : w.heap.size < wr.heap.size := by have := hB.st.blk.lt; omega
     have HA := Lib.hid (fun L W (hW : EnvG L ea W) (hs : StoreAt L S W) => apply_of L S f ea W hx hW hs HG1.out)
     have HRA := Lib.hid (fun R W (hs : RStoreAt R S W) => rapply_of R S f W hx hs HG1.out)
     rw [← hT] at HA HRA
     obtain ⟨en, hen⟩ : ∃ en, en = (sapply S f).2 := ⟨_, rfl⟩
     rw [← hen] at HA HRA
     have HB := Lib.hid hB
     obtain ⟨c0, c1, c2, c3, c4, c5, c6, c7, c8, c9, c10, c11, c12, c13⟩ := hat
     have hki : (k : Int) < (n : Int) := by omega
     have hk0 : (0 : Int) ≤ (k : Int) := by omega
     have hbw : b < wr.heap.size := by omega
     clear hB hfact hf hsn hS hT hen HBU hx
     obtain ⟨k', an, aq, rg, nd, pt, pr, oc, dp, pa, st, hw, de, ex⟩ := f
     dsimp only [factV, factC, ApplyEnds, RApplyEnds] at *
     go_wp2_with fail
     rw [← hLb]
     refine (HA.out L _ (envG_of HE.out (below_then HB.out.be (by go_grown)) HB.out.nl) (HB.out.st.below (by go_grown))).mono ?_
     rintro e w2 ⟨rfl, hs⟩
     obtain ⟨L2, hL2, hH, hz2, hbk⟩ := (HB.out.below (w2 := wr.alloc (.cells #[.int .i64 k', .int .i64 an, .int .i64 aq, .int .i64 rg, .int .i64 nd, .int .i64 pt, .int .i64 pr, .int .i64 oc, .int .i64 dp, .int .i64 pa, .int .i64 st, .int .i64 hw, .int .i64 de, .float .f64 ex] 39)) (by go_grown)).first hs
     have HX := Lib.hid (((Blk.fresh wr #[.int .i64 k', .int .i64 an, .int .i64 aq, .int .i64 rg, .int .i64 nd, .int .i64 pt, .int .i64 pr, .int .i64 oc, .int .i64 dp, .int .i64 pa, .int .i64 st, .int .i64 hw, .int .i64 de, .float .f64 ex] 39 _ rfl)).same hz2 (hbk _ (by simp) (fun h => by have := HB.out.st.lt _ h; omega)))
     have HH := Lib.hid hH
     have q := HX.out.cell
     have hzz := HX.out.lt
     clear hs hH hbk
     go_wp2_with fail
     rw [← hRb]
     refine (HRA.out R _ HH.out.rs).mono ?_
     rintro e w3 ⟨rfl, hs⟩
     obtain ⟨R2, hR2, hB3⟩ := HH.out.second hs
     have HB3 := Lib.hid hB3
     clear hs hB3 q
     go_wp2_with fail
     go_roundw
     case rel => exact ⟨k + 1, by omega, by go_num, Lib.hid ⟨L2, R2, by rw [hL2, hLb], by rw [hR2, hRb], by rw [HSN.out]; exact HB3.out⟩⟩
     case measure => (simp [intOf]; omega)
   · obtain rfl : k = n := by omega
     rw [show fs.take k = fs from List.take_of_length_le (by rw [← HN0.out]; exact Nat.le_refl _)] at hB
     have HB := Lib.hid hB
     clear hB
     go_wp2_with fail
     go_ret3
     refine ⟨L, R, ?_, HB.out⟩
     rw [hLb, hRb]
     rfl
set_option maxRecDepth 100000 in
set_option maxHeartbeats 4000000 in
theorem fit16_of (L : SLoc) (S : Sto) (v : Value) (fs : List SFact) (ea : Int → Addr) (w0 w : World) (hE : EnvS ea w0) (hb0 : Below w0.heap.size w0 w) (hnl : ∀ k ∈ L.foot, w0.heap.size ≤ k) (h : StoreAt L S w) (hG : StoGood S) (hR : ReadFacts w v fs) (hap : ∀ k, sliceBlock v = some k → k ∉ L.foot) (hF : ∀ f ∈ fs, F64 f.ex) (hl : fs.length ≤ 1000) : Calls Tryz.prog 38 #[.pointer (some ⟨L.sb, 0, none⟩), v] w (fun e w' => e = .returned (.bool (sfit S fs).2) ∧ SGoes L (sfit S fs).1 w w') := by
 obtain ⟨a, cap, rfl, hcells⟩ := hR
 obtain ⟨n, hn⟩ : ∃ n, n = fs.length := ⟨_, rfl⟩
 rw [← hn] at hl hap ⊢
 have HC := Lib.hid hcells; have HN0 := Lib.hid hn; have HE := Lib.hid hE; have HF := Lib.hid hF; have HB0 := Lib.hid hb0; have HNL := Lib.hid hnl; have HAP := Lib.hid hap; have H := Lib.hid h; have HG := Lib.hid hG
 have hlt0 := h.lt
 have HLT := Lib.hid hlt0
 clear hcells hn hE hF hb0 hnl hap h hG hlt0
 go_enter Tryz.func38, Tryz.ntmps38
 go_wp2_with fail
 go_loopw [9] (fun i wr => ∃ k : Nat, k ≤ n ∧ i = .int .i64 (k : Nat) ∧ Hid (∃ U, sfit S fs = sfit U (fs.drop k) ∧ StoGood U ∧ SGoes L U w wr)) (fun i _ => n - (intOf i).toNat)
 case atStart => exact ⟨0, by omega, by first | rfl | go_num, Lib.hid ⟨S, rfl, HG.out, SGoes.same H.out (by go_grown)⟩⟩
 case round =>
   obtain ⟨k, hk, rfl, HU⟩ := hrel
   obtain ⟨U, hU, hGU, hgo⟩ := HU.out
   by_cases hlt : k < n
   · have hks : k < fs.length := by rw [← HN0.out]; exact hlt
     obtain ⟨b, off, rfl, hbl, hfact⟩ := HC.out (by intro e; rw [e] at hks; simp at hks)
     obtain ⟨f, hf⟩ : ∃ f, f = fs[k] := ⟨_, rfl⟩
     obtain ⟨L1, hL1, hS1, hg1⟩ := hgo
     have hbn : b ∉ L.foot := HAP.out b rfl
     have hat := (hfact k hks).heap (hg1.block b hbl hbn)
     rw [← hf] at hat
     have hx : F64 f.ex := HF.out f (by rw [hf]; exact List.getElem_mem hks)
     have hst : sfit S fs = if (sapply U f).2 = 0 then sfit (sapply U f).1 (fs.drop (k + 1)) else ((sapply U f).1, false) := by
       rw [hU, List.drop_eq_getElem_cons hks, ← hf]
       rfl
     have hgood : StoGood (sapply U f).1 := sapply_good hGU
     have HST := Lib.hid hst
     have HGD := Lib.hid hgood
     have hz := hg1.size
     have HA := Lib.hid (fun W (hW : EnvG L1 ea W) (hs : StoreAt L1 U W) => apply_of L1 U f ea W hx hW hs hGU)
     obtain ⟨T, hT⟩ : ∃ T, T = (sapply U f).1 := ⟨_, rfl⟩
     obtain ⟨en, hen⟩ : ∃ en, en = (sapply U f).2 := ⟨_, rfl⟩
     rw [← hT, ← hen] at HA HST
     simp only [hL1] at HA
     rw [← hT] at HGD
     have hbe : Below w0.heap.size w0 wr := HB0.out.trans (hg1.below HNL.out HB0.out.size)
     have hnl1 : ∀ k ∈ L1.foot, w0.heap.size ≤ k := fun k hk => by
       rcases hg1.new k hk with e | e
       · exact HNL.out k e
       · exact Nat.le_trans HB0.out.size e
     have HBE := Lib.hid hbe; have HNL1 := Lib.hid hnl1; have HS1 := Lib.hid hS1; have HG1 := Lib.hid hg1
     obtain ⟨c0, c1, c2, c3, c4, c5, c6, c7, c8, c9, c10, c11, c12, c13⟩ := hat
     have hki : (k : Int) < (n : Int) := by omega
     have hk0 : (0 : Int) ≤ (k : Int) := by omega
     have hbw : b < wr.heap.size := by omega
     clear hfact hf hst hgood hT hen hx hU hGU hS1 hg1 hbe hnl1 HU hbn
     obtain ⟨k', an, aq, rg, nd, pt, pr, oc, dp, pa, st, hw, de, ex⟩ := f
     dsimp only [factV, factC, ApplyEnds] at *
     go_wp2_with fail
     refine (HA.out _ (envG_of HE.out (below_then HBE.out (by go_grown)) HNL1.out) (HS1.out.below (by go_grown))).mono ?_
     rintro e w2 ⟨rfl, hs⟩
     have HSG := Lib.hid (show SGoes L T w w2 by
       obtain ⟨L2, hL2, hS2, hg2⟩ := hs
       exact ⟨L2, by rw [hL2, hL1], hS2, (HG1.out.then_below (w2 := wr.alloc (.cells #[.int .i64 k', .int .i64 an, .int .i64 aq, .int .i64 rg, .int .i64 nd, .int .i64 pt, .int .i64 pr, .int .i64 oc, .int .i64 dp, .int .i64 pa, .int .i64 st, .int .i64 hw, .int .i64 de, .float .f64 ex] 39)) (by go_grown)).trans hg2⟩)
     clear hs
     by_cases h0 : en = 0
     · subst h0
       rw [if_pos rfl] at HST
       have he0 : errOf ea 0 = .nilIface := rfl
       simp only [he0]
       go_wp2_with fail
       go_roundw
       case rel => exact ⟨k + 1, by omega, by go_num, Lib.hid ⟨T, HST.out, HGD.out, HSG.out⟩⟩
       case measure => (simp [intOf]; omega)
     · rw [if_neg h0] at HST
       have he0 : errOf ea en = errV (ea en) := by unfold errOf; rw [if_neg h0]
       simp only [he0]
       go_wp2_with fail
       go_ret
       exact ⟨by rw [HST.out]; rfl, by rw [HST.out]; exact HSG.out⟩
   · obtain rfl : k = n := by omega
     rw [show fs.drop k = [] from List.drop_of_length_le (by rw [← HN0.out]; exact Nat.le_refl _)] at hU
     have HU2 := Lib.hid hU; have HGO := Lib.hid hgo
     clear hU hgo hGU HU
     go_wp2_with fail
     go_ret
     exact ⟨by rw [HU2.out]; rfl, by rw [HU2.out]; exact HGO.out⟩
end Go.Proofs.YtlkajejbfojkeaaGreatDoor

namespace Go.Proofs.YtlkajejbfojkeaaGreatDoor
open Go.RowKit
attribute [local go_sem] store_float

def fs16b : List SFact := [⟨6, 0, 0, 0, 0, 0, 1, 0, 0, 0, 0, 0, 0, 0⟩, ⟨7, 0, 0, 0, 0, 0, 0, 0, 0, 0, 0, 0, 0, 0⟩, ⟨8, 0, 0, 0, 0, 0, 0, 0, 0, 0, 5, 0, 0, 0⟩]
def m16b : SMsg := ⟨9, 0, 1, 0, 0, 0, 0, 0, 0⟩
set_option maxRecDepth 100000 in
theorem al16b : (pGet (splay 1 fs16b) 0).map (fun p => (p.an, p.aq, p.rg, p.seat)) = some (0, 0, 0, ⟨1, 2, 5, 0⟩) ∧ (splay 1 fs16b).node = 1 := by decide +kernel
set_option maxRecDepth 100000 in
theorem tl16b : (mTell ⟨1, 2, 5, 0⟩ 9).2 = 0 ∧ (mTell ⟨1, 2, 5, 0⟩ 9).1.ch = true ∧ (mTell ⟨1, 2, 5, 0⟩ 9).1.send = 0 ∧ (mTell ⟨1, 2, 5, 0⟩ 9).1.fault = 0 ∧ (mTell ⟨1, 2, 5, 0⟩ 9).1.work = 9 ∧ (mTell ⟨1, 2, 5, 0⟩ 9).1.seat.s = 6 := by decide +kernel
theorem ptell_b (L : SLoc) (S : Sto) (ea : Int → Addr) (w : World) (hE : EnvS ea w) (h : StoreAt L S w) (hl : S.parts.length ≤ 8) (hp : (pGet S 0).map (fun p => (p.an, p.aq, p.rg, p.seat)) = some (0, 0, 0, ⟨1, 2, 5, 0⟩)) (hn : S.node = 1) :
   Calls Tryz.prog 39 #[.pointer (some ⟨L.sb, 0, none⟩), msgV m16b] w (fun e w' => ∃ hw, ResEnds ⟨[fTurn 0 6 hw], [], 9⟩ w e w') := by
 cases hg : pGet S 0 with
 | none => rw [hg] at hp; cases hp
 | some p =>
   rw [hg] at hp
   simp only [Option.map_some, Option.some.injEq, Prod.mk.injEq] at hp
   obtain ⟨e1, e2, e3, e4⟩ := hp
   obtain ⟨t1, t2, t3, t4, t5, t6⟩ := tl16b
   have hFd : ∀ W, Below w.heap.size w W → Calls Tryz.prog 121 #[.pointer (some ⟨L.sb, 0, none⟩), .int .i64 m16b.pt] W (Makes (.tuple #[oneV p S.node m16b.pt, .bool true]) W) := fun W hW => pfind_any L S 0 p true W (h.below hW) (fun W' hW' => part_yes L S 0 p W' ((h.below hW).below hW') hl hg)
   have hft : fitsB p S.node m16b = true := by unfold fitsB m16b; rw [e1, e2, e3, hn]; decide
   have hT : ∀ W, Below w.heap.size w W → Calls Tryz.prog 219 #[seatV p.seat, .int .i64 m16b.k] W (Makes (.tuple #[effV (mTell ⟨1, 2, 5, 0⟩ 9).1, .nilIface]) W) := fun W hW => by
     have := tell_of p.seat 9 ea W (hE.below hW).err3
     rw [e4, t1] at this
     rw [e4]
     exact this
   have hx := tell_tt_dn (.pointer (some ⟨L.sb, 0, none⟩)) p S.node m16b w hFd hft ⟨[fTurn 0 (mTell ⟨1, 2, 5, 0⟩ 9).1.seat.s (mTell ⟨1, 2, 5, 0⟩ 9).1.seat.h], [], (mTell ⟨1, 2, 5, 0⟩ 9).1.work⟩ (by decide) (by decide) (by decide) (by decide) (fun W hW => down_1100 p S.node 0 m16b _ W (by omega) (fun W' hW' => hT W' (below_then hW hW')) t2 t3 t4)
   rw [t5, t6] at hx
   exact hx.mono fun e w' h => ⟨_, h⟩
set_option maxRecDepth 100000 in
set_option maxHeartbeats 4000000 in
theorem alive16b_of (ea : Int → Addr) (w : World) (hE : EnvS ea w) : Calls Tryz.prog 36 #[] w (Makes (.bool true) w) := by
 have hX := Blk.fresh w #[.int .i64 6, .int .i64 0, .int .i64 0, .int .i64 0, .int .i64 0, .int .i64 0, .int .i64 1, .int .i64 0, .int .i64 0, .int .i64 0, .int .i64 0, .int .i64 0, .int .i64 0, .float .f64 0, .int .i64 7, .int .i64 0, .int .i64 0, .int .i64 0, .int .i64 0, .int .i64 0, .int .i64 0, .int .i64 0, .int .i64 0, .int .i64 0, .int .i64 0, .int .i64 0, .int .i64 0, .float .f64 0, .int .i64 8, .int .i64 0, .int .i64 0, .int .i64 0, .int .i64 0, .int .i64 0, .int .i64 0, .int .i64 0, .int .i64 0, .int .i64 0, .int .i64 5, .int .i64 0, .int .i64 0, .float .f64 0] 39 _ rfl
 have hR : ReadFacts (w.alloc (.cells #[.int .i64 6, .int .i64 0, .int .i64 0, .int .i64 0, .int .i64 0, .int .i64 0, .int .i64 1, .int .i64 0, .int .i64 0, .int .i64 0, .int .i64 0, .int .i64 0, .int .i64 0, .float .f64 0, .int .i64 7, .int .i64 0, .int .i64 0, .int .i64 0, .int .i64 0, .int .i64 0, .int .i64 0, .int .i64 0, .int .i64 0, .int .i64 0, .int .i64 0, .int .i64 0, .int .i64 0, .float .f64 0, .int .i64 8, .int .i64 0, .int .i64 0, .int .i64 0, .int .i64 0, .int .i64 0, .int .i64 0, .int .i64 0, .int .i64 0, .int .i64 0, .int .i64 5, .int .i64 0, .int .i64 0, .float .f64 0] 39)) (.slice (some ⟨w.heap.size, 0, none⟩) 3 3) fs16b := ⟨_, 3, rfl, fun _ => ⟨w.heap.size, 0, rfl, hX.lt, fun j hj => by
   have hj3 : j < 3 := hj
   match j, hj3 with
   | 0, _ => exact ⟨hX.cell 0, hX.cell 1, hX.cell 2, hX.cell 3, hX.cell 4, hX.cell 5, hX.cell 6, hX.cell 7, hX.cell 8, hX.cell 9, hX.cell 10, hX.cell 11, hX.cell 12, hX.cell 13⟩
   | 1, _ => exact ⟨hX.cell 14, hX.cell 15, hX.cell 16, hX.cell 17, hX.cell 18, hX.cell 19, hX.cell 20, hX.cell 21, hX.cell 22, hX.cell 23, hX.cell 24, hX.cell 25, hX.cell 26, hX.cell 27⟩
   | 2, _ => exact ⟨hX.cell 28, hX.cell 29, hX.cell 30, hX.cell 31, hX.cell 32, hX.cell 33, hX.cell 34, hX.cell 35, hX.cell 36, hX.cell 37, hX.cell 38, hX.cell 39, hX.cell 40, hX.cell 41⟩⟩⟩
 have hF : ∀ f ∈ fs16b, F64 f.ex := by
   intro f hf
   simp only [fs16b, List.mem_cons, List.not_mem_nil, or_false] at hf
   rcases hf with rfl | rfl | rfl <;> (unfold F64; decide)
 have HB := Lib.hid (built16_yes 1 _ fs16b ea _ (hE.below (by go_grown)) hR hF (by decide) (by decide))
 have HE := Lib.hid hE
 have HG := Lib.hid (splay_good (node := 1) (by decide) fs16b)
 have HA := Lib.hid al16b
 generalize splay 1 fs16b = S at *
 clear hX hR hF hE
 go_enter Tryz.func36, Tryz.ntmps36
 go_wp2_with fail
 refine HB.out.mono ?_
 rintro e w1 ⟨L, R, rfl, hB⟩
 have B1 : Below w.heap.size w w1 := below_then (by go_grown) hB.be
 have HT := Lib.hid (ptell_b L S ea w1 (HE.out.below B1) hB.st HG.out.parts HA.out.1 HA.out.2)
 dsimp only [m16b, msgV, msgA] at HT
 clear hB
 go_wp2_with fail
 refine HT.out.mono ?_
 rintro e w2 ⟨hw, fv, mv, rfl, ho1, ho2, hb2⟩
 have B2 : Below w.heap.size w w2 := below_then B1 hb2
 obtain ⟨g, cap, rfl, _, _, hg, hc, _⟩ := row_form ho1 (by simp)
 obtain ⟨am, cm, rfl⟩ := row_slice ho2
 have c10 : w2.cell? ⟨g, 10, none⟩ = some (.int .i64 6) := by
   exact hc 10 (.int .i64 6) (by simp [factsL, factL, fTurn])
 clear hc ho1 ho2 hb2
 go_wp2_with fail
 go_ret
 exact ⟨rfl, below_then B2 (by go_grown)⟩
end Go.Proofs.YtlkajejbfojkeaaGreatDoor

namespace Go.Proofs.YtlkajejbfojkeaaGreatDoor
open Go.RowKit

set_option maxHeartbeats 1000000 in
theorem mwaits_of (x : MSeat) (ea : Int → Addr) (w : World) (h : Err3 ea w) : Calls Tryz.prog 67 #[seatV x] w (Makes (.int .i64 (mWaits x)) w) := by
 have H := Lib.hid h; clear h
 obtain ⟨r, hr⟩ : ∃ r, r = mRight x := ⟨_, rfl⟩
 have hR : ∀ W, Err3 ea W → Calls Tryz.prog 169 #[seatV x] W (Makes (.bool r) W) := fun W hw => by
   have := right_of x ea W hw
   rw [← hr] at this; exact this
 have hW : r = true → ∀ W, Err3 ea W → Calls Tryz.prog 170 #[.int .i64 x.p, .int .i64 x.d, .int .i64 x.s] W (Makes (.tuple #[.int .i64 (mWaits x), .nilIface]) W) := fun ht W hw => by
   have := waits_any x.p x.d x.s ea W hw
   have h1 : mRight x = true := by rw [← hr]; exact ht
   have h2 : (rWait x.p x.d x.s).2 = 0 := by
     unfold mRight at h1; simp only [Bool.and_eq_true, decide_eq_true_eq] at h1; exact h1.1
   have h3 : mWaits x = (rWait x.p x.d x.s).1 := by unfold mWaits; rw [h1]; rfl
   rw [h3]
   rw [h2] at this
   exact this
 have h0 : r = false → mWaits x = 0 := fun hf => by unfold mWaits; rw [← hr, hf]; rfl
 obtain ⟨k, hk⟩ : ∃ k, k = mWaits x := ⟨_, rfl⟩
 rw [← hk] at hW h0 ⊢
 clear hk hr
 obtain ⟨p, d, s, h4⟩ := x
 dsimp only [seatV] at *
 have HR := Lib.hid hR; clear hR
 cases r with
 | false =>
   rw [h0 rfl]
   clear hW h0
   go_enter Tryz.func67, Tryz.ntmps67
   go_wp2_with (go_at_call 169; refine (HR.out _ (H.out.below (by go_grown))).mono ?_; rintro e w1 ⟨rfl, hb1⟩; have B1 : Below w.heap.size w w1 := below_then (by go_grown) hb1)
   go_ret
   exact ⟨rfl, B1⟩
 | true =>
   have HW := Lib.hid (hW rfl)
   clear hW h0
   go_enter Tryz.func67, Tryz.ntmps67
   go_wp2_with (first
     | (go_at_call 169; refine (HR.out _ (H.out.below (by go_grown))).mono ?_; rintro e w1 ⟨rfl, hb1⟩; have HK1 := Lib.hid ((Blk.fresh w _ _ _ rfl).below hb1); obtain ⟨q1, f1⟩ := HK1.out.out; have B1 : Below w.heap.size w w1 := below_then (by go_grown) hb1)
     | (go_at_call 170; refine (HW.out _ (H.out.below B1)).mono ?_; rintro e w2 ⟨rfl, hb2⟩; have B2 : Below w.heap.size w w2 := below_then B1 hb2))
   go_ret
   exact ⟨rfl, B2⟩
end Go.Proofs.YtlkajejbfojkeaaGreatDoor

namespace Go.Proofs.YtlkajejbfojkeaaGreatDoor
open Go.RowKit
attribute [local go_sem] store_float

def DoEnds (ea : Int → Addr) (r : SRes) (n : Int) (w : World) (e : Ending) (w' : World) : Prop := ∃ fv mv, e = .returned (.tuple #[.agg #[fv, mv, .int .i64 r.wk], errOf ea n]) ∧ w'.ownsRow w.heap.size 39 14 fv r.fs.length (factsL r.fs) ∧ w'.ownsRow w.heap.size 81 9 mv r.ms.length (msgsL r.ms) ∧ Below w.heap.size w w'
theorem fr_wk {bs : List (Nat × Array Value)} {w W : World} (hb : Below w.heap.size w W) (hbl : ∀ x ∈ bs, Blk W x.1 x.2) (hn : (bs.map Prod.fst).Nodup) (wk : Int) (T : TypeId) : FrAt bs ⟨W.heap.size, .slice none 0 0, .slice none 0 0⟩ ⟨[], [], wk⟩ w (W.alloc (.cells #[.slice none 0 0, .slice none 0 0, .int .i64 wk] T)) := by
 refine ⟨fun x hx => (hbl x hx).alloc _, fun x hx h => ?_, hn, res_fresh W wk T, fun k hk => ?_, hb.alloc hb.size _⟩
 · have := (hbl x hx).lt
   rcases QLoc.mem.1 h with e | e | e
   · simp at e; omega
   · simp [Value.ownBlock] at e
   · simp [Value.ownBlock] at e
 · have := hb.size
   rcases QLoc.mem.1 hk with e | e | e
   · simp at e; omega
   · simp [Value.ownBlock] at e
   · simp [Value.ownBlock] at e
set_option maxRecDepth 100000 in
set_option maxHeartbeats 4000000 in
theorem do_none (sb : Value) (p : SPart) (nd pt k : Int) (ea : Int → Addr) (w : World) (hE : EnvS ea w) (hFd : ∀ W, Below w.heap.size w W → Calls Tryz.prog 121 #[sb, .int .i64 pt] W (Makes (.tuple #[oneV p nd pt, .bool false]) W)) :
   Calls Tryz.prog 46 #[sb, .int .i64 pt, .int .i64 k] w (DoEnds ea res0 8 w) := by
 have HFd := Lib.hid hFd; have HE := Lib.hid hE
 obtain ⟨an, aq, rg, ⟨sp, sd, ss, sh⟩⟩ := p
 dsimp only [oneV, seatV] at *
 clear hFd hE
 go_enter Tryz.func46, Tryz.ntmps46
 go_wp2_with fail
 refine (HFd.out _ (by go_grown)).mono ?_
 rintro e w1 ⟨rfl, hb1⟩
 have HV := Lib.hid ((Blk.fresh w #[.slice none 0 0, .slice none 0 0, .int .i64 0] 87 _ rfl).below hb1)
 have B1 : Below w.heap.size w w1 := below_then (by go_grown) hb1
 clear hb1
 have HB := Lib.hid (B1.alloc B1.size (.cells #[.int .i64 an, .int .i64 aq, .int .i64 rg, .int .i64 sp, .int .i64 sd, .int .i64 ss, .int .i64 sh, .int .i64 nd, .int .i64 pt] 205))
 have HV := Lib.hid (HV.out.alloc (.cells #[.int .i64 an, .int .i64 aq, .int .i64 rg, .int .i64 sp, .int .i64 sd, .int .i64 ss, .int .i64 sh, .int .i64 nd, .int .i64 pt] 205))
 have HPB := Lib.hid (Blk.fresh w1 #[.int .i64 an, .int .i64 aq, .int .i64 rg, .int .i64 sp, .int .i64 sd, .int .i64 ss, .int .i64 sh, .int .i64 nd, .int .i64 pt] 205 _ rfl)
 have HB1 := Lib.hid B1
 clear B1
 have q8 : (w1.alloc (.cells #[.int .i64 an, .int .i64 aq, .int .i64 rg, .int .i64 sp, .int .i64 sd, .int .i64 ss, .int .i64 sh, .int .i64 nd, .int .i64 pt] 205)).cell? ⟨7, 0, none⟩ = some (errV (ea 8)) := HE.out.e.e8.below HB.out
 have lg : 7 < w.heap.size := lt_of_cell HE.out.e.e8
 have ng : ¬ w.heap.size = 7 := by omega
 have ng2 : ¬ 7 = w.heap.size := by omega
 have HV2 := HV.out
 have qv := HV2.cell; have fv := HV2.free; have lv := HV2.lt
 clear HV2
 go_wp2_with fail
 go_region
 all_goals go_wp2_with fail
 all_goals refine bodyPost_ret (v := .tuple #[.agg #[.slice none 0 0, .slice none 0 0, .int .i64 0], errV (ea 8)]) (by simp [results, Tryz.results46, go_sem, qv, fv, lv, Nat.ne_of_lt lv]) rfl ⟨.slice none 0 0, .slice none 0 0, rfl, ?_⟩
 all_goals exact ⟨World.ownsRow_nil _ _ _ _, World.ownsRow_nil _ _ _ _, by have hB := HB1.out; have hz := hB.size; go_grown⟩
set_option maxRecDepth 100000 in
set_option maxHeartbeats 4000000 in
theorem do_off (sb : Value) (p : SPart) (nd pt k : Int) (ea : Int → Addr) (w : World) (hE : EnvS ea w) (hFd : ∀ W, Below w.heap.size w W → Calls Tryz.prog 121 #[sb, .int .i64 pt] W (Makes (.tuple #[oneV p nd pt, .bool true]) W)) (hp : p.rg < 0) :
   Calls Tryz.prog 46 #[sb, .int .i64 pt, .int .i64 k] w (DoEnds ea res0 9 w) := by
 have HFd := Lib.hid hFd; have HE := Lib.hid hE
 have hPl := fun W => placed_of p nd pt W
 rw [decide_eq_false (show ¬ 0 ≤ p.rg by omega)] at hPl
 have HPl := Lib.hid hPl
 obtain ⟨an, aq, rg, ⟨sp, sd, ss, sh⟩⟩ := p
 dsimp only [oneV, seatV] at *
 clear hFd hE hPl hp
 go_enter Tryz.func46, Tryz.ntmps46
 go_wp2_with fail
 refine (HFd.out _ (by go_grown)).mono ?_
 rintro e w1 ⟨rfl, hb1⟩
 have HV := Lib.hid ((Blk.fresh w #[.slice none 0 0, .slice none 0 0, .int .i64 0] 87 _ rfl).below hb1)
 have B1 : Below w.heap.size w w1 := below_then (by go_grown) hb1
 clear hb1
 have HB := Lib.hid (B1.alloc B1.size (.cells #[.int .i64 an, .int .i64 aq, .int .i64 rg, .int .i64 sp, .int .i64 sd, .int .i64 ss, .int .i64 sh, .int .i64 nd, .int .i64 pt] 205))
 have HV := Lib.hid (HV.out.alloc (.cells #[.int .i64 an, .int .i64 aq, .int .i64 rg, .int .i64 sp, .int .i64 sd, .int .i64 ss, .int .i64 sh, .int .i64 nd, .int .i64 pt] 205))
 have HPB := Lib.hid (Blk.fresh w1 #[.int .i64 an, .int .i64 aq, .int .i64 rg, .int .i64 sp, .int .i64 sd, .int .i64 ss, .int .i64 sh, .int .i64 nd, .int .i64 pt] 205 _ rfl)
 have HB1 := Lib.hid B1
 clear B1
 have qp := HPB.out.cell; have lp := HPB.out.lt
 go_wp2_with fail
 clear qp lp
 refine (HPl.out _).mono ?_
 rintro e w2 ⟨rfl, hb2⟩
 have HB := Lib.hid (below_then HB.out hb2); have HV := Lib.hid (HV.out.below hb2)
 clear hb2
 have q8 : w2.cell? ⟨8, 0, none⟩ = some (errV (ea 9)) := HE.out.e.e9.below HB.out
 have lg : 8 < w.heap.size := lt_of_cell HE.out.e.e9
 have ng : ¬ w.heap.size = 8 := by omega
 have ng2 : ¬ 8 = w.heap.size := by omega
 have HV2 := HV.out
 have qv := HV2.cell; have fv := HV2.free; have lv := HV2.lt
 clear HV2
 go_wp2_with fail
 go_region
 all_goals go_wp2_with fail
 all_goals refine bodyPost_ret (v := .tuple #[.agg #[.slice none 0 0, .slice none 0 0, .int .i64 0], errV (ea 9)]) (by simp [results, Tryz.results46, go_sem, qv, fv, lv, Nat.ne_of_lt lv]) rfl ⟨.slice none 0 0, .slice none 0 0, rfl, ?_⟩
 all_goals exact ⟨World.ownsRow_nil _ _ _ _, World.ownsRow_nil _ _ _ _, by have hB := HB.out; have hz := hB.size; go_grown⟩
set_option maxRecDepth 100000 in
set_option maxHeartbeats 4000000 in
theorem do_err (sb : Value) (p : SPart) (nd pt k : Int) (x : Eff) (n : Int) (ea : Int → Addr) (w : World) (hn : n ≠ 0) (hFd : ∀ W, Below w.heap.size w W → Calls Tryz.prog 121 #[sb, .int .i64 pt] W (Makes (.tuple #[oneV p nd pt, .bool true]) W)) (hp : 0 ≤ p.rg) (hD : ∀ W, Below w.heap.size w W → Calls Tryz.prog 143 #[seatV p.seat, .int .i64 k] W (Makes (.tuple #[effV x, errOf ea n]) W)) :
   Calls Tryz.prog 46 #[sb, .int .i64 pt, .int .i64 k] w (DoEnds ea res0 n w) := by
 have HFd := Lib.hid hFd
 have hPl := fun W => placed_of p nd pt W
 rw [decide_eq_true hp] at hPl
 have HPl := Lib.hid hPl
 have he : errOf ea n = errV (ea n) := by unfold errOf; rw [if_neg hn]
 unfold DoEnds
 rw [he] at hD ⊢
 have HDo := Lib.hid hD
 obtain ⟨an, aq, rg, ⟨sp, sd, ss, sh⟩⟩ := p
 obtain ⟨⟨xp, xd, xs, xh⟩, send, fault, work, cc⟩ := x
 dsimp only [oneV, seatV, effV, errV] at *
 clear hFd hD hPl hp he
 go_enter Tryz.func46, Tryz.ntmps46
 go_wp2_with fail
 refine (HFd.out _ (by go_grown)).mono ?_
 rintro e w1 ⟨rfl, hb1⟩
 have HV := Lib.hid ((Blk.fresh w #[.slice none 0 0, .slice none 0 0, .int .i64 0] 87 _ rfl).below hb1)
 have B1 : Below w.heap.size w w1 := below_then (by go_grown) hb1
 clear hb1
 have HB := Lib.hid (B1.alloc B1.size (.cells #[.int .i64 an, .int .i64 aq, .int .i64 rg, .int .i64 sp, .int .i64 sd, .int .i64 ss, .int .i64 sh, .int .i64 nd, .int .i64 pt] 205))
 have HV := Lib.hid (HV.out.alloc (.cells #[.int .i64 an, .int .i64 aq, .int .i64 rg, .int .i64 sp, .int .i64 sd, .int .i64 ss, .int .i64 sh, .int .i64 nd, .int .i64 pt] 205))
 have HPB := Lib.hid (Blk.fresh w1 #[.int .i64 an, .int .i64 aq, .int .i64 rg, .int .i64 sp, .int .i64 sd, .int .i64 ss, .int .i64 sh, .int .i64 nd, .int .i64 pt] 205 _ rfl)
 clear B1
 have qp := HPB.out.cell; have lp := HPB.out.lt
 go_wp2_with fail
 clear qp lp
 refine (HPl.out _).mono ?_
 rintro e w2 ⟨rfl, hb2⟩
 have HB := Lib.hid (below_then HB.out hb2); have HV := Lib.hid (HV.out.below hb2); have HPB := Lib.hid (HPB.out.below hb2)
 clear hb2
 have qp := HPB.out.cell; have lp := HPB.out.lt
 go_wp2_with fail
 clear qp lp
 refine (HDo.out _ HB.out).mono ?_
 rintro e w3 ⟨rfl, hb3⟩
 have HB := Lib.hid (below_then HB.out hb3)
 have HV := Lib.hid ((HV.out.below hb3).alloc (.cells #[.int .i64 xp, .int .i64 xd, .int .i64 xs, .int .i64 xh, .int .i64 send, .int .i64 fault, .int .i64 work, .bool cc] 224))
 clear hb3
 have HV2 := HV.out
 have qv := HV2.cell; have fv := HV2.free; have lv := HV2.lt
 clear HV2
 go_wp2_with fail
 all_goals refine bodyPost_ret (v := .tuple #[.agg #[.slice none 0 0, .slice none 0 0, .int .i64 0], errV (ea n)]) (by simp [results, Tryz.results46, go_sem, errV, qv, fv, lv, Nat.ne_of_lt lv]) rfl ⟨.slice none 0 0, .slice none 0 0, rfl, ?_⟩
 all_goals exact ⟨World.ownsRow_nil _ _ _ _, World.ownsRow_nil _ _ _ _, by have hB := HB.out; have hz := hB.size; go_grown⟩
set_option maxRecDepth 100000 in
set_option maxHeartbeats 4000000 in
theorem do_ok (sb : Value) (p : SPart) (nd pt k : Int) (x : Eff) (ea : Int → Addr) (w : World) (hFd : ∀ W, Below w.heap.size w W → Calls Tryz.prog 121 #[sb, .int .i64 pt] W (Makes (.tuple #[oneV p nd pt, .bool true]) W)) (hp : 0 ≤ p.rg) (hD : ∀ W, Below w.heap.size w W → Calls Tryz.prog 143 #[seatV p.seat, .int .i64 k] W (Makes (.tuple #[effV x, .nilIface]) W)) :
   Calls Tryz.prog 46 #[sb, .int .i64 pt, .int .i64 k] w (DoEnds ea ⟨[fTurn pt x.seat.s x.seat.h], [⟨x.send, nd, p.an, p.an, p.aq, p.rg, pt, 0, 0⟩], x.work⟩ 0 w) := by
 have HFd := Lib.hid hFd
 have hPl := fun W => placed_of p nd pt W
 rw [decide_eq_true hp] at hPl
 have HPl := Lib.hid hPl
 have HTu := Lib.hid (fun W => pturned_of p nd pt x.seat W)
 have HRt := Lib.hid (fun Q r W h hl => remember_of Q r (fTurn pt x.seat.s x.seat.h) W h hl)
 have hM := fun W => message_of p nd pt x.send W
 rw [show max p.rg 0 = p.rg by omega] at hM
 have HMs := Lib.hid hM
 have HSm := Lib.hid (fun Q r W h hl => send_of Q r ⟨x.send, nd, p.an, p.an, p.aq, p.rg, pt, 0, 0⟩ W h hl)
 clear hM
 unfold DoEnds
 rw [show errOf ea 0 = .nilIface from rfl]
 have HDo := Lib.hid hD
 obtain ⟨an, aq, rg, ⟨sp, sd, ss, sh⟩⟩ := p
 obtain ⟨⟨xp, xd, xs, xh⟩, send, fault, work, cc⟩ := x
 dsimp only [oneV, seatV, effV, msgV, msgA, factV, factC, fTurn] at *
 clear hFd hD hPl hp
 go_enter Tryz.func46, Tryz.ntmps46
 go_wp2_with fail
 refine (HFd.out _ (by go_grown)).mono ?_
 rintro e w1 ⟨rfl, hb1⟩
 have HV := Lib.hid ((Blk.fresh w #[.slice none 0 0, .slice none 0 0, .int .i64 0] 87 _ rfl).below hb1)
 have HLW : Hid (w.heap.size < w1.heap.size) := Lib.hid HV.out.lt
 have B1 : Below w.heap.size w w1 := below_then (by go_grown) hb1
 clear hb1
 have HB := Lib.hid (B1.alloc B1.size (.cells #[.int .i64 an, .int .i64 aq, .int .i64 rg, .int .i64 sp, .int .i64 sd, .int .i64 ss, .int .i64 sh, .int .i64 nd, .int .i64 pt] 205))
 have HV := Lib.hid (HV.out.alloc (.cells #[.int .i64 an, .int .i64 aq, .int .i64 rg, .int .i64 sp, .int .i64 sd, .int .i64 ss, .int .i64 sh, .int .i64 nd, .int .i64 pt] 205))
 have HPB := Lib.hid (Blk.fresh w1 #[.int .i64 an, .int .i64 aq, .int .i64 rg, .int .i64 sp, .int .i64 sd, .int .i64 ss, .int .i64 sh, .int .i64 nd, .int .i64 pt] 205 _ rfl)
 clear B1
 have qp := HPB.out.cell; have lp := HPB.out.lt
 go_wp2_with fail
 clear qp lp
 refine (HPl.out _).mono ?_
 rintro e w2 ⟨rfl, hb2⟩
 have HB := Lib.hid (below_then HB.out hb2); have HV := Lib.hid (HV.out.below hb2); have HPB := Lib.hid (HPB.out.below hb2)
 clear hb2
 have qp := HPB.out.cell; have lp := HPB.out.lt
 go_wp2_with fail
 clear qp lp
 refine (HDo.out _ HB.out).mono ?_
 rintro e w3 ⟨rfl, hb3⟩
 have HB := Lib.hid (below_then HB.out hb3)
 have HF := Lib.hid (fr_wk (bs := [(w.heap.size, #[.slice none 0 0, .slice none 0 0, .int .i64 0]), (w1.heap.size, #[.int .i64 an, .int .i64 aq, .int .i64 rg, .int .i64 sp, .int .i64 sd, .int .i64 ss, .int .i64 sh, .int .i64 nd, .int .i64 pt]), (w3.heap.size, #[.int .i64 xp, .int .i64 xd, .int .i64 xs, .int .i64 xh, .int .i64 send, .int .i64 fault, .int .i64 work, .bool cc])]) (w := w) (W := (w3.alloc (.cells #[.int .i64 xp, .int .i64 xd, .int .i64 xs, .int .i64 xh, .int .i64 send, .int .i64 fault, .int .i64 work, .bool cc] 224))) (HB.out.alloc HB.out.size _) (by
   intro y hy
   simp only [List.mem_cons, List.not_mem_nil, or_false] at hy
   rcases hy with rfl | rfl | rfl
   · exact (HV.out.below hb3).alloc _
   · exact (HPB.out.below hb3).alloc _
   · exact Blk.fresh _ _ _ _ rfl) (by have h1 := HPB.out.lt; have h2 := hb3.size; have h3 := HLW.out; simp; omega) work 87)
 clear hb3
 rw [show (w3.alloc (.cells #[.int .i64 xp, .int .i64 xd, .int .i64 xs, .int .i64 xh, .int .i64 send, .int .i64 fault, .int .i64 work, .bool cc] 224)).heap.size = w3.heap.size + 1 by simp] at HF
 have hlt := HF.out.lt
 dsimp only at hlt
 have qv := (HF.out.bl (w.heap.size, #[.slice none 0 0, .slice none 0 0, .int .i64 0]) (by simp)).cell; have fv := (HF.out.bl (w.heap.size, #[.slice none 0 0, .slice none 0 0, .int .i64 0]) (by simp)).free; have lv := (HF.out.bl (w.heap.size, #[.slice none 0 0, .slice none 0 0, .int .i64 0]) (by simp)).lt
 have qp := (HF.out.bl (w1.heap.size, #[.int .i64 an, .int .i64 aq, .int .i64 rg, .int .i64 sp, .int .i64 sd, .int .i64 ss, .int .i64 sh, .int .i64 nd, .int .i64 pt]) (by simp)).cell; have fp := (HF.out.bl (w1.heap.size, #[.int .i64 an, .int .i64 aq, .int .i64 rg, .int .i64 sp, .int .i64 sd, .int .i64 ss, .int .i64 sh, .int .i64 nd, .int .i64 pt]) (by simp)).free; have lp := (HF.out.bl (w1.heap.size, #[.int .i64 an, .int .i64 aq, .int .i64 rg, .int .i64 sp, .int .i64 sd, .int .i64 ss, .int .i64 sh, .int .i64 nd, .int .i64 pt]) (by simp)).lt
 have qe := (HF.out.bl (w3.heap.size, #[.int .i64 xp, .int .i64 xd, .int .i64 xs, .int .i64 xh, .int .i64 send, .int .i64 fault, .int .i64 work, .bool cc]) (by simp)).cell; have fe := (HF.out.bl (w3.heap.size, #[.int .i64 xp, .int .i64 xd, .int .i64 xs, .int .i64 xh, .int .i64 send, .int .i64 fault, .int .i64 work, .bool cc]) (by simp)).free; have le := (HF.out.bl (w3.heap.size, #[.int .i64 xp, .int .i64 xd, .int .i64 xs, .int .i64 xh, .int .i64 send, .int .i64 fault, .int .i64 work, .bool cc]) (by simp)).lt
 dsimp only at qv fv lv qp fp lp qe fe le
 go_wp2_with fail
 clear hlt qv fv lv qp fp lp qe fe le
 refine (HTu.out _).mono ?_
 rintro e w4 ⟨rfl, hb4⟩
 have HF := Lib.hid (HF.out.below hb4)
 clear hb4
 have hlt := HF.out.lt
 dsimp only at hlt
 have qv := (HF.out.bl (w.heap.size, #[.slice none 0 0, .slice none 0 0, .int .i64 0]) (by simp)).cell; have fv := (HF.out.bl (w.heap.size, #[.slice none 0 0, .slice none 0 0, .int .i64 0]) (by simp)).free; have lv := (HF.out.bl (w.heap.size, #[.slice none 0 0, .slice none 0 0, .int .i64 0]) (by simp)).lt
 have qp := (HF.out.bl (w1.heap.size, #[.int .i64 an, .int .i64 aq, .int .i64 rg, .int .i64 sp, .int .i64 sd, .int .i64 ss, .int .i64 sh, .int .i64 nd, .int .i64 pt]) (by simp)).cell; have fp := (HF.out.bl (w1.heap.size, #[.int .i64 an, .int .i64 aq, .int .i64 rg, .int .i64 sp, .int .i64 sd, .int .i64 ss, .int .i64 sh, .int .i64 nd, .int .i64 pt]) (by simp)).free; have lp := (HF.out.bl (w1.heap.size, #[.int .i64 an, .int .i64 aq, .int .i64 rg, .int .i64 sp, .int .i64 sd, .int .i64 ss, .int .i64 sh, .int .i64 nd, .int .i64 pt]) (by simp)).lt
 have qe := (HF.out.bl (w3.heap.size, #[.int .i64 xp, .int .i64 xd, .int .i64 xs, .int .i64 xh, .int .i64 send, .int .i64 fault, .int .i64 work, .bool cc]) (by simp)).cell; have fe := (HF.out.bl (w3.heap.size, #[.int .i64 xp, .int .i64 xd, .int .i64 xs, .int .i64 xh, .int .i64 send, .int .i64 fault, .int .i64 work, .bool cc]) (by simp)).free; have le := (HF.out.bl (w3.heap.size, #[.int .i64 xp, .int .i64 xd, .int .i64 xs, .int .i64 xh, .int .i64 send, .int .i64 fault, .int .i64 work, .bool cc]) (by simp)).lt
 dsimp only at qv fv lv qp fp lp qe fe le
 go_wp2_with fail
 clear hlt qv fv lv qp fp lp qe fe le
 refine (HRt.out _ _ _ HF.out.q (by simp)).mono ?_
 rintro e w5 ⟨rfl, hs5⟩
 obtain ⟨fv5, mv5, hF5⟩ := HF.out.goes hs5
 have HF := Lib.hid hF5
 clear hs5 hF5
 have hlt := HF.out.lt
 dsimp only at hlt
 have qv := (HF.out.bl (w.heap.size, #[.slice none 0 0, .slice none 0 0, .int .i64 0]) (by simp)).cell; have fv := (HF.out.bl (w.heap.size, #[.slice none 0 0, .slice none 0 0, .int .i64 0]) (by simp)).free; have lv := (HF.out.bl (w.heap.size, #[.slice none 0 0, .slice none 0 0, .int .i64 0]) (by simp)).lt
 have qp := (HF.out.bl (w1.heap.size, #[.int .i64 an, .int .i64 aq, .int .i64 rg, .int .i64 sp, .int .i64 sd, .int .i64 ss, .int .i64 sh, .int .i64 nd, .int .i64 pt]) (by simp)).cell; have fp := (HF.out.bl (w1.heap.size, #[.int .i64 an, .int .i64 aq, .int .i64 rg, .int .i64 sp, .int .i64 sd, .int .i64 ss, .int .i64 sh, .int .i64 nd, .int .i64 pt]) (by simp)).free; have lp := (HF.out.bl (w1.heap.size, #[.int .i64 an, .int .i64 aq, .int .i64 rg, .int .i64 sp, .int .i64 sd, .int .i64 ss, .int .i64 sh, .int .i64 nd, .int .i64 pt]) (by simp)).lt
 have qe := (HF.out.bl (w3.heap.size, #[.int .i64 xp, .int .i64 xd, .int .i64 xs, .int .i64 xh, .int .i64 send, .int .i64 fault, .int .i64 work, .bool cc]) (by simp)).cell; have fe := (HF.out.bl (w3.heap.size, #[.int .i64 xp, .int .i64 xd, .int .i64 xs, .int .i64 xh, .int .i64 send, .int .i64 fault, .int .i64 work, .bool cc]) (by simp)).free; have le := (HF.out.bl (w3.heap.size, #[.int .i64 xp, .int .i64 xd, .int .i64 xs, .int .i64 xh, .int .i64 send, .int .i64 fault, .int .i64 work, .bool cc]) (by simp)).lt
 dsimp only at qv fv lv qp fp lp qe fe le
 go_wp2_with fail
 clear hlt qv fv lv qp fp lp qe fe le
 refine (HMs.out _).mono ?_
 rintro e w6 ⟨rfl, hb6⟩
 have HF := Lib.hid (HF.out.below hb6)
 clear hb6
 have hlt := HF.out.lt
 dsimp only at hlt
 have qv := (HF.out.bl (w.heap.size, #[.slice none 0 0, .slice none 0 0, .int .i64 0]) (by simp)).cell; have fv := (HF.out.bl (w.heap.size, #[.slice none 0 0, .slice none 0 0, .int .i64 0]) (by simp)).free; have lv := (HF.out.bl (w.heap.size, #[.slice none 0 0, .slice none 0 0, .int .i64 0]) (by simp)).lt
 have qp := (HF.out.bl (w1.heap.size, #[.int .i64 an, .int .i64 aq, .int .i64 rg, .int .i64 sp, .int .i64 sd, .int .i64 ss, .int .i64 sh, .int .i64 nd, .int .i64 pt]) (by simp)).cell; have fp := (HF.out.bl (w1.heap.size, #[.int .i64 an, .int .i64 aq, .int .i64 rg, .int .i64 sp, .int .i64 sd, .int .i64 ss, .int .i64 sh, .int .i64 nd, .int .i64 pt]) (by simp)).free; have lp := (HF.out.bl (w1.heap.size, #[.int .i64 an, .int .i64 aq, .int .i64 rg, .int .i64 sp, .int .i64 sd, .int .i64 ss, .int .i64 sh, .int .i64 nd, .int .i64 pt]) (by simp)).lt
 have qe := (HF.out.bl (w3.heap.size, #[.int .i64 xp, .int .i64 xd, .int .i64 xs, .int .i64 xh, .int .i64 send, .int .i64 fault, .int .i64 work, .bool cc]) (by simp)).cell; have fe := (HF.out.bl (w3.heap.size, #[.int .i64 xp, .int .i64 xd, .int .i64 xs, .int .i64 xh, .int .i64 send, .int .i64 fault, .int .i64 work, .bool cc]) (by simp)).free; have le := (HF.out.bl (w3.heap.size, #[.int .i64 xp, .int .i64 xd, .int .i64 xs, .int .i64 xh, .int .i64 send, .int .i64 fault, .int .i64 work, .bool cc]) (by simp)).lt
 dsimp only at qv fv lv qp fp lp qe fe le
 go_wp2_with fail
 clear hlt qv fv lv qp fp lp qe fe le
 refine (HSm.out _ _ _ HF.out.q (by simp)).mono ?_
 rintro e w7 ⟨rfl, hs7⟩
 obtain ⟨fv7, mv7, hF7⟩ := HF.out.goes hs7
 have HF := Lib.hid hF7
 clear hs7 hF7
 obtain ⟨af, lf, cf, hfv⟩ := row_form3 HF.out.q.fs
 obtain ⟨am, lm, cm, hmv⟩ := row_form3 HF.out.q.ms
 dsimp only at hfv hmv
 subst hfv hmv
 have hlt := HF.out.lt
 dsimp only at hlt
 have qv := (HF.out.bl (w.heap.size, #[.slice none 0 0, .slice none 0 0, .int .i64 0]) (by simp)).cell; have fv := (HF.out.bl (w.heap.size, #[.slice none 0 0, .slice none 0 0, .int .i64 0]) (by simp)).free; have lv := (HF.out.bl (w.heap.size, #[.slice none 0 0, .slice none 0 0, .int .i64 0]) (by simp)).lt
 have qp := (HF.out.bl (w1.heap.size, #[.int .i64 an, .int .i64 aq, .int .i64 rg, .int .i64 sp, .int .i64 sd, .int .i64 ss, .int .i64 sh, .int .i64 nd, .int .i64 pt]) (by simp)).cell; have fp := (HF.out.bl (w1.heap.size, #[.int .i64 an, .int .i64 aq, .int .i64 rg, .int .i64 sp, .int .i64 sd, .int .i64 ss, .int .i64 sh, .int .i64 nd, .int .i64 pt]) (by simp)).free; have lp := (HF.out.bl (w1.heap.size, #[.int .i64 an, .int .i64 aq, .int .i64 rg, .int .i64 sp, .int .i64 sd, .int .i64 ss, .int .i64 sh, .int .i64 nd, .int .i64 pt]) (by simp)).lt
 have qe := (HF.out.bl (w3.heap.size, #[.int .i64 xp, .int .i64 xd, .int .i64 xs, .int .i64 xh, .int .i64 send, .int .i64 fault, .int .i64 work, .bool cc]) (by simp)).cell; have fe := (HF.out.bl (w3.heap.size, #[.int .i64 xp, .int .i64 xd, .int .i64 xs, .int .i64 xh, .int .i64 send, .int .i64 fault, .int .i64 work, .bool cc]) (by simp)).free; have le := (HF.out.bl (w3.heap.size, #[.int .i64 xp, .int .i64 xd, .int .i64 xs, .int .i64 xh, .int .i64 send, .int .i64 fault, .int .i64 work, .bool cc]) (by simp)).lt
 dsimp only at qv fv lv qp fp lp qe fe le
 have q0 := HF.out.q.blk.cell; have f0 := HF.out.q.blk.free
 dsimp only at q0 f0
 go_wp2_with fail
 refine bodyPost_ret (v := .tuple #[.agg #[.slice af lf cf, .slice am lm cm, .int .i64 work], .nilIface]) (by simp [results, Tryz.results46, go_sem, qv, fv, lv, Nat.ne_of_lt lv]) rfl ⟨_, _, rfl, ?_⟩
 exact HF.out.ends (b := w.heap.size) (C := #[.slice none 0 0, .slice none 0 0, .int .i64 0]) (by simp) (Nat.le_refl _) _ _ _
theorem pdo_of (L : SLoc) (S : Sto) (pt k : Int) (ea : Int → Addr) (w : World) (hE : EnvS ea w) (h : StoreAt L S w) (hG : StoGood S) :
   Calls Tryz.prog 46 #[.pointer (some ⟨L.sb, 0, none⟩), .int .i64 pt, .int .i64 k] w (DoEnds ea (pDo S pt k).1 (pDo S pt k).2 w) := by
 have hl := hG.parts
 unfold pDo
 cases hp : pGet S pt with
 | none => exact do_none _ part0 S.node pt k ea w hE (fun W hW => pfind_any L S pt part0 false W (h.below hW) (fun W' hW' => part_no L S pt W' ((h.below hW).below hW') hp))
 | some p =>
   have hFd : ∀ W, Below w.heap.size w W → Calls Tryz.prog 121 #[.pointer (some ⟨L.sb, 0, none⟩), .int .i64 pt] W (Makes (.tuple #[oneV p S.node pt, .bool true]) W) := fun W hW => pfind_any L S pt p true W (h.below hW) (fun W' hW' => part_yes L S pt p W' ((h.below hW).below hW') hl hp)
   have hD : ∀ W, Below w.heap.size w W → Calls Tryz.prog 143 #[seatV p.seat, .int .i64 k] W (Makes (.tuple #[effV (mDo p.seat k).1, errOf ea (mDo p.seat k).2]) W) := fun W hW => do_of p.seat k ea W (hE.below hW).err3 (hE.e.e9.below hW)
   simp only
   by_cases hr : p.rg < 0
   · rw [if_pos hr]
     exact do_off _ p S.node pt k ea w hE hFd hr
   · rw [if_neg hr]
     by_cases hk : (mDo p.seat k).2 = 0
     · rw [if_neg (by simp [hk])]
       rw [hk] at hD
       exact do_ok _ p S.node pt k _ ea w hFd (by omega) hD
     · rw [if_pos hk]
       exact do_err _ p S.node pt k _ _ ea w hk hFd (by omega) hD
end Go.Proofs.YtlkajejbfojkeaaGreatDoor
