/- StoS, RstA, BuA, RstB, RstC, RstU, RfcA -/
import Derived.Test.YtlkajejbfojkeaaGreatDoorRows
import Derived.WalkKit
import Derived.WalkSpells
import Derived.WalkLawsBesides
import Derived.BigQuiet
import Derived.Deep.QuietTactic
import Derived.StillTailTactics
import Derived.Handy
import Derived.Lib.Hide
import Derived.Test.YtlkajejbfojkeaaGreatDoorSStoQ
import Derived.Test.YtlkajejbfojkeaaGreatDoorSStoF
import Derived.Test.YtlkajejbfojkeaaGreatDoorSStoH
import Derived.Test.YtlkajejbfojkeaaGreatDoorSStoKToStoI
import Derived.Test.YtlkajejbfojkeaaGreatDoorSStoLToStoD
import Derived.Test.YtlkajejbfojkeaaGreatDoorSToldBToStoN
import Derived.Test.YtlkajejbfojkeaaGreatDoorSStoUToPaB
import Derived.Test.YtlkajejbfojkeaaGreatDoorSStoBToFacE
import Derived.Test.YtlkajejbfojkeaaGreatDoorSFacB
import Derived.Test.YtlkajejbfojkeaaGreatDoorSFacDToStoC
import Derived.Test.YtlkajejbfojkeaaGreatDoorSMovCToTold
import Derived.Deep.RegionHeld3
set_option linter.unusedSimpArgs false
set_option linter.unusedVariables false
namespace Go.Proofs.YtlkajejbfojkeaaGreatDoor
open Go.RowKit

theorem EnvS.err3 {ea : Int → Addr} {w : World} (h : EnvS ea w) : Err3 ea w := ⟨h.e.e1, h.e.e4, h.e.e14⟩
theorem ends_ok {L : SLoc} {T : Sto} {ea : Int → Addr} {w : World} {P : Sto × Int} (h : P = (T, 0)) : ApplyEnds L T (if true = true then 0 else 9) ea w = ApplyEnds L P.1 P.2 ea w := by rw [h]; rfl
theorem ends_no {L : SLoc} {T : Sto} {ea : Int → Addr} {w : World} {P : Sto × Int} (h : P = (T, 9)) : ApplyEnds L T (if false = true then 0 else 9) ea w = ApplyEnds L P.1 P.2 ea w := by rw [h]; rfl
theorem apply_of (L : SLoc) (S : Sto) (f : SFact) (ea : Int → Addr) (w : World) (hx : F64 f.ex) (hE : EnvG L ea w) (h : StoreAt L S w) (hG : StoGood S) :
   Calls Tryz.prog 21 #[.pointer (some ⟨L.sb, 0, none⟩), factV f] w (ApplyEnds L (sapply S f).1 (sapply S f).2 ea w) := by
 cases hok : fok f with
 | false =>
   have e : sapply S f = (S, 4) := by unfold sapply; rw [if_pos hok]
   rw [e]
   exact apply_bad L S f ea w hx hE h hok
 | true =>
   have hs : ∀ T, sput S f = some T → sapply S f = (T, 0) := fun T hT => by unfold sapply; rw [if_neg (by rw [hok]; simp), hT]
   have hn : sput S f = none → sapply S f = (S, 9) := fun hT => by unfold sapply; rw [if_neg (by rw [hok]; simp), hT]
   have hkk := fok_any hok
   by_cases k1 : f.k = 1
   · obtain ⟨f1, f2, f3⟩ := fok1 hok k1
     have fi := ctxOk_id f1
     by_cases c1 : f.an = S.node
     case neg =>
       have e : sput S f = none := by unfold sput; rw [if_pos k1, if_pos (.inl c1)]
       rw [← ends_no (hn e)]
       exact apply_open L S f false ea w hx hE hok k1 (fun W hW => (opened_no1 L S f W (h.below hW) hG ⟨f2, f3⟩ c1))
     by_cases c2 : S.next ≤ f.aq
     case neg =>
       have e : sput S f = none := by unfold sput; rw [if_pos k1, if_pos (.inr (.inl (by omega)))]
       rw [← ends_no (hn e)]
       exact apply_open L S f false ea w hx hE hok k1 (fun W hW => (opened_no2 L S f W (h.below hW) hG ⟨f2, f3⟩ c1 (by omega)))
     by_cases c3 : S.acts.length < 8
     case neg =>
       have e : sput S f = none := by unfold sput; rw [if_pos k1, if_pos (.inr (.inr (.inl (by omega))))]
       rw [← ends_no (hn e)]
       exact apply_open L S f false ea w hx hE hok k1 (fun W hW => (opened_no3 L S f W (h.below hW) hG ⟨f2, f3⟩ c1 c2 (by omega)))
     by_cases c4 : 0 < f.pa → f.pa ≤ (S.parts.length : Int) ∧ schild S f.pa = none
     · have e : sput S f = some { S with next := f.aq + 1, acts := S.acts ++ [⟨f.an, f.aq, f.oc, f.dp, f.ex, f.pa, 0, []⟩] } := by
         unfold sput
         rw [if_pos k1, if_neg]
         rintro (e | e | e | ⟨e1, e2⟩)
         · exact e c1
         · omega
         · omega
         · obtain ⟨q1, q2⟩ := c4 e1
           rcases e2 with e2 | e2
           · omega
           · rw [q2] at e2; cases e2
       rw [← ends_ok (hs _ e)]
       exact apply_open L _ f true ea w hx hE hok k1 (fun W hW => (opened_yes L S f W (h.below hW) hG ⟨fi.2.2.1, fi.2.2.2⟩ ⟨f2, f3⟩ c1 c2 c3 c4))
     · have c5 : 0 < f.pa := Decidable.byContradiction fun e => c4 (fun e' => absurd e' e)
       by_cases c6 : f.pa ≤ (S.parts.length : Int)
       · cases hc : schild S f.pa with
         | none => exact absurd (fun _ => ⟨c6, hc⟩) c4
         | some i =>
           have e : sput S f = none := by unfold sput; rw [if_pos k1, if_pos (.inr (.inr (.inr ⟨c5, .inr (by rw [hc]; rfl)⟩)))]
           rw [← ends_no (hn e)]
           exact apply_open L S f false ea w hx hE hok k1 (fun W hW => (opened_no5 L S f W (h.below hW) hG ⟨f2, f3⟩ i c1 c2 c3 c5 c6 hc))
       · have e : sput S f = none := by unfold sput; rw [if_pos k1, if_pos (.inr (.inr (.inr ⟨c5, .inl (by omega)⟩)))]
         rw [← ends_no (hn e)]
         exact apply_open L S f false ea w hx hE hok k1 (fun W hW => (opened_no4 L S f W (h.below hW) hG ⟨f2, f3⟩ c1 c2 c3 c5 (by omega)))
   by_cases k6 : f.k = 6
   · obtain ⟨f1, f2, f3, f4, f5⟩ := fok6 hok k6
     by_cases c : f.pt = (S.parts.length : Int)
     · have e : sput S f = some { S with parts := S.parts ++ [⟨f.an, f.aq, -1, ⟨f.pr, 2, 1, 0⟩⟩] } := by unfold sput; rw [if_neg k1, if_pos k6, if_neg (by simp [c])]
       rw [← ends_ok (hs _ e)]
       exact apply_join L _ f true ea w hx hE hok k6 (fun W hW => (joined_yes L S f W (h.below hW) hG ⟨f4, f5⟩ c))
     · have e : sput S f = none := by unfold sput; rw [if_neg k1, if_pos k6, if_pos c]
       rw [← ends_no (hn e)]
       exact apply_join L S f false ea w hx hE hok k6 (fun W hW => (joined_no L S f W (h.below hW) hG ⟨f4, f5⟩ c))
   by_cases k78 : f.k = 7 ∨ f.k = 8
   · have h0 : 0 ≤ f.pt := by
       rcases k78 with k | k
       · exact (fok7 hok k).1
       · exact (fok8 hok k).1
     by_cases c : f.pt < (S.parts.length : Int)
     case neg =>
       have e : sput S f = none := by
         unfold sput
         rw [if_neg k1, if_neg k6, if_pos k78, List.getElem?_eq_none (by omega)]
       rw [hn e]
       exact apply_nopart L S f ea w hx hE h hok k78 (fun x => c x.2)
     obtain ⟨i, hi⟩ : ∃ i : Nat, f.pt = (i : Int) := ⟨f.pt.toNat, by omega⟩
     have hil : i < S.parts.length := by omega
     have hp : S.parts[i]? = some S.parts[i] := List.getElem?_eq_getElem hil
     have hit : f.pt.toNat = i := by omega
     obtain ⟨p, hpe⟩ : ∃ p, p = S.parts[i] := ⟨_, rfl⟩
     rw [← hpe] at hp
     by_cases k8 : f.k = 8
     · cases ht : sturn p.seat f.st f.hw with
       | none =>
         have e : sput S f = none := by
           unfold sput
           rw [if_neg k1, if_neg k6, if_pos k78, hit, hp]
           simp only
           rw [if_pos k8, ht]
           rfl
         rw [← ends_no (hn e)]
         exact apply_part L S S f false ea w hx hE h hok k78 ⟨h0, c⟩ (fun W hW => parted8_no L S f i p ea W (hE.below hW).err3 (h.below hW) k8 hi hp ht)
       | some t =>
         have e : sput S f = some { S with parts := S.parts.set i { p with seat := t } } := by
           unfold sput
           rw [if_neg k1, if_neg k6, if_pos k78, hit, hp]
           simp only
           rw [if_pos k8, ht]
           rfl
         rw [← ends_ok (hs _ e)]
         exact apply_part L S _ f true ea w hx hE h hok k78 ⟨h0, c⟩ (fun W hW => parted8_yes L S f i p t ea W (hE.below hW).err3 (h.below hW) k8 hi hp ht)
     · have k7 := k78.resolve_right k8
       by_cases hr : p.rg = -1
       · have e : sput S f = some { S with parts := S.parts.set i { p with rg := f.rg } } := by
           unfold sput
           rw [if_neg k1, if_neg k6, if_pos k78, hit, hp]
           simp only
           rw [if_neg k8, if_neg (by simp [hr])]
         rw [← ends_ok (hs _ e)]
         exact apply_part L S _ f true ea w hx hE h hok k78 ⟨h0, c⟩ (fun W hW => parted7_yes L S f i p W (h.below hW) k7 hi hp hr)
       · have e : sput S f = none := by
           unfold sput
           rw [if_neg k1, if_neg k6, if_pos k78, hit, hp]
           simp only
           rw [if_neg k8, if_pos hr]
         rw [← ends_no (hn e)]
         exact apply_part L S S f false ea w hx hE h hok k78 ⟨h0, c⟩ (fun W hW => parted7_no L S f i p W (h.below hW) k7 hi hp hr)
   have hk4 : f.k ≠ 1 ∧ f.k ≠ 6 ∧ f.k ≠ 7 ∧ f.k ≠ 8 := ⟨k1, k6, fun e => k78 (.inl e), fun e => k78 (.inr e)⟩
   cases hi : sfind S f.an f.aq with
   | none =>
     have e : sput S f = none := by unfold sput; rw [if_neg k1, if_neg k6, if_neg k78, hi]
     rw [hn e]
     exact apply_noact L S f ea w hx hE h hG hok hk4 hi
   | some i =>
     have hil : i < S.acts.length := by unfold sfind at hi; exact (List.findIdx?_eq_some_iff_getElem.1 hi).1
     obtain ⟨a, ha⟩ : ∃ a, S.acts[i]? = some a := ⟨_, List.getElem?_eq_getElem hil⟩
     obtain ⟨x, hxi⟩ : ∃ x, L.ab[i]? = some x := ⟨_, List.getElem?_eq_getElem (by rw [h.len]; exact hil)⟩
     have hA := hG.act a (List.mem_of_getElem? ha)
     have hl := hA.len
     have hsp : sput S f = if f.k = 5 then (if (a.regs.any fun r => decide (r.seat.s ≠ 14)) = true then none else some { S with acts := S.acts.take i ++ S.acts.drop (i + 1) }) else (sact a f).map fun b => { S with acts := S.acts.set i b } := by
       unfold sput
       rw [if_neg k1, if_neg k6, if_neg k78, hi]
       simp only
       rw [ha]
     have yes : ∀ T, sput S f = some T → (∀ W, Below w.heap.size w W → Calls Tryz.prog 89 #[.pointer (some ⟨L.sb, 0, none⟩), .pointer (some ⟨x.1, 0, none⟩), factV f] W fun e w' => e = .returned (.bool true) ∧ SGoes L T W w') → Calls Tryz.prog 21 #[.pointer (some ⟨L.sb, 0, none⟩), factV f] w (ApplyEnds L (sapply S f).1 (sapply S f).2 ea w) := fun T hT hC => by
       rw [← ends_ok (hs _ hT)]
       exact apply_act L S T f i x true ea w hx hE h hG hok hk4 hi hxi hC
     have no : sput S f = none → (∀ W, Below w.heap.size w W → Calls Tryz.prog 89 #[.pointer (some ⟨L.sb, 0, none⟩), .pointer (some ⟨x.1, 0, none⟩), factV f] W fun e w' => e = .returned (.bool false) ∧ SGoes L S W w') → Calls Tryz.prog 21 #[.pointer (some ⟨L.sb, 0, none⟩), factV f] w (ApplyEnds L (sapply S f).1 (sapply S f).2 ea w) := fun hT hC => by
       rw [← ends_no (hn hT)]
       exact apply_act L S S f i x false ea w hx hE h hG hok hk4 hi hxi hC
     have hxl : ∀ W, Below w.heap.size w W → StoreAt L S W := fun W hW => h.below hW
     by_cases k5 : f.k = 5
     · rw [if_pos k5] at hsp
       cases hany : (a.regs.any fun r => decide (r.seat.s ≠ 14)) with
       | true =>
         rw [hany, if_pos rfl] at hsp
         exact no hsp (fun W hW => acted_5n L S f i x a W (hxl W hW) hxi ha hl k5 hany)
       | false =>
         rw [hany, if_neg (by simp)] at hsp
         exact yes _ hsp (fun W hW => acted_5y L S f i x a W (hxl W hW) hG hxi ha hl k5 hany)
     rw [if_neg k5] at hsp
     by_cases k2 : f.k = 2
     · obtain ⟨f1, f2, f3, f4, f5, f6, f7, f8, f9⟩ := fok2 hok k2
       by_cases c1 : f.rg = (a.regs.length : Int)
       case neg =>
         have e : sact a f = none := by unfold sact; rw [if_pos k2, if_pos (.inl c1)]
         rw [e] at hsp
         exact no hsp (fun W hW => acted_2 L S f x.1 false W k2 (fun W' hW' => enrolled_no1 L S f i x a W' ((hxl W hW).below hW') hl hxi ha ⟨f8, f9⟩ c1))
       by_cases c2 : a.de = 0
       case neg =>
         have e : sact a f = none := by unfold sact; rw [if_pos k2, if_pos (.inr (.inl c2))]
         rw [e] at hsp
         exact no hsp (fun W hW => acted_2 L S f x.1 false W k2 (fun W' hW' => enrolled_no2 L S f i x a W' ((hxl W hW).below hW') hl hxi ha ⟨f8, f9⟩ c1 c2))
       cases hany : (a.regs.any fun r => decide (r.n = f.nd ∧ r.p = f.pt)) with
       | true =>
         have e : sact a f = none := by unfold sact; rw [if_pos k2, if_pos (.inr (.inr hany))]
         rw [e] at hsp
         exact no hsp (fun W hW => acted_2 L S f x.1 false W k2 (fun W' hW' => enrolled_no3 L S f i x a W' ((hxl W hW).below hW') hl hxi ha ⟨f8, f9⟩ c1 c2 hany))
       | false =>
         have e : sact a f = some { a with regs := a.regs ++ [⟨f.nd, f.pt, ⟨f.pr, 1, 1, 0⟩⟩] } := by
           unfold sact
           rw [if_pos k2, if_neg]
           rintro (e | e | e)
           · exact e c1
           · exact e c2
           · rw [hany] at e; cases e
         rw [e] at hsp
         exact yes _ hsp (fun W hW => acted_2 L _ f x.1 true W k2 (fun W' hW' => enrolled_yes L S f i x a W' ((hxl W hW).below hW') hl hxi ha ⟨f8, f9⟩ c1 c2 hany))
     by_cases k3 : f.k = 3
     · obtain ⟨f1, f2, f3, f4⟩ := fok3 hok k3
       have hsa : sact a f = match a.regs[f.rg.toNat]? with
           | none => none
           | some r => (sturn r.seat f.st f.hw).map fun t => { a with regs := a.regs.set f.rg.toNat { r with seat := t } } := by
         unfold sact; rw [if_neg k2, if_pos k3]; cases a.regs[f.rg.toNat]? <;> rfl
       by_cases c1 : f.rg < (a.regs.length : Int)
       case neg =>
         have e : sact a f = none := by rw [hsa, List.getElem?_eq_none (by omega)]
         rw [e] at hsp
         exact no hsp (fun W hW => acted_3o L S f i x a W (hxl W hW) hxi ha hl k3 (by omega))
       obtain ⟨j, hj⟩ : ∃ j : Nat, f.rg = (j : Int) := ⟨f.rg.toNat, by omega⟩
       have hjt : f.rg.toNat = j := by omega
       obtain ⟨r, hr⟩ : ∃ r, a.regs[j]? = some r := ⟨_, List.getElem?_eq_getElem (by omega)⟩
       rw [hjt, hr] at hsa
       simp only at hsa
       cases ht : sturn r.seat f.st f.hw with
       | none =>
         rw [ht] at hsa
         rw [hsa] at hsp
         exact no hsp (fun W hW => acted_3n L S f i j x a r ea W (hE.below hW).err3 (hxl W hW) hxi ha hl k3 hj hr ht)
       | some t =>
         rw [ht] at hsa
         rw [hsa] at hsp
         exact yes _ hsp (fun W hW => acted_3y L S f i j x a r t ea W (hE.below hW).err3 (hxl W hW) hxi ha hl k3 hj hr ht)
     have k4 : f.k = 4 := by omega
     have hsa : sact a f = if a.oc ≠ 1 ∨ a.de ≠ 0 then none else some { a with de := f.de } := by
       unfold sact; rw [if_neg k2, if_neg k3]
     by_cases c : a.oc ≠ 1 ∨ a.de ≠ 0
     · rw [hsa, if_pos c] at hsp
       exact no hsp (fun W hW => acted_4n L S f i x a W (hxl W hW) hxi ha k4 c)
     · rw [hsa, if_neg c] at hsp
       exact yes _ hsp (fun W hW => acted_4y L S f i x a W (hxl W hW) hxi ha k4 (Decidable.byContradiction fun e => c (.inl e)) (Decidable.byContradiction fun e => c (.inr e)))
end Go.Proofs.YtlkajejbfojkeaaGreatDoor

namespace Go.Proofs.YtlkajejbfojkeaaGreatDoor
open Go.RowKit

structure RLoc where
 sb : Nat
 av : Value
 pv : Value
 rv : List Value
def rblocks (rv : List Value) : List Nat := rv.flatMap fun v => v.ownBlock.toList
def RLoc.foot (R : RLoc) : List Nat := R.sb :: (R.av.ownBlock.toList ++ (R.pv.ownBlock.toList ++ rblocks R.rv))
def actsL (al : List SAct) (rv : List Value) : List Value := (al.zip rv).flatMap fun x => actL x.1 x.2
structure RStoreAt (R : RLoc) (S : Sto) (w : World) : Prop where
 blk : Blk w R.sb #[.int .i64 S.node, .int .i64 S.next, R.av, R.pv]
 acts : w.ownsRow 0 116 8 R.av S.acts.length (actsL S.acts R.rv)
 parts : w.ownsRow 0 166 7 R.pv S.parts.length (partsL S.parts)
 len : R.rv.length = S.acts.length
 regs : ∀ (i : Nat) (v : Value) (a : SAct), R.rv[i]? = some v → S.acts[i]? = some a → w.ownsRow 0 199 6 v a.regs.length (regsL a.regs)
 once : R.foot.Nodup
theorem mem_rblocks {rv : List Value} {k : Nat} : k ∈ rblocks rv ↔ ∃ (i : Nat) (v : Value), rv[i]? = some v ∧ v.ownBlock = some k := by
 unfold rblocks
 rw [List.mem_flatMap]
 constructor
 · rintro ⟨v, hv, hk⟩
   obtain ⟨i, hi⟩ := List.getElem?_of_mem hv
   exact ⟨i, v, hi, by simpa using hk⟩
 · rintro ⟨i, v, hi, hk⟩
   exact ⟨v, List.mem_of_getElem? hi, by simpa using hk⟩
theorem RLoc.mem {R : RLoc} {k : Nat} : k ∈ R.foot ↔ k = R.sb ∨ R.av.ownBlock = some k ∨ R.pv.ownBlock = some k ∨ k ∈ rblocks R.rv := by
 unfold RLoc.foot
 simp [List.mem_append]
theorem rfoot_nodup {R : RLoc} : R.foot.Nodup ↔ R.av.ownBlock ≠ some R.sb ∧ R.pv.ownBlock ≠ some R.sb ∧ R.sb ∉ rblocks R.rv ∧ (rblocks R.rv).Nodup ∧ (∀ k, R.av.ownBlock = some k → R.pv.ownBlock ≠ some k ∧ k ∉ rblocks R.rv) ∧ (∀ k, R.pv.ownBlock = some k → k ∉ rblocks R.rv) := by
 unfold RLoc.foot
 cases ha : R.av.ownBlock with
 | none =>
   cases hp : R.pv.ownBlock with
   | none => simp [List.nodup_cons]
   | some q => simp [List.nodup_cons]; constructor
               · rintro ⟨⟨h1, h2⟩, h3, h4⟩; exact ⟨fun e => h1 e.symm, h2, h4, h3⟩
               · rintro ⟨h1, h2, h3, h4⟩; exact ⟨⟨fun e => h1 e.symm, h2⟩, h4, h3⟩
 | some p =>
   cases hp : R.pv.ownBlock with
   | none => simp [List.nodup_cons]; constructor
             · rintro ⟨⟨h1, h2⟩, h3, h4⟩; exact ⟨fun e => h1 e.symm, h2, h4, h3⟩
             · rintro ⟨h1, h2, h3, h4⟩; exact ⟨⟨fun e => h1 e.symm, h2⟩, h4, h3⟩
   | some q => simp [List.nodup_cons]; constructor
               · rintro ⟨⟨h1, h2, h3⟩, ⟨h4, h5⟩, h6, h7⟩; exact ⟨fun e => h1 e.symm, fun e => h2 e.symm, h3, h7, ⟨fun e => h4 e.symm, h5⟩, h6⟩
               · rintro ⟨h1, h2, h3, h4, ⟨h5, h6⟩, h7⟩; exact ⟨⟨fun e => h1 e.symm, fun e => h2 e.symm, h3⟩, ⟨fun e => h5 e.symm, h6⟩, h7, h4⟩
theorem RStoreAt.lt {R : RLoc} {S : Sto} {w : World} (h : RStoreAt R S w) : ∀ k ∈ R.foot, k < w.heap.size := by
 intro k hk
 rcases RLoc.mem.1 hk with rfl | hk | hk | hk
 · exact h.blk.lt
 · exact (h.acts.lt k hk).2
 · exact (h.parts.lt k hk).2
 · obtain ⟨i, v, hi, hk⟩ := mem_rblocks.1 hk
   have hl := (List.getElem?_eq_some_iff.1 hi).1
   rw [h.len] at hl
   exact ((h.regs i v _ hi (List.getElem?_eq_getElem hl)).lt k hk).2
theorem RStoreAt.keep {R : RLoc} {S : Sto} {w w' : World} (h : RStoreAt R S w) (hz : w.heap.size ≤ w'.heap.size) (he : ∀ k ∈ R.foot, w'.heap[k]? = w.heap[k]?) : RStoreAt R S w' :=
 ⟨h.blk.same hz (he _ (RLoc.mem.2 (.inl rfl))), row_heap h.acts (fun k hk => he k (RLoc.mem.2 (.inr (.inl hk)))), row_heap h.parts (fun k hk => he k (RLoc.mem.2 (.inr (.inr (.inl hk))))), h.len, fun i v a hv ha => row_heap (h.regs i v a hv ha) (fun k hk => he k (RLoc.mem.2 (.inr (.inr (.inr (mem_rblocks.2 ⟨i, v, hv, hk⟩)))))), h.once⟩
theorem RStoreAt.below {R : RLoc} {S : Sto} {w w' : World} (h : RStoreAt R S w) (hb : Below w.heap.size w w') : RStoreAt R S w' := h.keep hb.size (fun k hk => hb.block k (h.lt k hk))
def RGoes (R : RLoc) (S' : Sto) (w w' : World) : Prop := ∃ R', R'.sb = R.sb ∧ RStoreAt R' S' w' ∧ Goes R.foot R'.foot w w'
theorem RGoes.same {R : RLoc} {S : Sto} {w w' : World} (h : RStoreAt R S w) (hb : Below w.heap.size w w') : RGoes R S w w' := ⟨R, rfl, h.below hb, .of_below hb⟩
theorem RGoes.after {R : RLoc} {S : Sto} {w w1 w' : World} (hb : Below w.heap.size w w1) (h : RGoes R S w1 w') : RGoes R S w w' := by
 obtain ⟨R', h1, h2, h3⟩ := h
 exact ⟨R', h1, h2, .after hb h3⟩
theorem RGoes.then_below {R : RLoc} {S : Sto} {w w1 w' : World} (h : RGoes R S w w1) (hb : Below w1.heap.size w1 w') : RGoes R S w w' := by
 obtain ⟨R', h1, h2, h3⟩ := h
 exact ⟨R', h1, h2.below hb, h3.then_below hb⟩
theorem RStoreAt.ne_top {R : RLoc} {S : Sto} {w : World} (h : RStoreAt R S w) : R.av.ownBlock ≠ some R.sb ∧ R.pv.ownBlock ≠ some R.sb ∧ (∀ k, R.av.ownBlock = some k → R.pv.ownBlock ≠ some k) := by
 obtain ⟨h1, h2, _, _, h5, _⟩ := rfoot_nodup.1 h.once
 exact ⟨h1, h2, fun k hk => (h5 k hk).1⟩
theorem RStoreAt.ne_regs {R : RLoc} {S : Sto} {w : World} (h : RStoreAt R S w) {i : Nat} {v : Value} (hv : R.rv[i]? = some v) : ∀ k, v.ownBlock = some k → k ≠ R.sb ∧ R.av.ownBlock ≠ some k ∧ R.pv.ownBlock ≠ some k := by
 obtain ⟨h1, h2, h3, _, h5, h6⟩ := rfoot_nodup.1 h.once
 intro k hk
 have hm : k ∈ rblocks R.rv := mem_rblocks.2 ⟨i, v, hv, hk⟩
 exact ⟨fun e => h3 (e ▸ hm), fun e => (h5 k e).2 hm, fun e => h6 k e hm⟩
theorem rblocks_cons (v : Value) (t : List Value) : rblocks (v :: t) = v.ownBlock.toList ++ rblocks t := rfl
theorem rblocks_ne {rv : List Value} (hn : (rblocks rv).Nodup) : ∀ {i j : Nat} {u v : Value}, rv[i]? = some u → rv[j]? = some v → i ≠ j → ∀ k, u.ownBlock = some k → v.ownBlock ≠ some k := by
 induction rv with
 | nil => intro i j u v h; simp at h
 | cons x t ih =>
   intro i j u v hu hv hij k hk hk2
   rw [rblocks_cons, List.nodup_append] at hn
   obtain ⟨_, h2, h3⟩ := hn
   match i, j with
   | 0, 0 => exact hij rfl
   | 0, j + 1 =>
     simp at hu hv; subst hu
     exact h3 k (by simp [hk]) k (mem_rblocks.2 ⟨j, v, hv, hk2⟩) rfl
   | i + 1, 0 =>
     simp at hu hv; subst hv
     exact h3 k (by simp [hk2]) k (mem_rblocks.2 ⟨i, u, hu, hk⟩) rfl
   | i + 1, j + 1 => exact ih h2 (by simpa using hu) (by simpa using hv) (by omega) k hk hk2
theorem RStoreAt.ne_two {R : RLoc} {S : Sto} {w : World} (h : RStoreAt R S w) {i j : Nat} {u v : Value} (hu : R.rv[i]? = some u) (hv : R.rv[j]? = some v) (hij : i ≠ j) : ∀ k, u.ownBlock = some k → v.ownBlock ≠ some k := rblocks_ne (rfoot_nodup.1 h.once).2.2.2.1 hu hv hij
def ActC (w : World) (b o : Nat) (a : SAct) (v : Value) : Prop := w.cell? ⟨b, o, none⟩ = some (.int .i64 a.an) ∧ w.cell? ⟨b, o + 1, none⟩ = some (.int .i64 a.aq) ∧ w.cell? ⟨b, o + 2, none⟩ = some (.int .i64 a.oc) ∧ w.cell? ⟨b, o + 3, none⟩ = some (.int .i64 a.dp) ∧ w.cell? ⟨b, o + 4, none⟩ = some (.float .f64 a.ex) ∧ w.cell? ⟨b, o + 5, none⟩ = some (.int .i64 a.pa) ∧ w.cell? ⟨b, o + 6, none⟩ = some (.int .i64 a.de) ∧ w.cell? ⟨b, o + 7, none⟩ = some v
theorem ActC.below {w w' : World} {b o : Nat} {a : SAct} {v : Value} (h : ActC w b o a v) (hb : Below w.heap.size w w') (hl : b < w.heap.size) : ActC w' b o a v :=
 ⟨(hb.cell (p := ⟨b, o, none⟩) hl).trans h.1, (hb.cell (p := ⟨b, o + 1, none⟩) hl).trans h.2.1, (hb.cell (p := ⟨b, o + 2, none⟩) hl).trans h.2.2.1, (hb.cell (p := ⟨b, o + 3, none⟩) hl).trans h.2.2.2.1, (hb.cell (p := ⟨b, o + 4, none⟩) hl).trans h.2.2.2.2.1, (hb.cell (p := ⟨b, o + 5, none⟩) hl).trans h.2.2.2.2.2.1, (hb.cell (p := ⟨b, o + 6, none⟩) hl).trans h.2.2.2.2.2.2.1, (hb.cell (p := ⟨b, o + 7, none⟩) hl).trans h.2.2.2.2.2.2.2⟩
theorem actL_len (x : SAct × Value) : (actL x.1 x.2).length = 8 := rfl
theorem act_row {w : World} {B : Nat} {T : TypeId} {v : Value} {n : Nat} {al : List SAct} {rv : List Value} (hl : rv.length = al.length) (h : w.ownsRow B T 8 v n (actsL al rv)) :
   ∃ a cap, v = .slice a n cap ∧ al.length = n ∧ (0 < n → ∃ g, a = some ⟨g, 0, none⟩ ∧ g < w.heap.size ∧ (∀ i, w.frozen? ⟨g, i, none⟩ = false) ∧ ∀ (j : Nat) (x : SAct) (u : Value), al[j]? = some x → rv[j]? = some u → ActC w g (j * 8) x u) := by
 have hzl : (al.zip rv).length = al.length := by rw [List.length_zip, hl, Nat.min_self]
 have hn : al.length = n := by have := h.1; unfold actsL at this; rw [flat_length _ 8 actL_len, hzl] at this; omega
 obtain ⟨a, cap, rfl⟩ := row_slice h
 refine ⟨a, cap, rfl, hn, fun h0 => ?_⟩
 obtain ⟨g, cap', he, _, _, hg, hc, hf⟩ := row_form h h0
 obtain ⟨rfl, _⟩ : a = some ⟨g, 0, none⟩ ∧ cap = cap' := by simpa using he
 refine ⟨g, rfl, hg, hf, fun j x u hx hu => ?_⟩
 obtain ⟨hj, rfl⟩ := List.getElem?_eq_some_iff.1 hx
 obtain ⟨hj2, rfl⟩ := List.getElem?_eq_some_iff.1 hu
 have hat := fun k hk => flat_at (fun x : SAct × Value => actL x.1 x.2) 8 actL_len (al.zip rv) j k (by omega) hk
 simp only [List.getElem_zip] at hat
 refine ⟨hc _ _ ?_, hc _ _ ?_, hc _ _ ?_, hc _ _ ?_, hc _ _ ?_, hc _ _ ?_, hc _ _ ?_, hc _ _ ?_⟩
 · exact hat 0 (by decide)
 · exact hat 1 (by decide)
 · exact hat 2 (by decide)
 · exact hat 3 (by decide)
 · exact hat 4 (by decide)
 · exact hat 5 (by decide)
 · exact hat 6 (by decide)
 · exact hat 7 (by decide)
end Go.Proofs.YtlkajejbfojkeaaGreatDoor

namespace Go.Proofs.YtlkajejbfojkeaaGreatDoor
open Go.RowKit
attribute [local go_sem] store_float

def FactAt (w : World) (b o : Nat) (f : SFact) : Prop := w.cell? ⟨b, o, none⟩ = some (.int .i64 f.k) ∧ w.cell? ⟨b, o + 1, none⟩ = some (.int .i64 f.an) ∧ w.cell? ⟨b, o + 2, none⟩ = some (.int .i64 f.aq) ∧ w.cell? ⟨b, o + 3, none⟩ = some (.int .i64 f.rg) ∧ w.cell? ⟨b, o + 4, none⟩ = some (.int .i64 f.nd) ∧ w.cell? ⟨b, o + 5, none⟩ = some (.int .i64 f.pt) ∧ w.cell? ⟨b, o + 6, none⟩ = some (.int .i64 f.pr) ∧ w.cell? ⟨b, o + 7, none⟩ = some (.int .i64 f.oc) ∧ w.cell? ⟨b, o + 8, none⟩ = some (.int .i64 f.dp) ∧ w.cell? ⟨b, o + 9, none⟩ = some (.int .i64 f.pa) ∧ w.cell? ⟨b, o + 10, none⟩ = some (.int .i64 f.st) ∧ w.cell? ⟨b, o + 11, none⟩ = some (.int .i64 f.hw) ∧ w.cell? ⟨b, o + 12, none⟩ = some (.int .i64 f.de) ∧ w.cell? ⟨b, o + 13, none⟩ = some (.float .f64 f.ex)
theorem FactAt.below {w w' : World} {b o : Nat} {f : SFact} (h : FactAt w b o f) (hb : Below w.heap.size w w') (hl : b < w.heap.size) : FactAt w' b o f :=
 ⟨(hb.cell (p := ⟨b, o, none⟩) hl).trans h.1, (hb.cell (p := ⟨b, o + 1, none⟩) hl).trans h.2.1, (hb.cell (p := ⟨b, o + 2, none⟩) hl).trans h.2.2.1, (hb.cell (p := ⟨b, o + 3, none⟩) hl).trans h.2.2.2.1, (hb.cell (p := ⟨b, o + 4, none⟩) hl).trans h.2.2.2.2.1, (hb.cell (p := ⟨b, o + 5, none⟩) hl).trans h.2.2.2.2.2.1, (hb.cell (p := ⟨b, o + 6, none⟩) hl).trans h.2.2.2.2.2.2.1, (hb.cell (p := ⟨b, o + 7, none⟩) hl).trans h.2.2.2.2.2.2.2.1, (hb.cell (p := ⟨b, o + 8, none⟩) hl).trans h.2.2.2.2.2.2.2.2.1, (hb.cell (p := ⟨b, o + 9, none⟩) hl).trans h.2.2.2.2.2.2.2.2.2.1, (hb.cell (p := ⟨b, o + 10, none⟩) hl).trans h.2.2.2.2.2.2.2.2.2.2.1, (hb.cell (p := ⟨b, o + 11, none⟩) hl).trans h.2.2.2.2.2.2.2.2.2.2.2.1, (hb.cell (p := ⟨b, o + 12, none⟩) hl).trans h.2.2.2.2.2.2.2.2.2.2.2.2.1, (hb.cell (p := ⟨b, o + 13, none⟩) hl).trans h.2.2.2.2.2.2.2.2.2.2.2.2.2⟩
theorem FactAt.heap {w w' : World} {b o : Nat} {f : SFact} (h : FactAt w b o f) (he : w'.heap[b]? = w.heap[b]?) : FactAt w' b o f :=
 ⟨(World.cell?_of_block (w := w) (a := ⟨b, o, none⟩) he).trans h.1, (World.cell?_of_block (w := w) (a := ⟨b, o + 1, none⟩) he).trans h.2.1, (World.cell?_of_block (w := w) (a := ⟨b, o + 2, none⟩) he).trans h.2.2.1, (World.cell?_of_block (w := w) (a := ⟨b, o + 3, none⟩) he).trans h.2.2.2.1, (World.cell?_of_block (w := w) (a := ⟨b, o + 4, none⟩) he).trans h.2.2.2.2.1, (World.cell?_of_block (w := w) (a := ⟨b, o + 5, none⟩) he).trans h.2.2.2.2.2.1, (World.cell?_of_block (w := w) (a := ⟨b, o + 6, none⟩) he).trans h.2.2.2.2.2.2.1, (World.cell?_of_block (w := w) (a := ⟨b, o + 7, none⟩) he).trans h.2.2.2.2.2.2.2.1, (World.cell?_of_block (w := w) (a := ⟨b, o + 8, none⟩) he).trans h.2.2.2.2.2.2.2.2.1, (World.cell?_of_block (w := w) (a := ⟨b, o + 9, none⟩) he).trans h.2.2.2.2.2.2.2.2.2.1, (World.cell?_of_block (w := w) (a := ⟨b, o + 10, none⟩) he).trans h.2.2.2.2.2.2.2.2.2.2.1, (World.cell?_of_block (w := w) (a := ⟨b, o + 11, none⟩) he).trans h.2.2.2.2.2.2.2.2.2.2.2.1, (World.cell?_of_block (w := w) (a := ⟨b, o + 12, none⟩) he).trans h.2.2.2.2.2.2.2.2.2.2.2.2.1, (World.cell?_of_block (w := w) (a := ⟨b, o + 13, none⟩) he).trans h.2.2.2.2.2.2.2.2.2.2.2.2.2⟩
def ReadFacts (w : World) (v : Value) (fs : List SFact) : Prop := ∃ a cap, v = .slice a fs.length cap ∧ (fs ≠ [] → ∃ b off, a = some ⟨b, off, none⟩ ∧ b < w.heap.size ∧ ∀ (j : Nat) (h : j < fs.length), FactAt w b (off + j * 14) fs[j])
def sliceBlock : Value → Option Nat
 | .slice (some a) _ _ => some a.block
 | _ => none
theorem ReadFacts.heap {w w' : World} {v : Value} {fs : List SFact} (h : ReadFacts w v fs) (hz : w.heap.size ≤ w'.heap.size) (he : ∀ k, sliceBlock v = some k → w'.heap[k]? = w.heap[k]?) : ReadFacts w' v fs := by
 obtain ⟨a, cap, rfl, h⟩ := h
 refine ⟨a, cap, rfl, fun hn => ?_⟩
 obtain ⟨b, off, rfl, hb, hf⟩ := h hn
 exact ⟨b, off, rfl, by omega, fun j hj => (hf j hj).heap (he b rfl)⟩
theorem read_row {w : World} {B : Nat} {v : Value} {fs : List SFact} (h : w.ownsRow B 39 14 v fs.length (factsL fs)) : ReadFacts w v fs ∧ ∀ k, sliceBlock v = some k → v.ownBlock = some k := by
 obtain ⟨a, cap, hv⟩ := row_slice h
 subst hv
 by_cases hn : fs = []
 · subst hn
   rcases h.2 with ⟨hv, _⟩ | ⟨g, cap', cur, hv, _⟩
   · cases hv
     exact ⟨⟨none, 0, rfl, fun h => absurd rfl h⟩, by simp [sliceBlock]⟩
   · simp only [Value.slice.injEq] at hv
     obtain ⟨rfl, _, rfl⟩ := hv
     exact ⟨⟨_, _, rfl, fun h => absurd rfl h⟩, fun k hk => by simpa [sliceBlock, Value.ownBlock] using hk⟩
 · obtain ⟨g, cap', hv, _, _, hg, hc, _⟩ := row_form h (List.length_pos_iff.2 hn)
   simp only [Value.slice.injEq, true_and] at hv
   obtain ⟨rfl, rfl⟩ := hv
   refine ⟨⟨_, _, rfl, fun _ => ⟨g, 0, rfl, hg, fun j hj => ?_⟩⟩, fun k hk => by simpa [sliceBlock, Value.ownBlock] using hk⟩
   have hat := fun i hi => flat_at factL 14 factL_len fs j i hj hi
   rw [Nat.zero_add]
   exact ⟨hc _ _ (hat 0 (by decide)), hc _ _ (hat 1 (by decide)), hc _ _ (hat 2 (by decide)), hc _ _ (hat 3 (by decide)), hc _ _ (hat 4 (by decide)), hc _ _ (hat 5 (by decide)), hc _ _ (hat 6 (by decide)), hc _ _ (hat 7 (by decide)), hc _ _ (hat 8 (by decide)), hc _ _ (hat 9 (by decide)), hc _ _ (hat 10 (by decide)), hc _ _ (hat 11 (by decide)), hc _ _ (hat 12 (by decide)), hc _ _ (hat 13 (by decide))⟩
theorem read_nil {w : World} {cap : Nat} {a : Option Addr} : ReadFacts w (.slice a 0 cap) [] := ⟨a, cap, rfl, fun h => absurd rfl h⟩
theorem envG_of {ea : Int → Addr} {w w1 : World} {L : SLoc} (hE : EnvS ea w) (hb : Below w.heap.size w w1) (hL : ∀ k ∈ L.foot, w.heap.size ≤ k) : EnvG L ea w1 :=
 fun _ _ hg => hE.below (hb.trans (hg.below hL hb.size))
def splay (node : Int) (fs : List SFact) : Sto := fs.foldl (fun S f => (sapply S f).1) ⟨node, 0, [], []⟩
theorem splay_snoc (node : Int) (fs : List SFact) (f : SFact) : splay node (fs ++ [f]) = (sapply (splay node fs) f).1 := by
 unfold splay
 rw [List.foldl_append]
 rfl
theorem splay_good {node : Int} (h : 0 ≤ node ∧ node ≤ 3) (fs : List SFact) : StoGood (splay node fs) := by
 unfold splay
 have h0 : StoGood ⟨node, 0, [], []⟩ := ⟨h, by simp, by simp, by simp, by simp, by simp, by simp, by simp⟩
 revert h0
 generalize (⟨node, 0, [], []⟩ : Sto) = S
 induction fs generalizing S with
 | nil => intro h0; exact h0
 | cons f t ih => intro h0; exact ih _ (sapply_good h0)
structure Built (L : SLoc) (R : RLoc) (S : Sto) (w w' : World) : Prop where
 st : StoreAt L S w'
 rs : RStoreAt R S w'
 ap : ∀ k ∈ L.foot, k ∉ R.foot
 nl : ∀ k ∈ L.foot, w.heap.size ≤ k
 nr : ∀ k ∈ R.foot, w.heap.size ≤ k
 be : Below w.heap.size w w'
theorem Built.below {L : SLoc} {R : RLoc} {S : Sto} {w w1 w2 : World} (h : Built L R S w w1) (hb : Below w1.heap.size w1 w2) : Built L R S w w2 := ⟨h.st.below hb, h.rs.below hb, h.ap, h.nl, h.nr, below_then h.be hb⟩
structure Half (L : SLoc) (R : RLoc) (S T : Sto) (w w' : World) : Prop where
 st : StoreAt L T w'
 rs : RStoreAt R S w'
 ap : ∀ k ∈ L.foot, k ∉ R.foot
 nl : ∀ k ∈ L.foot, w.heap.size ≤ k
 nr : ∀ k ∈ R.foot, w.heap.size ≤ k
 be : Below w.heap.size w w'
theorem Built.first {L : SLoc} {R : RLoc} {S T : Sto} {w w1 w2 : World} (h : Built L R S w w1) (hs : SGoes L T w1 w2) : ∃ L', L'.sb = L.sb ∧ Half L' R S T w w2 ∧ w1.heap.size ≤ w2.heap.size ∧ (∀ k, k < w1.heap.size → k ∉ L.foot → w2.heap[k]? = w1.heap[k]?) := by
 obtain ⟨L', h1, h2, h3⟩ := hs
 refine ⟨L', h1, ⟨h2, h.rs.keep h3.size (h3.keep h.ap h.rs.lt), h3.apart h.ap h.rs.lt, fun k hk => ?_, h.nr, h.be.trans (h3.below h.nl h.be.size)⟩, h3.size, h3.block⟩
 rcases h3.new k hk with e | e
 · exact h.nl k e
 · exact Nat.le_trans h.be.size e
theorem Half.below {L : SLoc} {R : RLoc} {S T : Sto} {w w1 w2 : World} (h : Half L R S T w w1) (hb : Below w1.heap.size w1 w2) : Half L R S T w w2 := ⟨h.st.below hb, h.rs.below hb, h.ap, h.nl, h.nr, below_then h.be hb⟩
theorem Half.second {L : SLoc} {R : RLoc} {S T : Sto} {w w1 w2 : World} (h : Half L R S T w w1) (hs : RGoes R T w1 w2) : ∃ R', R'.sb = R.sb ∧ Built L R' T w w2 := by
 obtain ⟨R', h1, h2, h3⟩ := hs
 have hap : ∀ k ∈ R.foot, k ∉ L.foot := fun k hk hl => h.ap k hl hk
 refine ⟨R', h1, h.st.keep h3.size (h3.keep hap h.st.lt), h2, fun k hk hr => h3.apart hap h.st.lt k hr hk, h.nl, fun k hk => ?_, h.be.trans (h3.below h.nr h.be.size)⟩
 rcases h3.new k hk with e | e
 · exact h.nr k e
 · exact Nat.le_trans h.be.size e
theorem built_start {w W : World} {node : Int} {x : Nat} (hb : Below w.heap.size w W) (hx : Blk W x #[.int .i64 node, .int .i64 0, .slice none 0 0, .slice none 0 0]) (hlx : w.heap.size ≤ x) (T : TypeId) :
   Built ⟨x, .slice none 0 0, .slice none 0 0, []⟩ ⟨W.heap.size, .slice none 0 0, .slice none 0 0, []⟩ ⟨node, 0, [], []⟩ w (W.alloc (.cells #[.int .i64 node, .int .i64 0, .slice none 0 0, .slice none 0 0] T)) := by
 have hxl := hx.lt
 have hbs := hb.size
 refine ⟨⟨hx.alloc _, World.ownsRow_nil _ _ _ _, World.ownsRow_nil _ _ _ _, fun i y a h => by simp at h, by simp [SLoc.foot, Value.ownBlock, blocks]⟩, ⟨Blk.fresh W _ T _ rfl, World.ownsRow_nil _ _ _ _, World.ownsRow_nil _ _ _ _, rfl, fun i y a h => by simp at h, by simp [RLoc.foot, Value.ownBlock, rblocks]⟩, fun k hk hr => ?_, fun k hk => ?_, fun k hk => ?_, hb.alloc hbs _⟩
 · simp [SLoc.foot, Value.ownBlock, blocks] at hk
   simp [RLoc.foot, Value.ownBlock, rblocks] at hr
   omega
 · simp [SLoc.foot, Value.ownBlock, blocks] at hk
   omega
 · simp [RLoc.foot, Value.ownBlock, rblocks] at hk
   omega
set_option maxRecDepth 100000 in
theorem snew_yes (node : Int) (w : World) (h : 0 ≤ node ∧ node ≤ 3) : Calls Tryz.prog 19 #[.int .i64 node] w (fun e w' => e = .returned (.tuple #[.pointer (some ⟨w.heap.size, 0, none⟩), .nilIface]) ∧ w' = w.alloc (.cells #[.int .i64 node, .int .i64 0, .slice none 0 0, .slice none 0 0] 154)) := by
 obtain ⟨h0, h3⟩ := h
 have d1 : decide (node < 0) = false := decide_eq_false (by omega)
 have d2 : decide ((4 : Int) ≤ node) = false := decide_eq_false (by omega)
 go_enter Tryz.func19, Tryz.ntmps19
 go_wp2_with fail
 go_ret2
 exact ⟨rfl, rfl⟩
set_option maxRecDepth 100000 in
theorem snew_no (node : Int) (ea : Int → Addr) (w : World) (hE : EnvS ea w) (h : ¬ (0 ≤ node ∧ node ≤ 3)) : Calls Tryz.prog 19 #[.int .i64 node] w (Makes (.tuple #[.pointer none, errV (ea 1)]) w) := by
 have e1 : w.cell? ⟨0, 0, none⟩ = some (errV (ea 1)) := hE.e.e1
 by_cases h0 : node < 0
 · have d1 : decide (node < 0) = true := decide_eq_true h0
   clear hE h
   go_enter Tryz.func19, Tryz.ntmps19
   go_wp2_with fail
   (try go_region)
   all_goals (try go_wp2_with fail)
   all_goals go_ret2
   all_goals exact ⟨rfl, by go_grown⟩
 · have d1 : decide (node < 0) = false := decide_eq_false h0
   have d2 : decide ((4 : Int) ≤ node) = true := decide_eq_true (by omega)
   clear hE h
   go_enter Tryz.func19, Tryz.ntmps19
   go_wp2_with fail
   (try go_region)
   all_goals (try go_wp2_with fail)
   all_goals go_ret2
   all_goals exact ⟨rfl, by go_grown⟩
end Go.Proofs.YtlkajejbfojkeaaGreatDoor

namespace Go.Proofs.YtlkajejbfojkeaaGreatDoor
open Go.RowKit
attribute [local go_sem] store_float

theorem row_slice3 {w : World} {B : Nat} {e : TypeId} {size : Nat} {v : Value} {n : Nat} {xs : List Value} (h : w.ownsRow B e size v n xs) : ∃ a m c, v = .slice a m c := by
 obtain ⟨a, cap, h⟩ := row_slice h
 exact ⟨a, n, cap, h⟩
set_option maxRecDepth 100000 in
set_option maxHeartbeats 2000000 in
theorem rfind_of (R : RLoc) (S : Sto) (n q : Int) (w : World) (h : RStoreAt R S w) (hl : S.acts.length ≤ 8) : Calls Tryz.prog 52 #[.pointer (some ⟨R.sb, 0, none⟩), .agg #[.int .i64 n, .int .i64 q]] w (Makes (.int .i64 (oix (sfind S n q))) w) := by
 obtain ⟨a, cap, hv, hn, hr⟩ := act_row h.len h.acts
 have c2 : w.cell? ⟨R.sb, 2, none⟩ = some (.slice a S.acts.length cap) := by rw [← hv]; exact h.blk.cell 2
 have hsb := h.blk.lt
 have HR := Lib.hid hr; have HLEN := Lib.hid h.len
 have USL := Lib.hid (fun (i : Nat) (v : Value) (hv : R.rv[i]? = some v) => row_slice3 (h.regs i v _ hv (List.getElem?_eq_getElem (by rw [← h.len]; exact (List.getElem?_eq_some_iff.1 hv).1))))
 have hf : sfind S n q = S.acts.findIdx? (fun a => decide (a.an = n ∧ a.aq = q)) := rfl
 rw [hf]
 generalize S.acts = l at *
 generalize R.rv = rv at *
 obtain ⟨m, hm⟩ : ∃ m, m = l.length := ⟨_, rfl⟩
 rw [← hm] at c2 hl HR HLEN
 have HM := Lib.hid hm
 have HB := Lib.hid (Blk.fresh w #[.int .i64 n, .int .i64 q] 36 _ rfl)
 clear hm hr hn hv h hf
 go_enter Tryz.func52, Tryz.ntmps52
 go_wp2_with fail
 go_loopw [12] (fun i wr => ∃ k : Nat, k ≤ m ∧ i = .int .i64 (k : Nat) ∧ Hid (∀ (j : Nat) (h : j < l.length), j < k → decide (l[j].an = n ∧ l[j].aq = q) = false) ∧ Hid (Blk wr w.heap.size #[.int .i64 n, .int .i64 q]) ∧ Below w.heap.size w wr) (fun i _ => m - (intOf i).toNat)
 case atStart => exact ⟨0, by omega, by first | rfl | go_num, Lib.hid (fun j _ h => absurd h (by omega)), HB, by go_grown⟩
 case round =>
   obtain ⟨k, hk, rfl, HBE, HBr, hB⟩ := hrel
   by_cases hlt : k < m
   · have hks : k < l.length := by rw [← HM.out]; exact hlt
     obtain ⟨g, rfl, hg, hfz, hcell⟩ := HR.out (by omega)
     obtain ⟨u, hu⟩ : ∃ u, rv[k]? = some u := ⟨_, List.getElem?_eq_getElem (by rw [HLEN.out]; exact hlt)⟩
     obtain ⟨x, hx⟩ : ∃ x, x = l[k] := ⟨_, rfl⟩
     have hat := (hcell k x u (by rw [hx]; exact List.getElem?_eq_getElem hks) hu).below hB hg
     obtain ⟨a0, a1, a2, a3, a4, a5, a6, a7⟩ := hat
     have hki : (k : Int) < (m : Int) := by omega
     have hk0 : (0 : Int) ≤ (k : Int) := by omega
     have hse := fun W => actEq x.an x.aq n q W
     obtain ⟨t, ht⟩ : ∃ t, t = decide (x.an = n ∧ x.aq = q) := ⟨_, rfl⟩
     rw [← ht] at hse
     rw [hx] at ht
     have HT := Lib.hid ht
     obtain ⟨b, bf⟩ := HBr.out.out
     have hzr := HBr.out.lt
     have HB2 := Lib.hid (HBr.out.alloc (.cells #[.int .i64 x.an, .int .i64 x.aq, .int .i64 x.oc, .int .i64 x.dp, .float .f64 x.ex, .int .i64 x.pa, .int .i64 x.de, u] 116))
     have hB2 : Below w.heap.size w (wr.alloc (.cells #[.int .i64 x.an, .int .i64 x.aq, .int .i64 x.oc, .int .i64 x.dp, .float .f64 x.ex, .int .i64 x.pa, .int .i64 x.de, u] 116)) := hB.alloc hB.size _
     obtain ⟨ua, un, uc, hus⟩ : ∃ ua un uc, u = .slice ua un uc := USL.out k u hu
     subst hus
     clear ht hcell hfz hx hu
     obtain ⟨xan, xaq, xoc, xdp, xex, xpa, xde, xrg⟩ := x
     dsimp only at a0 a1 a2 a3 a4 a5 a6 a7 hse HB2 hB2
     cases t with
     | true =>
       go_wp2_with fail
       go_ret
       exact ⟨by rw [find_hit (q := fun a : SAct => decide (a.an = n ∧ a.aq = q)) hks HBE.out HT.out.symm]; rfl, hB2⟩
     | false =>
       go_wp2_with fail
       go_roundw
       case rel => exact ⟨k + 1, by omega, by go_num, Lib.hid (fun j h hj => by
           rcases Nat.lt_or_eq_of_le (Nat.le_of_lt_succ hj) with h1 | h1
           · exact HBE.out j h h1
           · subst h1; exact HT.out.symm), HB2, hB2⟩
       case measure => (simp [intOf]; omega)
   · obtain rfl : k = m := by omega
     go_wp2_with fail
     go_ret
     exact ⟨by rw [find_miss (q := fun a : SAct => decide (a.an = n ∧ a.aq = q)) (fun j h => HBE.out j h (by rw [HM.out]; exact h))]; rfl, hB⟩
set_option maxRecDepth 100000 in
set_option maxHeartbeats 2000000 in
theorem rchild_of (R : RLoc) (S : Sto) (pt : Int) (w : World) (h : RStoreAt R S w) (hl : S.acts.length ≤ 8) (hp0 : 0 ≤ pt) (hp1 : pt ≤ 100) : Calls Tryz.prog 91 #[.pointer (some ⟨R.sb, 0, none⟩), .int .i64 pt] w (Makes (.int .i64 (oix (schild S (pt + 1)))) w) := by
 obtain ⟨a, cap, hv, hn, hr⟩ := act_row h.len h.acts
 have c2 : w.cell? ⟨R.sb, 2, none⟩ = some (.slice a S.acts.length cap) := by rw [← hv]; exact h.blk.cell 2
 have hsb := h.blk.lt
 have HR := Lib.hid hr; have HLEN := Lib.hid h.len
 have USL := Lib.hid (fun (i : Nat) (v : Value) (hv : R.rv[i]? = some v) => row_slice3 (h.regs i v _ hv (List.getElem?_eq_getElem (by rw [← h.len]; exact (List.getElem?_eq_some_iff.1 hv).1))))
 have hf : schild S (pt + 1) = S.acts.findIdx? (fun a => decide (a.pa = pt + 1)) := rfl
 rw [hf]
 generalize S.acts = l at *
 generalize R.rv = rv at *
 obtain ⟨m, hm⟩ : ∃ m, m = l.length := ⟨_, rfl⟩
 rw [← hm] at c2 hl HR HLEN
 have HM := Lib.hid hm
 clear hm hr hn hv h hf
 go_enter Tryz.func91, Tryz.ntmps91
 go_wp2_with fail
 go_loopw [12] (fun i wr => ∃ k : Nat, k ≤ m ∧ i = .int .i64 (k : Nat) ∧ Hid (∀ (j : Nat) (h : j < l.length), j < k → decide (l[j].pa = pt + 1) = false) ∧ Below w.heap.size w wr) (fun i _ => m - (intOf i).toNat)
 case atStart => exact ⟨0, by omega, by first | rfl | go_num, Lib.hid (fun j _ h => absurd h (by omega)), by go_grown⟩
 case round =>
   obtain ⟨k, hk, rfl, HBE, hB⟩ := hrel
   by_cases hlt : k < m
   · have hks : k < l.length := by rw [← HM.out]; exact hlt
     obtain ⟨g, rfl, hg, hfz, hcell⟩ := HR.out (by omega)
     obtain ⟨u, hu⟩ : ∃ u, rv[k]? = some u := ⟨_, List.getElem?_eq_getElem (by rw [HLEN.out]; exact hlt)⟩
     obtain ⟨x, hx⟩ : ∃ x, x = l[k] := ⟨_, rfl⟩
     have hat := (hcell k x u (by rw [hx]; exact List.getElem?_eq_getElem hks) hu).below hB hg
     obtain ⟨a0, a1, a2, a3, a4, a5, a6, a7⟩ := hat
     have hki : (k : Int) < (m : Int) := by omega
     have hk0 : (0 : Int) ≤ (k : Int) := by omega
     obtain ⟨t, ht⟩ : ∃ t, t = decide (x.pa = pt + 1) := ⟨_, rfl⟩
     have hse : (x.pa == pt + 1) = t := by rw [ht]; by_cases h : x.pa = pt + 1 <;> simp [h]
     rw [hx] at ht
     have HT := Lib.hid ht
     have hB2 : Below w.heap.size w (wr.alloc (.cells #[.int .i64 x.an, .int .i64 x.aq, .int .i64 x.oc, .int .i64 x.dp, .float .f64 x.ex, .int .i64 x.pa, .int .i64 x.de, u] 116)) := hB.alloc hB.size _
     obtain ⟨ua, un, uc, hus⟩ : ∃ ua un uc, u = .slice ua un uc := USL.out k u hu
     subst hus
     clear ht hcell hfz hx hu
     obtain ⟨xan, xaq, xoc, xdp, xex, xpa, xde, xrg⟩ := x
     dsimp only at a0 a1 a2 a3 a4 a5 a6 a7 hse hB2
     cases t with
     | true =>
       go_wp2_with fail
       go_ret
       exact ⟨by rw [find_hit (q := fun a : SAct => decide (a.pa = pt + 1)) hks HBE.out HT.out.symm]; rfl, hB2⟩
     | false =>
       go_wp2_with fail
       go_roundw
       case rel => exact ⟨k + 1, by omega, by go_num, Lib.hid (fun j h hj => by
           rcases Nat.lt_or_eq_of_le (Nat.le_of_lt_succ hj) with h1 | h1
           · exact HBE.out j h h1
           · subst h1; exact HT.out.symm), hB2⟩
       case measure => (simp [intOf]; omega)
   · obtain rfl : k = m := by omega
     go_wp2_with fail
     go_ret
     exact ⟨by rw [find_miss (q := fun a : SAct => decide (a.pa = pt + 1)) (fun j h => HBE.out j h (by rw [HM.out]; exact h))]; rfl, hB⟩
end Go.Proofs.YtlkajejbfojkeaaGreatDoor

namespace Go.Proofs.YtlkajejbfojkeaaGreatDoor
open Go.RowKit

def turnOk (x : MSeat) (s h : Int) : Bool := decide (x.s ≠ 14) && mRight ⟨x.p, x.d, s, h⟩
theorem turnOk_some {x t : MSeat} {s h : Int} (ht : sturn x s h = some t) : turnOk x s h = true ∧ t = ⟨x.p, x.d, s, h⟩ := by
 obtain ⟨h1, h2, h3⟩ := sturn_some ht
 refine ⟨?_, h2⟩
 unfold turnOk
 rw [← h2, h3]
 simp [h1]
theorem turnOk_none {x : MSeat} {s h : Int} (ht : sturn x s h = none) : turnOk x s h = false := by
 unfold sturn at ht
 unfold turnOk
 split at ht
 · rename_i hn
   rcases hn with hn | hn
   · simp [hn]
   · simp [hn]
 · cases ht
set_option maxRecDepth 100000 in
set_option maxHeartbeats 4000000 in
theorem rturned_of (x : MSeat) (f : SFact) (w : World) : Calls Tryz.prog 92 #[.agg #[.int .i64 x.p, .int .i64 x.d, .int .i64 x.s, .int .i64 x.h], factV f] w (Makes (.tuple #[.agg #[.int .i64 x.p, .int .i64 x.d, .int .i64 f.st, .int .i64 f.hw], .bool (turnOk x f.st f.hw)]) w) := by
 have hR := fun W => gright_of ⟨x.p, x.d, f.st, f.hw⟩ W
 unfold turnOk
 generalize mRight ⟨x.p, x.d, f.st, f.hw⟩ = mr at *
 dsimp only [seatV] at hR
 obtain ⟨k, an, aq, rg, nd, pt, pr, oc, dp, pa, st, hw, de, ex⟩ := f
 obtain ⟨p, d, s, hh⟩ := x
 dsimp only [factV, factC] at *
 have HR := Lib.hid hR
 clear hR
 have K0 := Lib.hid ((((Blk.fresh w #[.int .i64 p, .int .i64 d, .int .i64 s, .int .i64 hh] 164 _ rfl).alloc (.cells #[.int .i64 k, .int .i64 an, .int .i64 aq, .int .i64 rg, .int .i64 nd, .int .i64 pt, .int .i64 pr, .int .i64 oc, .int .i64 dp, .int .i64 pa, .int .i64 st, .int .i64 hw, .int .i64 de, .float .f64 ex] 42)).alloc (.cells #[.int .i64 0, .int .i64 0, .int .i64 0, .int .i64 0] 164)).alloc (.cells #[.int .i64 p, .int .i64 d, .int .i64 st, .int .i64 hw] 164))
 have K3 := Lib.hid (Blk.fresh (((w.alloc (.cells #[.int .i64 p, .int .i64 d, .int .i64 s, .int .i64 hh] 164)).alloc (.cells #[.int .i64 k, .int .i64 an, .int .i64 aq, .int .i64 rg, .int .i64 nd, .int .i64 pt, .int .i64 pr, .int .i64 oc, .int .i64 dp, .int .i64 pa, .int .i64 st, .int .i64 hw, .int .i64 de, .float .f64 ex] 42)).alloc (.cells #[.int .i64 0, .int .i64 0, .int .i64 0, .int .i64 0] 164)) #[.int .i64 p, .int .i64 d, .int .i64 st, .int .i64 hw] 164 (w.heap.size + 1 + 1 + 1) (by simp))
 have K2 := Lib.hid ((Blk.fresh ((w.alloc (.cells #[.int .i64 p, .int .i64 d, .int .i64 s, .int .i64 hh] 164)).alloc (.cells #[.int .i64 k, .int .i64 an, .int .i64 aq, .int .i64 rg, .int .i64 nd, .int .i64 pt, .int .i64 pr, .int .i64 oc, .int .i64 dp, .int .i64 pa, .int .i64 st, .int .i64 hw, .int .i64 de, .float .f64 ex] 42)) #[.int .i64 0, .int .i64 0, .int .i64 0, .int .i64 0] 164 (w.heap.size + 1 + 1) (by simp)).alloc (.cells #[.int .i64 p, .int .i64 d, .int .i64 st, .int .i64 hw] 164))
 by_cases h14 : s = 14
 · subst h14
   go_enter Tryz.func92, Tryz.ntmps92
   go_wp2_with fail
   go_region
   all_goals go_wp2_with fail
   all_goals exact bodyPost_ret (v := .tuple #[.agg #[.int .i64 p, .int .i64 d, .int .i64 st, .int .i64 hw], .bool false]) (by simp [results, Tryz.results92, go_sem]) rfl ⟨rfl, by go_grown⟩
 · have t14 : (s != 14) = true := by simpa using h14
   rw [show decide (s ≠ 14) = true by simpa using h14, Bool.true_and]
   clear h14
   go_enter Tryz.func92, Tryz.ntmps92
   go_wp2_with fail
   go_region_with (go_at_call 201; refine (HR.out _).mono ?_; rintro e w1 ⟨rfl, hb1⟩; have B1 : Below w.heap.size w w1 := below_then (by go_grown) hb1; have hz1 := hb1.size; simp only [World.size_alloc, World.size_drew] at hz1; have L2 := Lib.hid ((K2.out.below (by go_grown)).below hb1); have L3 := Lib.hid ((K3.out.below (by go_grown)).below hb1); have L0 := Lib.hid ((K0.out.below (by go_grown)).below hb1); obtain ⟨q2, f2⟩ := L2.out.out; obtain ⟨q3, f3⟩ := L3.out.out; obtain ⟨q0, f0⟩ := L0.out.out)
   all_goals go_wp2_with fail
   all_goals (refine bodyPost_ret (v := .tuple #[.agg #[.int .i64 p, .int .i64 d, .int .i64 st, .int .i64 hw], .bool mr]) (by simp [results, Tryz.results92, go_sem, q2, f2]) rfl ⟨rfl, ?_⟩)
   all_goals exact (((B1.setCell (p := ⟨w.heap.size + 1 + 1, 0, none⟩) (by simp; omega) _).setCell (p := ⟨w.heap.size + 1 + 1, 1, none⟩) (by simp; omega) _).setCell (p := ⟨w.heap.size + 1 + 1, 2, none⟩) (by simp; omega) _).setCell (p := ⟨w.heap.size + 1 + 1, 3, none⟩) (by simp; omega) _
end Go.Proofs.YtlkajejbfojkeaaGreatDoor

namespace Go.Proofs.YtlkajejbfojkeaaGreatDoor
open Go.RowKit

theorem zip_set {α β : Type} : ∀ (l : List α) (r : List β) (i : Nat) (a : α) (b : β), (l.set i a).zip (r.set i b) = (l.zip r).set i (a, b)
 | [], r, i, a, b => by simp
 | x :: t, [], i, a, b => by simp
 | x :: t, y :: u, 0, a, b => rfl
 | x :: t, y :: u, i + 1, a, b => by simp only [List.set_cons_succ, List.zip_cons_cons]; rw [zip_set t u i a b]
theorem zip_len {l : List SAct} {r : List Value} (h : r.length = l.length) : (l.zip r).length = l.length := by rw [List.length_zip, h, Nat.min_self]
theorem act_set {w : World} {B : Nat} {T : TypeId} {g cap n : Nat} {al : List SAct} {rv : List Value} (hl : rv.length = al.length) (h : w.ownsRow B T 8 (.slice (some ⟨g, 0, none⟩) n cap) n (actsL al rv)) (i c : Nat) (hc : c < 8) (a a' : SAct) (v v' : Value) (ha : al[i]? = some a) (hv : rv[i]? = some v) (x : Value) (hx : actL a' v' = (actL a v).set c x) :
   (w.setCell ⟨g, i * 8 + c, none⟩ x).ownsRow B T 8 (.slice (some ⟨g, 0, none⟩) n cap) n (actsL (al.set i a') (rv.set i v')) := by
 have hi := (List.getElem?_eq_some_iff.1 ha).1
 have hn : al.length = n := by have := h.1; unfold actsL at this; rw [flat_length _ 8 actL_len, zip_len hl] at this; omega
 have h2 := row_set h (i * 8 + c) x (by omega)
 unfold actsL at h2 ⊢
 rw [zip_set, ← flat_set (fun x : SAct × Value => actL x.1 x.2) 8 actL_len (al.zip rv) i c (by rw [zip_len hl]; exact hi) hc x (a', v') (by
   have h3 := (List.getElem?_eq_some_iff.1 ha).2
   have h4 := (List.getElem?_eq_some_iff.1 hv).2
   simp only [List.getElem_zip, h3, h4]
   exact hx)]
 exact h2
theorem RStoreAt.parts_in {R : RLoc} {S : Sto} {w w' : World} (h : RStoreAt R S w) (ps : List SPart) (hz : w.heap.size ≤ w'.heap.size) (he : ∀ k, R.pv.ownBlock ≠ some k → k < w.heap.size → w'.heap[k]? = w.heap[k]?) (hrow : w'.ownsRow 0 166 7 R.pv ps.length (partsL ps)) : RStoreAt R { S with parts := ps } w' := by
 have hn := h.ne_top
 exact ⟨h.blk.same hz (he _ hn.2.1 h.blk.lt), row_heap h.acts (fun k hk => he k (hn.2.2 k hk) (h.acts.lt k hk).2), hrow, h.len, fun i v a hv ha => row_heap (h.regs i v a hv ha) (fun k hk => he k (h.ne_regs hv k hk).2.2 ((h.regs i v a hv ha).lt k hk).2), h.once⟩
theorem RStoreAt.parts_to {R : RLoc} {S : Sto} {w w' : World} (h : RStoreAt R S w) (pv' : Value) (ps : List SPart) (hz : w.heap.size ≤ w'.heap.size) (he : ∀ k, R.pv.ownBlock ≠ some k → k ≠ R.sb → k < w.heap.size → w'.heap[k]? = w.heap[k]?) (hblk : Blk w' R.sb #[.int .i64 S.node, .int .i64 S.next, R.av, pv']) (hrow : w'.ownsRow 0 166 7 pv' ps.length (partsL ps)) (hm : Moved R.foot R.pv pv') : RStoreAt ⟨R.sb, R.av, pv', R.rv⟩ { S with parts := ps } w' := by
 have hn := h.ne_top
 refine ⟨hblk, row_heap h.acts (fun k hk => he k (hn.2.2 k hk) (fun e => hn.1 (by rw [hk, e])) (h.acts.lt k hk).2), hrow, h.len, fun i v a hv ha => row_heap (h.regs i v a hv ha) (fun k hk => he k (h.ne_regs hv k hk).2.2 (h.ne_regs hv k hk).1 ((h.regs i v a hv ha).lt k hk).2), ?_⟩
 obtain ⟨h1, h2, h3, h4, h5, h6⟩ := rfoot_nodup.1 h.once
 rw [rfoot_nodup]
 rcases hm with e | ⟨m, e, hF⟩
 · exact ⟨h1, by rw [e]; exact h2, h3, h4, fun k hk => ⟨by rw [e]; exact (h5 k hk).1, (h5 k hk).2⟩, fun k hk => h6 k (by rw [← e]; exact hk)⟩
 · rw [RLoc.mem] at hF
   refine ⟨h1, ?_, h3, h4, fun k hk => ⟨?_, (h5 k hk).2⟩, fun k hk => ?_⟩
   · rw [e]; intro e'; injection e' with e'; exact hF (.inl e')
   · rw [e]; intro e'; injection e' with e'; subst e'; exact hF (.inr (.inl hk))
   · rw [e] at hk; injection hk with hk; subst hk; exact fun hb => hF (.inr (.inr (.inr hb)))
theorem rmem_pv {R : RLoc} {v' : Value} {n : Nat} (hm : v'.ownBlock = R.pv.ownBlock ∨ ∃ m, v'.ownBlock = some m ∧ n ≤ m) : ∀ k ∈ (RLoc.mk R.sb R.av v' R.rv).foot, k ∈ R.foot ∨ n ≤ k := by
 intro k hk
 rw [RLoc.mem] at hk ⊢
 rcases hk with h | h | h | h
 · exact .inl (.inl h)
 · exact .inl (.inr (.inl h))
 · rcases hm with e | ⟨m, e, hl⟩
   · exact .inl (.inr (.inr (.inl (e.symm.trans h))))
   · rw [e] at h; injection h with h; subst h; exact .inr hl
 · exact .inl (.inr (.inr (.inr h)))
theorem rjoin_goes {R : RLoc} {S : Sto} {w W w2 : World} {v2 : Value} {p : SPart} (h : RStoreAt R S W) (hb : Below w.heap.size w W) (hg : W.grownBy w2 R.pv.ownBlock) (ho : w2.ownsRow 0 166 7 v2 (S.parts.length + 1) (partsL S.parts ++ partL p)) (hat : v2.ownBlock = R.pv.ownBlock ∨ v2.ownBlock = some W.heap.size) :
   RGoes R { S with parts := S.parts ++ [p] } w (w2.setCell ⟨R.sb, 3, none⟩ v2) := by
 have hn := h.ne_top
 have hm : Moved R.foot R.pv v2 := hat.imp id (fun e => ⟨_, e, fun hk => by have := h.lt _ hk; omega⟩)
 have hv2 : v2.ownBlock ≠ some R.sb := by
   rcases hat with e | e
   · rw [e]; exact hn.2.1
   · rw [e]; intro e'; injection e' with e'; have := h.blk.lt; omega
 have hblk : Blk w2 R.sb #[.int .i64 S.node, .int .i64 S.next, R.av, R.pv] := h.blk.same hg.size (hg.block _ h.blk.lt (fun e => hn.2.1 e.symm))
 refine ⟨⟨R.sb, R.av, v2, R.rv⟩, rfl, h.parts_to v2 _ (by simpa using hg.size) (fun k hk hs hlt => ?_) ?_ ?_ hm, ?_⟩
 · rw [Below.heap_setCell _ _ _ _ hs]
   exact hg.block k hlt (fun e => hk e.symm)
 · exact hblk.set' 3 (by simp) v2
 · rw [List.length_append]
   refine row_heap ?_ (fun k hk => Below.heap_setCell _ _ _ _ (fun e => hv2 (by rw [hk, e])))
   unfold partsL at ho ⊢
   rw [List.flatMap_append]
   simpa using ho
 · refine ((Goes.of_below hb).trans ((Goes.grown hg (fun k hk => RLoc.mem.2 (.inr (.inr (.inl hk))))).trans (Goes.setCell R.sb 3 v2 (RLoc.mem.2 (.inl rfl))))).change (fun k hk => ?_)
   rcases rmem_pv (n := W.heap.size) (hat.imp id (fun e => ⟨_, e, Nat.le_refl _⟩)) k hk with h1 | h1
   · exact .inl h1
   · exact .inr (Nat.le_trans hb.size h1)
theorem rseat_part_goes {R : RLoc} {S : Sto} {w w2 : World} {g cap i : Nat} {p : SPart} (h : RStoreAt R S w) (hb : Below w.heap.size w w2) (hv : R.pv = .slice (some ⟨g, 0, none⟩) S.parts.length cap) (hp : S.parts[i]? = some p) (t : MSeat) : RGoes R { S with parts := S.parts.set i { p with seat := t } } w (putSeat4 w2 g (i * 7 + 3) t) := by
 have h2 := h.below hb
 have hrow := h2.parts
 rw [hv] at hrow
 have hown : R.pv.ownBlock = some g := by rw [hv]; rfl
 refine ⟨R, rfl, h2.parts_in _ (by rw [size_seat]; exact Nat.le_refl _) (fun k hk _ => heap_seat _ _ _ _ _ (fun e => hk (by rw [hown, e]))) ?_, (Goes.of_below hb).trans (Goes.seat g _ t (RLoc.mem.2 (.inr (.inr (.inl hown)))))⟩
 rw [hv, List.length_set]
 exact part_seat hrow i p hp t
theorem rrg_part_goes {R : RLoc} {S : Sto} {w w2 : World} {g cap i : Nat} {p : SPart} (h : RStoreAt R S w) (hb : Below w.heap.size w w2) (hv : R.pv = .slice (some ⟨g, 0, none⟩) S.parts.length cap) (hp : S.parts[i]? = some p) (r : Int) : RGoes R { S with parts := S.parts.set i { p with rg := r } } w (w2.setCell ⟨g, i * 7 + 2, none⟩ (.int .i64 r)) := by
 have h2 := h.below hb
 have hrow := h2.parts
 rw [hv] at hrow
 have hown : R.pv.ownBlock = some g := by rw [hv]; rfl
 have hi := (List.getElem?_eq_some_iff.1 hp).1
 have he := (List.getElem?_eq_some_iff.1 hp).2
 refine ⟨R, rfl, h2.parts_in _ (by simp) (fun k hk _ => Below.heap_setCell _ _ _ _ (fun e => hk (by rw [hown, e]))) ?_, (Goes.of_below hb).trans (Goes.setCell g _ _ (RLoc.mem.2 (.inr (.inr (.inl hown)))))⟩
 rw [hv, List.length_set]
 have hr := row_set hrow (i * 7 + 2) (.int .i64 r) (by omega)
 rw [show (partsL S.parts).set (i * 7 + 2) (.int .i64 r) = partsL (S.parts.set i { p with rg := r }) from flat_set partL 7 partL_len _ i 2 hi (by decide) _ _ (by rw [he]; rfl)] at hr
 exact hr
theorem rdec_goes {R : RLoc} {S : Sto} {w w2 : World} {g cap i : Nat} {a : SAct} (h : RStoreAt R S w) (hb : Below w.heap.size w w2) (hv : R.av = .slice (some ⟨g, 0, none⟩) S.acts.length cap) (ha : S.acts[i]? = some a) (d : Int) : RGoes R { S with acts := S.acts.set i { a with de := d } } w (w2.setCell ⟨g, i * 8 + 6, none⟩ (.int .i64 d)) := by
 have h2 := h.below hb
 have hown : R.av.ownBlock = some g := by rw [hv]; rfl
 have hn := h.ne_top
 obtain ⟨v, hvi⟩ : ∃ v, R.rv[i]? = some v := ⟨_, List.getElem?_eq_getElem (by rw [h.len]; exact (List.getElem?_eq_some_iff.1 ha).1)⟩
 have hset : R.rv.set i v = R.rv := by
   obtain ⟨hi, he⟩ := List.getElem?_eq_some_iff.1 hvi
   rw [← he, List.set_getElem_self]
 refine ⟨R, rfl, ⟨h2.blk.same (by simp) (Below.heap_setCell _ _ _ _ (fun e => hn.1 (by rw [hown, e]))), ?_, row_heap h2.parts (fun k hk => Below.heap_setCell _ _ _ _ (fun e => hn.2.2 g hown (by rw [hk, e]))), by rw [List.length_set]; exact h.len, fun j u b hu hb' => ?_, h.once⟩, (Goes.of_below hb).trans (Goes.setCell g _ _ (RLoc.mem.2 (.inr (.inl hown))))⟩
 · have hr := h2.acts
   rw [hv] at hr ⊢
   have := act_set h.len hr i 6 (by decide) a { a with de := d } v v ha hvi (.int .i64 d) rfl
   rw [hset] at this
   rw [List.length_set]
   exact this
 · have hb2 : (S.acts.set i { a with de := d })[j]? = some b := hb'
   have key : ∀ c, S.acts[j]? = some c → c.regs = b.regs → (w2.setCell ⟨g, i * 8 + 6, none⟩ (.int .i64 d)).ownsRow 0 199 6 u b.regs.length (regsL b.regs) := fun c hc hcb => by
     have := h2.regs j u c hu hc
     rw [hcb] at this
     exact row_heap this (fun k hk => Below.heap_setCell _ _ _ _ (fun e => (h.ne_regs hu k hk).2.1 (by rw [hown, e])))
   by_cases hij : i = j
   · subst hij
     rw [List.getElem?_set_self (List.getElem?_eq_some_iff.1 ha).1] at hb2
     injection hb2 with hb2
     exact key a ha (by rw [← hb2])
   · rw [List.getElem?_set_ne hij] at hb2
     exact key b hb2 rfl
end Go.Proofs.YtlkajejbfojkeaaGreatDoor

namespace Go.Proofs.YtlkajejbfojkeaaGreatDoor
open Go.RowKit Go.Shelf

theorem rright05_of (n q : Int) (w : World) : Calls Tryz.prog 197 #[.agg #[.int .i64 n, .int .i64 q]] w (Makes (.bool (idOk n q)) w) := by
 unfold idOk
 by_cases h1 : 0 ≤ n
 · by_cases h2 : n ≤ 3
   · have h2' : n < 4 := by omega
     by_cases h3 : 0 ≤ q
     · by_cases h4 : q ≤ 999999
       · have h4' : q < 1000000 := by omega
         rw [decide_eq_true ⟨h1, h2, h3, h4⟩]
         go_enter Tryz.func197, Tryz.ntmps197
         go_wp2_with fail
         go_ret
         exact ⟨rfl, by go_grown⟩
       · have h4' : ¬ q < 1000000 := by omega
         rw [decide_eq_false (fun h => h4 h.2.2.2)]
         go_enter Tryz.func197, Tryz.ntmps197
         go_wp2_with fail
         go_ret
         exact ⟨rfl, by go_grown⟩
     · rw [decide_eq_false (fun h => h3 h.2.2.1)]
       go_enter Tryz.func197, Tryz.ntmps197
       go_wp2_with fail
       go_ret
       exact ⟨rfl, by go_grown⟩
   · have h2' : ¬ n < 4 := by omega
     rw [decide_eq_false (fun h => h2 h.2.1)]
     go_enter Tryz.func197, Tryz.ntmps197
     go_wp2_with fail
     go_ret
     exact ⟨rfl, by go_grown⟩
 · rw [decide_eq_false (fun h => h1 h.1)]
   go_enter Tryz.func197, Tryz.ntmps197
   go_wp2_with fail
   go_ret
   exact ⟨rfl, by go_grown⟩
theorem rstate_of (s h : Int) (w : World) : Calls Tryz.prog 198 #[.int .i64 s, .int .i64 h] w (Gives (.bool (stOk s h)) w) := by
 unfold stOk
 by_cases h1 : s = 14
 · rw [if_pos h1]
   have e1 : (s == 14) = true := by simpa using h1
   by_cases h2 : h = 1
   · have e2 : (h == 1) = true := by simpa using h2
     rw [decide_eq_true (Or.inl h2)]
     clear h1 h2
     go_enter Tryz.func198, Tryz.ntmps198
     go_wp2_with fail
     go_ret
     exact ⟨rfl, rfl⟩
   · have e2 : (h == 1) = false := by simpa using h2
     have hd : decide (h = 1 ∨ 4 ≤ h ∧ h ≤ 8) = decide (4 ≤ h ∧ h ≤ 8) := decide_eq_decide.2 ⟨fun x => x.resolve_left h2, Or.inr⟩
     rw [hd]
     clear h1 h2 hd
     by_cases h3 : 4 ≤ h
     · by_cases h4 : h ≤ 8
       · rw [decide_eq_true ⟨h3, h4⟩]
         go_enter Tryz.func198, Tryz.ntmps198
         go_wp2_with fail
         go_ret
         exact ⟨rfl, rfl⟩
       · rw [decide_eq_false (fun x => h4 x.2)]
         go_enter Tryz.func198, Tryz.ntmps198
         go_wp2_with fail
         go_ret
         exact ⟨rfl, rfl⟩
     · rw [decide_eq_false (fun x => h3 x.1)]
       go_enter Tryz.func198, Tryz.ntmps198
       go_wp2_with fail
       go_ret
       exact ⟨rfl, rfl⟩
 · rw [if_neg h1]
   have e1 : (s == 14) = false := by simpa using h1
   clear h1
   by_cases h2 : 1 ≤ s
   · by_cases h3 : s ≤ 13
     · have e2 : (h == 0) = decide (h = 0) := by by_cases h0 : h = 0 <;> simp [h0]
       rw [show decide (1 ≤ s ∧ s ≤ 13 ∧ h = 0) = decide (h = 0) from decide_eq_decide.2 ⟨fun x => x.2.2, fun x => ⟨h2, h3, x⟩⟩]
       generalize decide (h = 0) = d at *
       go_enter Tryz.func198, Tryz.ntmps198
       go_wp2_with fail
       go_ret
       exact ⟨rfl, rfl⟩
     · rw [decide_eq_false (fun x => h3 x.2.1)]
       go_enter Tryz.func198, Tryz.ntmps198
       go_wp2_with fail
       go_ret
       exact ⟨rfl, rfl⟩
   · rw [decide_eq_false (fun x => h2 x.1)]
     go_enter Tryz.func198, Tryz.ntmps198
     go_wp2_with fail
     go_ret
     exact ⟨rfl, rfl⟩
def fnums (f : SFact) : List Int := [f.k, f.an, f.aq, f.rg, f.nd, f.pt, f.pr, f.oc, f.dp, f.pa, f.st, f.hw, f.de]
theorem numbers_of (f : SFact) (w : World) : Calls Tryz.prog 119 #[factV f] w (fun e w' => ∃ g, e = .returned (.slice (some ⟨g, 0, none⟩) 13 13) ∧ Blk w' g #[.int .i64 f.k, .int .i64 f.an, .int .i64 f.aq, .int .i64 f.rg, .int .i64 f.nd, .int .i64 f.pt, .int .i64 f.pr, .int .i64 f.oc, .int .i64 f.dp, .int .i64 f.pa, .int .i64 f.st, .int .i64 f.hw, .int .i64 f.de] ∧ Below w.heap.size w w') := by
 obtain ⟨k, an, aq, rg, nd, pt, pr, oc, dp, pa, st, hw, de, ex⟩ := f
 dsimp only [factV, factC]
 go_enter Tryz.func119, Tryz.ntmps119
 go_wp2_with fail
 go_ret
 exact ⟨w.heap.size + 1, rfl, Blk.fresh _ _ _ _ (by simp), by go_grown⟩
end Go.Proofs.YtlkajejbfojkeaaGreatDoor
