/- RstQ, Bu16, Al16b, PaN, JoA, JoP, StepR, JoB, DoA, DoB, JoC, To16 -/
import Derived.Test.YtlkajejbfojkeaaGreatDoorTRstOToRstW
import Derived.Test.YtlkajejbfojkeaaGreatDoorTRstN
import Derived.Test.YtlkajejbfojkeaaGreatDoorTRstM
import Derived.Test.YtlkajejbfojkeaaGreatDoorTRstJ
import Derived.Test.YtlkajejbfojkeaaGreatDoorTRstI
import Derived.Test.YtlkajejbfojkeaaGreatDoorTRstH
import Derived.Test.YtlkajejbfojkeaaGreatDoorTRstG
import Derived.Test.YtlkajejbfojkeaaGreatDoorTRstF
import Derived.Test.YtlkajejbfojkeaaGreatDoorUNumToRstE
import Derived.Test.YtlkajejbfojkeaaGreatDoorTRfcBToLdA
import Derived.Test.YtlkajejbfojkeaaGreatDoorTLdBToStepM
import Derived.Test.YtlkajejbfojkeaaGreatDoorTFacB
import Derived.Deep.AppendLies
set_option linter.unusedSimpArgs false
set_option linter.unusedVariables false
set_option maxRecDepth 100000
set_option maxHeartbeats 16000000
namespace Go.Proofs.YtlkajejbfojkeaaGreatDoor
open Go.RowKit
theorem rapply_of (R : RLoc) (S : Sto) (f : SFact) (w : World) (hx : F64 f.ex) (h : RStoreAt R S w) (hG : StoGood S) :
    Calls Tryz.prog 22 #[.pointer (some ⟨R.sb, 0, none⟩), factV f] w (RApplyEnds R (sapply S f).1 (sapply S f).2 w) := by
 cases hok : fok f with
 | false =>
  have e : sapply S f = (S, 4) := by unfold sapply; rw [if_pos hok]
  rw [e]
  exact rapply_bad R S f w hx h hok
 | true =>
  have hs : ∀ T, sput S f = some T → sapply S f = (T, 0) := fun T hT => by unfold sapply; rw [if_neg (by rw [hok]; simp), hT]
  have hn : sput S f = none → sapply S f = (S, 9) := fun hT => by unfold sapply; rw [if_neg (by rw [hok]; simp), hT]
  have hkk := fok_any hok
  by_cases k1 : f.k = 1
  · obtain ⟨f1, f2, f3⟩ := fok1 hok k1
    have fi := ctxOk_id f1
    by_cases c1 : f.an = S.node
    case neg =>
     have e : sput S f = none := by unfold sput; rw [if_pos k1, if_pos (.inl c1)]
     rw [hn e]
     exact ropen_no1 R S f w hx h hok k1 c1
    by_cases c2 : S.next ≤ f.aq
    case neg =>
     have e : sput S f = none := by unfold sput; rw [if_pos k1, if_pos (.inr (.inl (by omega)))]
     rw [hn e]
     exact ropen_no2 R S f w hx h hok k1 c1 (by omega)
    by_cases c3 : S.acts.length < 8
    case neg =>
     have e : sput S f = none := by unfold sput; rw [if_pos k1, if_pos (.inr (.inr (.inl (by omega))))]
     rw [hn e]
     exact ropen_no3 R S f w hx h hok k1 c1 c2 (by omega)
    by_cases c4 : 0 < f.pa → f.pa ≤ (S.parts.length : Int) ∧ schild S f.pa = none
    · have e : sput S f = some { S with next := f.aq + 1, acts := S.acts ++ [⟨f.an, f.aq, f.oc, f.dp, f.ex, f.pa, 0, []⟩] } := by
       unfold sput
       rw [if_pos k1, if_neg]
       rintro (e | e | e | ⟨e1, e2⟩)
       · exact e c1
       · omega
       · omega
       · obtain ⟨q1, q2⟩ := c4 e1
         rcases e2 with e2 | e2
         · omega
         · rw [q2] at e2; cases e2
      rw [hs _ e]
      by_cases c5 : 0 < f.pa
      · exact ropen_yes2 R S f w hx h hok k1 ⟨fi.2.2.1, fi.2.2.2⟩ ⟨f2, f3⟩ c1 c2 c3 c5 (c4 c5).1 (c4 c5).2
      · exact ropen_yes1 R S f w hx h hok k1 ⟨fi.2.2.1, fi.2.2.2⟩ ⟨f2, f3⟩ c1 c2 c3 (by omega)
    · have c5 : 0 < f.pa := Decidable.byContradiction fun e => c4 (fun e' => absurd e' e)
      by_cases c6 : f.pa ≤ (S.parts.length : Int)
      · cases hc : schild S f.pa with
        | none => exact absurd (fun _ => ⟨c6, hc⟩) c4
        | some i =>
         have e : sput S f = none := by unfold sput; rw [if_pos k1, if_pos (.inr (.inr (.inr ⟨c5, .inr (by rw [hc]; rfl)⟩)))]
         rw [hn e]
         exact ropen_no5 R S f w hx h hok k1 hG.acts c1 c2 c3 c5 f3 c6 i hc
      · have e : sput S f = none := by unfold sput; rw [if_pos k1, if_pos (.inr (.inr (.inr ⟨c5, .inl (by omega)⟩)))]
        rw [hn e]
        exact ropen_no4 R S f w hx h hok k1 hG.acts c1 c2 c3 c5 f3 (by omega)
  by_cases k6 : f.k = 6
  · obtain ⟨f1, f2, f3, f4, f5⟩ := fok6 hok k6
    by_cases c : f.pt = (S.parts.length : Int)
    · have e : sput S f = some { S with parts := S.parts ++ [⟨f.an, f.aq, -1, ⟨f.pr, 2, 1, 0⟩⟩] } := by unfold sput; rw [if_neg k1, if_pos k6, if_neg (by simp [c])]
      rw [hs _ e]
      exact rjoin_yes R S f w hx h hok k6 hG.parts c
    · have e : sput S f = none := by unfold sput; rw [if_neg k1, if_pos k6, if_pos c]
      rw [hn e]
      exact rjoin_no R S f w hx h hok k6 c
  by_cases k78 : f.k = 7 ∨ f.k = 8
  · have h0 : 0 ≤ f.pt := by
     rcases k78 with k | k
     · exact (fok7 hok k).1
     · exact (fok8 hok k).1
    by_cases c : f.pt < (S.parts.length : Int)
    case neg =>
     have e : sput S f = none := by
      unfold sput
      rw [if_neg k1, if_neg k6, if_pos k78, List.getElem?_eq_none (by omega)]
     rw [hn e]
     rcases k78 with k7 | k8
     · exact rnopart7 R S f w hx h hok k7 (by omega)
     · exact rnopart8 R S f w hx h hok k8 (by omega)
    obtain ⟨i, hi⟩ : ∃ i : Nat, f.pt = (i : Int) := ⟨f.pt.toNat, by omega⟩
    have hil : i < S.parts.length := by omega
    have hp : S.parts[i]? = some S.parts[i] := List.getElem?_eq_getElem hil
    have hit : f.pt.toNat = i := by omega
    obtain ⟨p, hpe⟩ : ∃ p, p = S.parts[i] := ⟨_, rfl⟩
    rw [← hpe] at hp
    by_cases k8 : f.k = 8
    · cases ht : sturn p.seat f.st f.hw with
      | none =>
       have e : sput S f = none := by
        unfold sput
        rw [if_neg k1, if_neg k6, if_pos k78, hit, hp]
        simp only
        rw [if_pos k8, ht]
        rfl
       rw [hn e]
       exact rpart8_no R S f i p w hx h hok k8 hi hp (turnOk_none ht)
      | some t =>
       have e : sput S f = some { S with parts := S.parts.set i { p with seat := t } } := by
        unfold sput
        rw [if_neg k1, if_neg k6, if_pos k78, hit, hp]
        simp only
        rw [if_pos k8, ht]
        rfl
       rw [hs _ e]
       obtain ⟨q1, q2⟩ := turnOk_some ht
       subst q2
       exact rpart8_yes R S f i p w hx h hok k8 hi hp q1
    · have k7 := k78.resolve_right k8
      by_cases hr : p.rg = -1
      · have e : sput S f = some { S with parts := S.parts.set i { p with rg := f.rg } } := by
         unfold sput
         rw [if_neg k1, if_neg k6, if_pos k78, hit, hp]
         simp only
         rw [if_neg k8, if_neg (by simp [hr])]
        rw [hs _ e]
        exact rpart7_yes R S f i p w hx h hok k7 hi hp hr
      · have e : sput S f = none := by
         unfold sput
         rw [if_neg k1, if_neg k6, if_pos k78, hit, hp]
         simp only
         rw [if_neg k8, if_pos hr]
        rw [hn e]
        exact rpart7_no R S f i p w hx h hok k7 hi hp (by have := (hG.part p (List.mem_of_getElem? hp)).2.1; omega)
  have hk4 : f.k ≠ 1 ∧ f.k ≠ 6 ∧ f.k ≠ 7 ∧ f.k ≠ 8 := ⟨k1, k6, fun e => k78 (.inl e), fun e => k78 (.inr e)⟩
  cases hi : sfind S f.an f.aq with
  | none =>
   have e : sput S f = none := by unfold sput; rw [if_neg k1, if_neg k6, if_neg k78, hi]
   rw [hn e]
   exact rapply_noact R S f w hx h hG.acts hok hk4 hi
  | some i =>
   have hil : i < S.acts.length := by unfold sfind at hi; exact (List.findIdx?_eq_some_iff_getElem.1 hi).1
   obtain ⟨a, ha⟩ : ∃ a, S.acts[i]? = some a := ⟨_, List.getElem?_eq_getElem hil⟩
   obtain ⟨x, hxi⟩ : ∃ x, R.rv[i]? = some x := ⟨_, List.getElem?_eq_getElem (by rw [h.len]; exact hil)⟩
   have hA := hG.act a (List.mem_of_getElem? ha)
   have hl := hA.len
   have hsp : sput S f = if f.k = 5 then (if (a.regs.any fun r => decide (r.seat.s ≠ 14)) = true then none else some { S with acts := S.acts.take i ++ S.acts.drop (i + 1) }) else (sact a f).map fun b => { S with acts := S.acts.set i b } := by
    unfold sput
    rw [if_neg k1, if_neg k6, if_neg k78, hi]
    simp only
    rw [ha]
   have yes : ∀ T, sput S f = some T → (∀ W, Below w.heap.size w W → Calls Tryz.prog 93 #[.pointer (some ⟨R.sb, 0, none⟩), .int .i64 (i : Int), factV f] W fun e w' => e = .returned (.bool true) ∧ RGoes R T W w') → Calls Tryz.prog 22 #[.pointer (some ⟨R.sb, 0, none⟩), factV f] w (RApplyEnds R (sapply S f).1 (sapply S f).2 w) := fun T hT hC => by
    rw [hs _ hT]
    exact rapply_act R S T f i true w hx h hG.acts hok hk4 hi hC
   have no : sput S f = none → (∀ W, Below w.heap.size w W → Calls Tryz.prog 93 #[.pointer (some ⟨R.sb, 0, none⟩), .int .i64 (i : Int), factV f] W fun e w' => e = .returned (.bool false) ∧ RGoes R S W w') → Calls Tryz.prog 22 #[.pointer (some ⟨R.sb, 0, none⟩), factV f] w (RApplyEnds R (sapply S f).1 (sapply S f).2 w) := fun hT hC => by
    rw [hn hT]
    exact rapply_act R S S f i false w hx h hG.acts hok hk4 hi hC
   have hxl : ∀ W, Below w.heap.size w W → RStoreAt R S W := fun W hW => h.below hW
   by_cases k5 : f.k = 5
   · rw [if_pos k5] at hsp
     cases hany : (a.regs.any fun r => decide (r.seat.s ≠ 14)) with
     | true =>
      rw [hany, if_pos rfl] at hsp
      exact no hsp (fun W hW => ract5_no R S f i a x W (hxl W hW) hG.acts k5 hxi ha hl hany)
     | false =>
      rw [hany, if_neg (by simp)] at hsp
      exact yes _ hsp (fun W hW => ract5_yes R S f i a x W (hxl W hW) hG.acts k5 hxi ha hl hany)
   rw [if_neg k5] at hsp
   by_cases k2 : f.k = 2
   · obtain ⟨f1, f2, f3, f4, f5, f6, f7, f8, f9⟩ := fok2 hok k2
     by_cases c1 : f.rg = (a.regs.length : Int)
     case neg =>
      have e : sact a f = none := by unfold sact; rw [if_pos k2, if_pos (.inl c1)]
      rw [e] at hsp
      exact no hsp (fun W hW => ract2_no1 R S f i a x W (hxl W hW) hG.acts k2 hxi ha c1)
     by_cases c2 : a.de = 0
     case neg =>
      have e : sact a f = none := by unfold sact; rw [if_pos k2, if_pos (.inr (.inl c2))]
      rw [e] at hsp
      exact no hsp (fun W hW => ract2_no2 R S f i a x W (hxl W hW) hG.acts k2 hxi ha c1 c2)
     cases hany : (a.regs.any fun r => decide (r.n = f.nd ∧ r.p = f.pt)) with
     | true =>
      have e : sact a f = none := by unfold sact; rw [if_pos k2, if_pos (.inr (.inr hany))]
      rw [e] at hsp
      exact no hsp (fun W hW => ract2_no3 R S f i a x W (hxl W hW) hG.acts k2 hxi ha hl c1 c2 hany)
     | false =>
      have e : sact a f = some { a with regs := a.regs ++ [⟨f.nd, f.pt, ⟨f.pr, 1, 1, 0⟩⟩] } := by
       unfold sact
       rw [if_pos k2, if_neg]
       rintro (e | e | e)
       · exact e c1
       · exact e c2
       · rw [hany] at e; cases e
      rw [e] at hsp
      exact yes _ hsp (fun W hW => ract2_yes R S f i a x W (hxl W hW) hG.acts k2 hxi ha hl c1 c2 hany)
   by_cases k3 : f.k = 3
   · obtain ⟨f1, f2, f3, f4⟩ := fok3 hok k3
     have hsa : sact a f = match a.regs[f.rg.toNat]? with
         | none => none
         | some r => (sturn r.seat f.st f.hw).map fun t => { a with regs := a.regs.set f.rg.toNat { r with seat := t } } := by
      unfold sact; rw [if_neg k2, if_pos k3]; cases a.regs[f.rg.toNat]? <;> rfl
     by_cases c1 : f.rg < (a.regs.length : Int)
     case neg =>
      have e : sact a f = none := by rw [hsa, List.getElem?_eq_none (by omega)]
      rw [e] at hsp
      exact no hsp (fun W hW => ract3_len R S f i a x W (hxl W hW) hG.acts k3 hxi ha (by omega))
     obtain ⟨j, hj⟩ : ∃ j : Nat, f.rg = (j : Int) := ⟨f.rg.toNat, by omega⟩
     have hjt : f.rg.toNat = j := by omega
     obtain ⟨r, hr⟩ : ∃ r, a.regs[j]? = some r := ⟨_, List.getElem?_eq_getElem (by omega)⟩
     rw [hjt, hr] at hsa
     simp only at hsa
     cases ht : sturn r.seat f.st f.hw with
     | none =>
      rw [ht] at hsa
      rw [hsa] at hsp
      exact no hsp (fun W hW => ract3_no R S f i a x j r W (hxl W hW) hG.acts k3 hxi ha hj hr hl (turnOk_none ht))
     | some t =>
      rw [ht] at hsa
      rw [hsa] at hsp
      obtain ⟨q1, q2⟩ := turnOk_some ht
      subst q2
      exact yes _ hsp (fun W hW => ract3_yes R S f i a x j r W (hxl W hW) hG.acts k3 hxi ha hj hr hl q1)
   have k4 : f.k = 4 := by omega
   have hsa : sact a f = if a.oc ≠ 1 ∨ a.de ≠ 0 then none else some { a with de := f.de } := by
    unfold sact; rw [if_neg k2, if_neg k3]
   by_cases c : a.oc ≠ 1 ∨ a.de ≠ 0
   · rw [hsa, if_pos c] at hsp
     exact no hsp (fun W hW => by
       by_cases c0 : a.oc = 1
       · exact ract4_no2 R S f i a x W (hxl W hW) hG.acts k4 hxi ha c0 (c.resolve_left (fun e => e c0))
       · exact ract4_no1 R S f i a x W (hxl W hW) hG.acts k4 hxi ha c0)
   · rw [hsa, if_neg c] at hsp
     exact yes _ hsp (fun W hW => ract4_yes R S f i a x W (hxl W hW) hG.acts k4 hxi ha (Decidable.byContradiction fun e => c (.inl e)) (Decidable.byContradiction fun e => c (.inr e)))
attribute [local go_sem] store_float
def BuiltYes16 (S : Sto) (w : World) (e : Ending) (w' : World) : Prop := ∃ L R, e = .returned (.tuple #[.pointer (some ⟨L.sb, 0, none⟩), .pointer (some ⟨R.sb, 0, none⟩), .bool true]) ∧ Built L R S w w'
theorem built16_no (node : Int) (v : Value) (fs : List SFact) (ea : Int → Addr) (w : World) (hE : EnvS ea w) (hR : ReadFacts w v fs) (h : ¬ ((0 ≤ node ∧ node ≤ 3) ∧ fs.length ≤ 60)) : Calls Tryz.prog 37 #[.int .i64 node, v] w (Makes (.tuple #[.pointer none, .pointer none, .bool false]) w) := by
 obtain ⟨a, cap, rfl, _⟩ := hR
 obtain ⟨n, hn⟩ : ∃ n, n = fs.length := ⟨_, rfl⟩
 rw [← hn] at h ⊢
 clear hn
 by_cases hnd : 0 ≤ node ∧ node ≤ 3
 · have HN := qq (snew_yes node w hnd)
   have hl : (60 : Int) < (n : Int) := by have : ¬ n ≤ 60 := fun e => h ⟨hnd, e⟩; omega
   have d1 : decide ((60 : Int) < (n : Int)) = true := decide_eq_true hl
   have d2 : decide (60 < n) = true := decide_eq_true (by omega)
   clear hE h hnd hl
   go_enter Tryz.func37, Tryz.ntmps37
   go_wp2_with fail
   refine HN.out.mono ?_
   rintro e w1 ⟨rfl, rfl⟩
   go_wp2_with fail
   go_ret3
   exact ⟨rfl, by go_grown⟩
 · have HN := qq (snew_no node ea w hE hnd)
   clear hE h hnd
   go_enter Tryz.func37, Tryz.ntmps37
   go_wp2_with fail
   refine HN.out.mono ?_
   rintro e w1 ⟨rfl, hb1⟩
   go_wp2_with fail
   go_ret3
   exact ⟨rfl, below_then hb1 (by go_grown)⟩
theorem built16_yes (node : Int) (v : Value) (fs : List SFact) (ea : Int → Addr) (w : World) (hE : EnvS ea w) (hR : ReadFacts w v fs) (hF : ∀ f ∈ fs, F64 f.ex) (hnd : 0 ≤ node ∧ node ≤ 3) (hl : fs.length ≤ 60) : Calls Tryz.prog 37 #[.int .i64 node, v] w (BuiltYes16 (splay node fs) w) := by
 obtain ⟨a, cap, rfl, hcells⟩ := hR
 obtain ⟨n, hn⟩ : ∃ n, n = fs.length := ⟨_, rfl⟩
 rw [← hn] at hl ⊢
 have HC := qq hcells; have HN0 := qq hn; have HE := qq hE; have HF := qq hF
 have HN := qq (snew_yes node w hnd)
 have HG := qq (fun gs => splay_good hnd gs)
 have d1 : decide ((60 : Int) < (n : Int)) = false := decide_eq_false (by omega)
 have d2 : decide (60 < n) = false := decide_eq_false (by omega)
 clear hcells hn hE hF hnd
 go_enter Tryz.func37, Tryz.ntmps37
 go_wp2_with fail
 refine HN.out.mono ?_
 rintro e w1 ⟨rfl, rfl⟩
 have HB0 := qq (built_start (w := w) (W := w.alloc (.cells #[.int .i64 node, .int .i64 0, .slice none 0 0, .slice none 0 0] 154)) (node := node) (x := w.heap.size) (by go_grown) (Blk.fresh w _ _ _ rfl) (Nat.le_refl _) 34)
 rw [show (w.alloc (.cells #[.int .i64 node, .int .i64 0, .slice none 0 0, .slice none 0 0] 154)).heap.size = w.heap.size + 1 by simp] at HB0
 go_wp2_with fail
 clear d1 d2
 go_loopw [29] (fun i wr => ∃ k : Nat, k ≤ n ∧ i = .int .i64 (k : Nat) ∧ Hid (∃ L R, L.sb = w.heap.size ∧ R.sb = w.heap.size + 1 ∧ Built L R (splay node (fs.take k)) w wr)) (fun i _ => n - (intOf i).toNat)
 case atStart => exact ⟨0, by omega, by first | rfl | go_num, qq ⟨_, _, rfl, rfl, HB0.out⟩⟩
 case round =>
  obtain ⟨k, hk, rfl, HBU⟩ := hrel
  obtain ⟨L, R, hLb, hRb, hB⟩ := HBU.out
  by_cases hlt : k < n
  · have hks : k < fs.length := by rw [← HN0.out]; exact hlt
    obtain ⟨b, off, rfl, hbl, hfact⟩ := HC.out (by intro e; rw [e] at hks; simp at hks)
    obtain ⟨f, hf⟩ : ∃ f, f = fs[k] := ⟨_, rfl⟩
    have hat := (hfact k hks).below hB.be hbl
    rw [← hf] at hat
    have hx : F64 f.ex := HF.out f (by rw [hf]; exact List.getElem_mem hks)
    have hsn : splay node (fs.take (k + 1)) = (sapply (splay node (fs.take k)) f).1 := by
     rw [List.take_succ_eq_append_getElem hks, splay_snoc, hf]
    have HSN := qq hsn
    have HG1 := qq (HG.out (fs.take k))
    obtain ⟨S, hS⟩ : ∃ S, S = splay node (fs.take k) := ⟨_, rfl⟩
    rw [← hS] at hB HSN HG1
    obtain ⟨T, hT⟩ : ∃ T, T = (sapply S f).1 := ⟨_, rfl⟩
    rw [← hT] at HSN
    have hwr := hB.be.size
    have hLz : w.heap.size < wr.heap.size := by have := hB.st.blk.lt; omega
    have HA := qq (fun L W (hW : EnvG L ea W) (hs : StoreAt L S W) => apply_of L S f ea W hx hW hs HG1.out)
    have HRA := qq (fun R W (hs : RStoreAt R S W) => rapply_of R S f W hx hs HG1.out)
    rw [← hT] at HA HRA
    obtain ⟨en, hen⟩ : ∃ en, en = (sapply S f).2 := ⟨_, rfl⟩
    rw [← hen] at HA HRA
    have HB := qq hB
    obtain ⟨c0, c1, c2, c3, c4, c5, c6, c7, c8, c9, c10, c11, c12, c13⟩ := hat
    have hki : (k : Int) < (n : Int) := by omega
    have hk0 : (0 : Int) ≤ (k : Int) := by omega
    have hbw : b < wr.heap.size := by omega
    clear hB hfact hf hsn hS hT hen HBU hx
    obtain ⟨k', an, aq, rg, nd, pt, pr, oc, dp, pa, st, hw, de, ex⟩ := f
    dsimp only [factV, factC, ApplyEnds, RApplyEnds] at *
    go_wp2_with fail
    rw [← hLb]
    refine (HA.out L _ (envG_of HE.out (below_then HB.out.be (by go_grown)) HB.out.nl) (HB.out.st.below (by go_grown))).mono ?_
    rintro e w2 ⟨rfl, hs⟩
    obtain ⟨L2, hL2, hH, hz2, hbk⟩ := (HB.out.below (w2 := wr.alloc (.cells #[.int .i64 k', .int .i64 an, .int .i64 aq, .int .i64 rg, .int .i64 nd, .int .i64 pt, .int .i64 pr, .int .i64 oc, .int .i64 dp, .int .i64 pa, .int .i64 st, .int .i64 hw, .int .i64 de, .float .f64 ex] 39)) (by go_grown)).first hs
    have HX := qq (((Blk.fresh wr #[.int .i64 k', .int .i64 an, .int .i64 aq, .int .i64 rg, .int .i64 nd, .int .i64 pt, .int .i64 pr, .int .i64 oc, .int .i64 dp, .int .i64 pa, .int .i64 st, .int .i64 hw, .int .i64 de, .float .f64 ex] 39 _ rfl)).same hz2 (hbk _ (by simp) (fun h => by have := HB.out.st.lt _ h; omega)))
    have HH := qq hH
    have q := HX.out.cell
    have hzz := HX.out.lt
    clear hs hH hbk
    go_wp2_with fail
    rw [← hRb]
    refine (HRA.out R _ HH.out.rs).mono ?_
    rintro e w3 ⟨rfl, hs⟩
    obtain ⟨R2, hR2, hB3⟩ := HH.out.second hs
    have HB3 := qq hB3
    clear hs hB3 q
    go_wp2_with fail
    go_roundw
    case rel => exact ⟨k + 1, by omega, by go_num, qq ⟨L2, R2, by rw [hL2, hLb], by rw [hR2, hRb], by rw [HSN.out]; exact HB3.out⟩⟩
    case measure => (simp [intOf]; omega)
  · obtain rfl : k = n := by omega
    rw [show fs.take k = fs from List.take_of_length_le (by rw [← HN0.out]; exact Nat.le_refl _)] at hB
    have HB := qq hB
    clear hB
    go_wp2_with fail
    go_ret3
    refine ⟨L, R, ?_, HB.out⟩
    rw [hLb, hRb]
    rfl
theorem fit16_of (L : SLoc) (S : Sto) (v : Value) (fs : List SFact) (ea : Int → Addr) (w0 w : World) (hE : EnvS ea w0) (hb0 : Below w0.heap.size w0 w) (hnl : ∀ k ∈ L.foot, w0.heap.size ≤ k) (h : StoreAt L S w) (hG : StoGood S) (hR : ReadFacts w v fs) (hap : ∀ k, sliceBlock v = some k → k ∉ L.foot) (hF : ∀ f ∈ fs, F64 f.ex) (hl : fs.length ≤ 1000) : Calls Tryz.prog 38 #[.pointer (some ⟨L.sb, 0, none⟩), v] w (fun e w' => e = .returned (.bool (sfit S fs).2) ∧ SGoes L (sfit S fs).1 w w') := by
 obtain ⟨a, cap, rfl, hcells⟩ := hR
 obtain ⟨n, hn⟩ : ∃ n, n = fs.length := ⟨_, rfl⟩
 rw [← hn] at hl hap ⊢
 have HC := qq hcells; have HN0 := qq hn; have HE := qq hE; have HF := qq hF; have HB0 := qq hb0; have HNL := qq hnl; have HAP := qq hap; have H := qq h; have HG := qq hG
 have hlt0 := h.lt
 have HLT := qq hlt0
 clear hcells hn hE hF hb0 hnl hap h hG hlt0
 go_enter Tryz.func38, Tryz.ntmps38
 go_wp2_with fail
 go_loopw [9] (fun i wr => ∃ k : Nat, k ≤ n ∧ i = .int .i64 (k : Nat) ∧ Hid (∃ U, sfit S fs = sfit U (fs.drop k) ∧ StoGood U ∧ SGoes L U w wr)) (fun i _ => n - (intOf i).toNat)
 case atStart => exact ⟨0, by omega, by first | rfl | go_num, qq ⟨S, rfl, HG.out, SGoes.same H.out (by go_grown)⟩⟩
 case round =>
  obtain ⟨k, hk, rfl, HU⟩ := hrel
  obtain ⟨U, hU, hGU, hgo⟩ := HU.out
  by_cases hlt : k < n
  · have hks : k < fs.length := by rw [← HN0.out]; exact hlt
    obtain ⟨b, off, rfl, hbl, hfact⟩ := HC.out (by intro e; rw [e] at hks; simp at hks)
    obtain ⟨f, hf⟩ : ∃ f, f = fs[k] := ⟨_, rfl⟩
    obtain ⟨L1, hL1, hS1, hg1⟩ := hgo
    have hbn : b ∉ L.foot := HAP.out b rfl
    have hat := (hfact k hks).heap (hg1.block b hbl hbn)
    rw [← hf] at hat
    have hx : F64 f.ex := HF.out f (by rw [hf]; exact List.getElem_mem hks)
    have hst : sfit S fs = if (sapply U f).2 = 0 then sfit (sapply U f).1 (fs.drop (k + 1)) else ((sapply U f).1, false) := by
     rw [hU, List.drop_eq_getElem_cons hks, ← hf]
     rfl
    have hgood : StoGood (sapply U f).1 := sapply_good hGU
    have HST := qq hst
    have HGD := qq hgood
    have hz := hg1.size
    have HA := qq (fun W (hW : EnvG L1 ea W) (hs : StoreAt L1 U W) => apply_of L1 U f ea W hx hW hs hGU)
    obtain ⟨T, hT⟩ : ∃ T, T = (sapply U f).1 := ⟨_, rfl⟩
    obtain ⟨en, hen⟩ : ∃ en, en = (sapply U f).2 := ⟨_, rfl⟩
    rw [← hT, ← hen] at HA HST
    simp only [hL1] at HA
    rw [← hT] at HGD
    have hbe : Below w0.heap.size w0 wr := HB0.out.trans (hg1.below HNL.out HB0.out.size)
    have hnl1 : ∀ k ∈ L1.foot, w0.heap.size ≤ k := fun k hk => by
     rcases hg1.new k hk with e | e
     · exact HNL.out k e
     · exact Nat.le_trans HB0.out.size e
    have HBE := qq hbe; have HNL1 := qq hnl1; have HS1 := qq hS1; have HG1 := qq hg1
    obtain ⟨c0, c1, c2, c3, c4, c5, c6, c7, c8, c9, c10, c11, c12, c13⟩ := hat
    have hki : (k : Int) < (n : Int) := by omega
    have hk0 : (0 : Int) ≤ (k : Int) := by omega
    have hbw : b < wr.heap.size := by omega
    clear hfact hf hst hgood hT hen hx hU hGU hS1 hg1 hbe hnl1 HU hbn
    obtain ⟨k', an, aq, rg, nd, pt, pr, oc, dp, pa, st, hw, de, ex⟩ := f
    dsimp only [factV, factC, ApplyEnds] at *
    go_wp2_with fail
    refine (HA.out _ (envG_of HE.out (below_then HBE.out (by go_grown)) HNL1.out) (HS1.out.below (by go_grown))).mono ?_
    rintro e w2 ⟨rfl, hs⟩
    have HSG := qq (show SGoes L T w w2 by
      obtain ⟨L2, hL2, hS2, hg2⟩ := hs
      exact ⟨L2, by rw [hL2, hL1], hS2, (HG1.out.then_below (w2 := wr.alloc (.cells #[.int .i64 k', .int .i64 an, .int .i64 aq, .int .i64 rg, .int .i64 nd, .int .i64 pt, .int .i64 pr, .int .i64 oc, .int .i64 dp, .int .i64 pa, .int .i64 st, .int .i64 hw, .int .i64 de, .float .f64 ex] 39)) (by go_grown)).trans hg2⟩)
    clear hs
    by_cases h0 : en = 0
    · subst h0
      rw [if_pos rfl] at HST
      have he0 : errOf ea 0 = .nilIface := rfl
      simp only [he0]
      go_wp2_with fail
      go_roundw
      case rel => exact ⟨k + 1, by omega, by go_num, qq ⟨T, HST.out, HGD.out, HSG.out⟩⟩
      case measure => (simp [intOf]; omega)
    · rw [if_neg h0] at HST
      have he0 : errOf ea en = errV (ea en) := by unfold errOf; rw [if_neg h0]
      simp only [he0]
      go_wp2_with fail
      go_ret
      exact ⟨by rw [HST.out]; rfl, by rw [HST.out]; exact HSG.out⟩
  · obtain rfl : k = n := by omega
    rw [show fs.drop k = [] from List.drop_of_length_le (by rw [← HN0.out]; exact Nat.le_refl _)] at hU
    have HU2 := qq hU; have HGO := qq hgo
    clear hU hgo hGU HU
    go_wp2_with fail
    go_ret
    exact ⟨by rw [HU2.out]; rfl, by rw [HU2.out]; exact HGO.out⟩
def fs16b : List SFact := [⟨6, 0, 0, 0, 0, 0, 1, 0, 0, 0, 0, 0, 0, 0⟩, ⟨7, 0, 0, 0, 0, 0, 0, 0, 0, 0, 0, 0, 0, 0⟩, ⟨8, 0, 0, 0, 0, 0, 0, 0, 0, 0, 5, 0, 0, 0⟩]
def m16b : SMsg := ⟨9, 0, 1, 0, 0, 0, 0, 0, 0⟩
theorem al16b : (pGet (splay 1 fs16b) 0).map (fun p => (p.an, p.aq, p.rg, p.seat)) = some (0, 0, 0, ⟨1, 2, 5, 0⟩) ∧ (splay 1 fs16b).node = 1 := by decide +kernel
theorem tl16b : (mTell ⟨1, 2, 5, 0⟩ 9).2 = 0 ∧ (mTell ⟨1, 2, 5, 0⟩ 9).1.ch = true ∧ (mTell ⟨1, 2, 5, 0⟩ 9).1.send = 0 ∧ (mTell ⟨1, 2, 5, 0⟩ 9).1.fault = 0 ∧ (mTell ⟨1, 2, 5, 0⟩ 9).1.work = 9 ∧ (mTell ⟨1, 2, 5, 0⟩ 9).1.seat.s = 6 := by decide +kernel
theorem ptell_b (L : SLoc) (S : Sto) (ea : Int → Addr) (w : World) (hE : EnvS ea w) (h : StoreAt L S w) (hl : S.parts.length ≤ 8) (hp : (pGet S 0).map (fun p => (p.an, p.aq, p.rg, p.seat)) = some (0, 0, 0, ⟨1, 2, 5, 0⟩)) (hn : S.node = 1) :
    Calls Tryz.prog 39 #[.pointer (some ⟨L.sb, 0, none⟩), msgV m16b] w (fun e w' => ∃ hw, ResEnds ⟨[fTurn 0 6 hw], [], 9⟩ w e w') := by
 cases hg : pGet S 0 with
 | none => rw [hg] at hp; cases hp
 | some p =>
  rw [hg] at hp
  simp only [Option.map_some, Option.some.injEq, Prod.mk.injEq] at hp
  obtain ⟨e1, e2, e3, e4⟩ := hp
  obtain ⟨t1, t2, t3, t4, t5, t6⟩ := tl16b
  have hFd : ∀ W, Below w.heap.size w W → Calls Tryz.prog 121 #[.pointer (some ⟨L.sb, 0, none⟩), .int .i64 m16b.pt] W (Makes (.tuple #[oneV p S.node m16b.pt, .bool true]) W) := fun W hW => pfind_any L S 0 p true W (h.below hW) (fun W' hW' => part_yes L S 0 p W' ((h.below hW).below hW') hl hg)
  have hft : fitsB p S.node m16b = true := by unfold fitsB m16b; rw [e1, e2, e3, hn]; decide
  have hT : ∀ W, Below w.heap.size w W → Calls Tryz.prog 219 #[seatV p.seat, .int .i64 m16b.k] W (Makes (.tuple #[effV (mTell ⟨1, 2, 5, 0⟩ 9).1, .nilIface]) W) := fun W hW => by
   have := tell_of p.seat 9 ea W (hE.below hW).err3
   rw [e4, t1] at this
   rw [e4]
   exact this
  have hx := tell_tt_dn (.pointer (some ⟨L.sb, 0, none⟩)) p S.node m16b w hFd hft ⟨[fTurn 0 (mTell ⟨1, 2, 5, 0⟩ 9).1.seat.s (mTell ⟨1, 2, 5, 0⟩ 9).1.seat.h], [], (mTell ⟨1, 2, 5, 0⟩ 9).1.work⟩ (by decide) (by decide) (by decide) (by decide) (fun W hW => down_1100 p S.node 0 m16b _ W (by omega) (fun W' hW' => hT W' (below_then hW hW')) t2 t3 t4)
  rw [t5, t6] at hx
  exact hx.mono fun e w' h => ⟨_, h⟩
theorem alive16b_of (ea : Int → Addr) (w : World) (hE : EnvS ea w) : Calls Tryz.prog 36 #[] w (Makes (.bool true) w) := by
 have hX := Blk.fresh w #[.int .i64 6, .int .i64 0, .int .i64 0, .int .i64 0, .int .i64 0, .int .i64 0, .int .i64 1, .int .i64 0, .int .i64 0, .int .i64 0, .int .i64 0, .int .i64 0, .int .i64 0, .float .f64 0, .int .i64 7, .int .i64 0, .int .i64 0, .int .i64 0, .int .i64 0, .int .i64 0, .int .i64 0, .int .i64 0, .int .i64 0, .int .i64 0, .int .i64 0, .int .i64 0, .int .i64 0, .float .f64 0, .int .i64 8, .int .i64 0, .int .i64 0, .int .i64 0, .int .i64 0, .int .i64 0, .int .i64 0, .int .i64 0, .int .i64 0, .int .i64 0, .int .i64 5, .int .i64 0, .int .i64 0, .float .f64 0] 39 _ rfl
 have hR : ReadFacts (w.alloc (.cells #[.int .i64 6, .int .i64 0, .int .i64 0, .int .i64 0, .int .i64 0, .int .i64 0, .int .i64 1, .int .i64 0, .int .i64 0, .int .i64 0, .int .i64 0, .int .i64 0, .int .i64 0, .float .f64 0, .int .i64 7, .int .i64 0, .int .i64 0, .int .i64 0, .int .i64 0, .int .i64 0, .int .i64 0, .int .i64 0, .int .i64 0, .int .i64 0, .int .i64 0, .int .i64 0, .int .i64 0, .float .f64 0, .int .i64 8, .int .i64 0, .int .i64 0, .int .i64 0, .int .i64 0, .int .i64 0, .int .i64 0, .int .i64 0, .int .i64 0, .int .i64 0, .int .i64 5, .int .i64 0, .int .i64 0, .float .f64 0] 39)) (.slice (some ⟨w.heap.size, 0, none⟩) 3 3) fs16b := ⟨_, 3, rfl, fun _ => ⟨w.heap.size, 0, rfl, hX.lt, fun j hj => by
   have hj3 : j < 3 := hj
   match j, hj3 with
   | 0, _ => exact ⟨hX.cell 0, hX.cell 1, hX.cell 2, hX.cell 3, hX.cell 4, hX.cell 5, hX.cell 6, hX.cell 7, hX.cell 8, hX.cell 9, hX.cell 10, hX.cell 11, hX.cell 12, hX.cell 13⟩
   | 1, _ => exact ⟨hX.cell 14, hX.cell 15, hX.cell 16, hX.cell 17, hX.cell 18, hX.cell 19, hX.cell 20, hX.cell 21, hX.cell 22, hX.cell 23, hX.cell 24, hX.cell 25, hX.cell 26, hX.cell 27⟩
   | 2, _ => exact ⟨hX.cell 28, hX.cell 29, hX.cell 30, hX.cell 31, hX.cell 32, hX.cell 33, hX.cell 34, hX.cell 35, hX.cell 36, hX.cell 37, hX.cell 38, hX.cell 39, hX.cell 40, hX.cell 41⟩⟩⟩
 have hF : ∀ f ∈ fs16b, F64 f.ex := by
  intro f hf
  simp only [fs16b, List.mem_cons, List.not_mem_nil, or_false] at hf
  rcases hf with rfl | rfl | rfl <;> (unfold F64; decide)
 have HB := qq (built16_yes 1 _ fs16b ea _ (hE.below (by go_grown)) hR hF (by decide) (by decide))
 have HE := qq hE
 have HG := qq (splay_good (node := 1) (by decide) fs16b)
 have HA := qq al16b
 generalize splay 1 fs16b = S at *
 clear hX hR hF hE
 go_enter Tryz.func36, Tryz.ntmps36
 go_wp2_with fail
 refine HB.out.mono ?_
 rintro e w1 ⟨L, R, rfl, hB⟩
 have B1 : Below w.heap.size w w1 := below_then (by go_grown) hB.be
 have HT := qq (ptell_b L S ea w1 (HE.out.below B1) hB.st HG.out.parts HA.out.1 HA.out.2)
 dsimp only [m16b, msgV, msgA] at HT
 clear hB
 go_wp2_with fail
 refine HT.out.mono ?_
 rintro e w2 ⟨hw, fv, mv, rfl, ho1, ho2, hb2⟩
 have B2 : Below w.heap.size w w2 := below_then B1 hb2
 obtain ⟨g, cap, rfl, _, _, hg, hc, _⟩ := row_form ho1 (by simp)
 obtain ⟨am, cm, rfl⟩ := row_slice ho2
 have c10 : w2.cell? ⟨g, 10, none⟩ = some (.int .i64 6) := by
  exact hc 10 (.int .i64 6) (by simp [factsL, factL, fTurn])
 clear hc ho1 ho2 hb2
 go_wp2_with fail
 go_ret
 exact ⟨rfl, below_then B2 (by go_grown)⟩
def DoEnds (ea : Int → Addr) (r : SRes) (n : Int) (w : World) (e : Ending) (w' : World) : Prop := ∃ fv mv, e = .returned (.tuple #[.agg #[fv, mv, .int .i64 r.wk], errOf ea n]) ∧ w'.ownsRow w.heap.size 39 14 fv r.fs.length (factsL r.fs) ∧ w'.ownsRow w.heap.size 81 9 mv r.ms.length (msgsL r.ms) ∧ Below w.heap.size w w'
theorem fr_wk {bs : List (Nat × Array Value)} {w W : World} (hb : Below w.heap.size w W) (hbl : ∀ x ∈ bs, Blk W x.1 x.2) (hn : (bs.map Prod.fst).Nodup) (wk : Int) (T : TypeId) : FrAt bs ⟨W.heap.size, .slice none 0 0, .slice none 0 0⟩ ⟨[], [], wk⟩ w (W.alloc (.cells #[.slice none 0 0, .slice none 0 0, .int .i64 wk] T)) := by
 refine ⟨fun x hx => (hbl x hx).alloc _, fun x hx h => ?_, hn, res_fresh W wk T, fun k hk => ?_, hb.alloc hb.size _⟩
 · have := (hbl x hx).lt
   rcases QLoc.mem.1 h with e | e | e
   · simp at e; omega
   · simp [Value.ownBlock] at e
   · simp [Value.ownBlock] at e
 · have := hb.size
   rcases QLoc.mem.1 hk with e | e | e
   · simp at e; omega
   · simp [Value.ownBlock] at e
   · simp [Value.ownBlock] at e
theorem order_open {now ex : Nat} (hn : F64 now) (hx : F64 ex) (h1 : fdelay now = true) (h2 : fdelay ex = true) (h3 : fplain ex = ex) : decide (forder (fplain now) ex < 0) = flt now ex := by
 unfold fdelay at h1 h2
 simp only [Bool.and_eq_true, Bool.not_eq_true', decide_eq_true_eq] at h1 h2
 obtain ⟨n1, l1⟩ := h1
 obtain ⟨n2, l2⟩ := h2
 have e2 : ex ≠ 9223372036854775808 := by
  intro e; rw [e] at h3; revert h3; decide
 have k2 : ex < 9223372036854775808 := by omega
 have p2 : fplace ex = (ex : Int) := by unfold fplace; rw [if_neg (by rw [n2]; simp), if_pos k2]
 have y2 : fkey ex = (ex : Int) := by unfold fkey; rw [if_pos k2]
 obtain ⟨m, hm, hp, hy⟩ : ∃ m : Nat, m < 9223372036854775808 ∧ fplace (fplain now) = (m : Int) ∧ fkey now = (m : Int) := by
  by_cases e1 : now = 9223372036854775808
  · subst e1
    exact ⟨0, by omega, by decide, by decide⟩
  · have k1 : now < 9223372036854775808 := by omega
    have hpl : fplain now = now := by unfold fplain; rw [if_neg (by rw [n1]; simp), if_neg e1]
    exact ⟨now, k1, by rw [hpl]; unfold fplace; rw [if_neg (by rw [n1]; simp), if_pos k1], by unfold fkey; rw [if_pos k1]⟩
 unfold forder flt
 rw [hp, p2, hy, y2, n1, n2]
 simp only [Bool.not_false, Bool.true_and]
 by_cases h : (m : Int) < (ex : Int)
 · rw [if_pos h]; simp [h]
 · rw [if_neg h]; split <;> simp [h]
theorem fplain_64 {x : Nat} (h : F64 x) : F64 (fplain x) := by
 unfold fplain F64 at *
 repeat' split
 all_goals omega
theorem ropen09_of (n q oc dp : Int) (ex now : Nat) (hx : F64 ex) (hn : F64 now) (w : World) : Calls Tryz.prog 137 #[.agg #[.int .i64 n, .int .i64 q, .int .i64 oc, .int .i64 dp, .float .f64 ex], flV now] w (Makes (.bool (ctxOpen n q oc dp ex now)) w) := by
 have HR := qq (fun W => rright09_of n q oc dp ex hx W)
 have HD := qq (fun W => rdelay_of now hn W)
 have HP := qq (fun W => rplain_of now hn W)
 have hO := fun W => rorder_of (fplain now) ex (fplain_64 hn) hx W
 have hs := fun h1 (h2 : ctxOk n q oc dp ex = true) => order_open hn hx h1 (ctxOk_ex h2).1 (ctxOk_ex h2).2
 obtain ⟨od, hod⟩ : ∃ od, od = forder (fplain now) ex := ⟨_, rfl⟩
 rw [← hod] at hO hs
 have HO := qq hO; have HS := qq hs
 unfold ctxOpen
 generalize ctxOk n q oc dp ex = c at *
 generalize fdelay now = a at *
 generalize flt now ex = b at *
 clear hx hn hO hs hod
 cases c
 case false =>
  go_enter Tryz.func137, Tryz.ntmps137
  go_wp2_with fail
  have HB : Hid (Below w.heap.size w (World.drew (w.alloc (.cells #[.int .i64 n, .int .i64 q, .int .i64 oc, .int .i64 dp, .float .f64 ex] 48)))) := qq (by go_grown)
  refine wp_region_held_drew (S := fun w' => Blk w' w.heap.size #[.int .i64 n, .int .i64 q, .int .i64 oc, .int .i64 dp, .float .f64 ex]) (by kernel_rfl) ((Blk.fresh w #[.int .i64 n, .int .i64 q, .int .i64 oc, .int .i64 dp, .float .f64 ex] 48 _ rfl).drew) (fun hHeld => ?_)
  generalize (World.drew (w.alloc (.cells #[.int .i64 n, .int .i64 q, .int .i64 oc, .int .i64 dp, .float .f64 ex] 48))) = w0 at *
  refine takeU (d := some 5) 0 rfl rfl hHeld (fun w' hS' => by have qA := hS'.cell; clear hS'; go_simp; (try rfl)) ?_
  simp only [puts]
  refine wpAnyH_call (d := some 6) 1 136 _ _ [.agg #[.int .i64 n, .int .i64 q, .int .i64 oc, .int .i64 dp, .float .f64 ex]] rfl rfl (by kernel_rfl) rfl (enters_of Tryz.func136 (by kernel_rfl) rfl) (by rfl) (by rfl) ?_
  refine (HR.out _).mono ?_; rintro e w1 ⟨rfl, hb1⟩
  have HB := qq (below_then HB.out hb1)
  have hHeld : (fun w' => Blk w' w.heap.size #[.int .i64 n, .int .i64 q, .int .i64 oc, .int .i64 dp, .float .f64 ex]) _ := hHeld.below hb1
  refine ⟨_, rfl, _, fun _ h => h, hHeld, fun hHeld => ?_⟩
  simp only [Act.put, puts]
  clear hb1
  refine takeU (d := some 7) 2 rfl rfl hHeld (fun w' hS' => by have qA := hS'.cell; clear hS'; go_simp; (try rfl)) ?_
  simp only [puts]
  refine skipT (d := some 8) 3 hHeld ?_
  simp only [puts]
  refine skipT (d := some 9) 4 hHeld ?_
  simp only [puts]
  refine takeU (d := some 10) 5 rfl rfl hHeld (fun w' hS' => by have qA := hS'.cell; clear hS'; go_simp; (try rfl)) ?_
  simp only [puts]
  refine takeU (d := some 11) 6 rfl rfl hHeld (fun w' hS' => by have qA := hS'.cell; clear hS'; go_simp; (try rfl)) ?_
  simp only [puts]
  refine skipT (d := some 12) 7 hHeld ?_
  simp only [puts]
  refine skipT (d := some 13) 8 hHeld ?_
  simp only [puts]
  refine skipT (d := some 14) 9 hHeld ?_
  simp only [puts]
  refine skipT (d := some 15) 10 hHeld ?_
  simp only [puts]
  refine skipT (d := some 16) 11 hHeld ?_
  simp only [puts]
  refine skipT (d := some 17) 12 hHeld ?_
  simp only [puts]
  refine takeU (d := some 18) 13 rfl rfl hHeld (fun w' hS' => by have qA := hS'.cell; clear hS'; go_simp; (try rfl)) ?_
  simp only [puts]
  refine takeU (d := some 4) 14 rfl rfl hHeld (fun w' hS' => by have qA := hS'.cell; clear hS'; go_simp; (try rfl)) ?_
  simp only [puts]
  refine wpAnyH_done (by kernel_rfl) ?_ _
  clear hHeld
  go_wp2_with fail
  go_ret
  exact ⟨ret_bool (by simp), HB.out⟩
 cases a
 case false =>
  go_enter Tryz.func137, Tryz.ntmps137
  go_wp2_with fail
  have HB : Hid (Below w.heap.size w (World.drew (w.alloc (.cells #[.int .i64 n, .int .i64 q, .int .i64 oc, .int .i64 dp, .float .f64 ex] 48)))) := qq (by go_grown)
  refine wp_region_held_drew (S := fun w' => Blk w' w.heap.size #[.int .i64 n, .int .i64 q, .int .i64 oc, .int .i64 dp, .float .f64 ex]) (by kernel_rfl) ((Blk.fresh w #[.int .i64 n, .int .i64 q, .int .i64 oc, .int .i64 dp, .float .f64 ex] 48 _ rfl).drew) (fun hHeld => ?_)
  generalize (World.drew (w.alloc (.cells #[.int .i64 n, .int .i64 q, .int .i64 oc, .int .i64 dp, .float .f64 ex] 48))) = w0 at *
  refine takeU (d := some 5) 0 rfl rfl hHeld (fun w' hS' => by have qA := hS'.cell; clear hS'; go_simp; (try rfl)) ?_
  simp only [puts]
  refine wpAnyH_call (d := some 6) 1 136 _ _ [.agg #[.int .i64 n, .int .i64 q, .int .i64 oc, .int .i64 dp, .float .f64 ex]] rfl rfl (by kernel_rfl) rfl (enters_of Tryz.func136 (by kernel_rfl) rfl) (by rfl) (by rfl) ?_
  refine (HR.out _).mono ?_; rintro e w1 ⟨rfl, hb1⟩
  have HB := qq (below_then HB.out hb1)
  have hHeld : (fun w' => Blk w' w.heap.size #[.int .i64 n, .int .i64 q, .int .i64 oc, .int .i64 dp, .float .f64 ex]) _ := hHeld.below hb1
  refine ⟨_, rfl, _, fun _ h => h, hHeld, fun hHeld => ?_⟩
  simp only [Act.put, puts]
  clear hb1
  refine takeU (d := some 7) 2 rfl rfl hHeld (fun w' hS' => by have qA := hS'.cell; clear hS'; go_simp; (try rfl)) ?_
  simp only [puts]
  refine takeU (d := some 8) 3 rfl rfl hHeld (fun w' hS' => by have qA := hS'.cell; clear hS'; go_simp; (try rfl)) ?_
  simp only [puts]
  refine wpAnyH_call (d := some 9) 4 223 _ _ [flV now] rfl rfl (by kernel_rfl) rfl (enters_of Tryz.func223 (by kernel_rfl) rfl) (by rfl) (by rfl) ?_
  refine (HD.out _).mono ?_; rintro e w2 ⟨rfl, rfl⟩
  refine ⟨_, rfl, _, fun _ h => h, hHeld, fun hHeld => ?_⟩
  simp only [Act.put, puts]
  refine takeU (d := some 10) 5 rfl rfl hHeld (fun w' hS' => by have qA := hS'.cell; clear hS'; go_simp; (try rfl)) ?_
  simp only [puts]
  refine takeU (d := some 11) 6 rfl rfl hHeld (fun w' hS' => by have qA := hS'.cell; clear hS'; go_simp; (try rfl)) ?_
  simp only [puts]
  refine skipT (d := some 12) 7 hHeld ?_
  simp only [puts]
  refine skipT (d := some 13) 8 hHeld ?_
  simp only [puts]
  refine skipT (d := some 14) 9 hHeld ?_
  simp only [puts]
  refine skipT (d := some 15) 10 hHeld ?_
  simp only [puts]
  refine skipT (d := some 16) 11 hHeld ?_
  simp only [puts]
  refine skipT (d := some 17) 12 hHeld ?_
  simp only [puts]
  refine takeU (d := some 18) 13 rfl rfl hHeld (fun w' hS' => by have qA := hS'.cell; clear hS'; go_simp; (try rfl)) ?_
  simp only [puts]
  refine takeU (d := some 4) 14 rfl rfl hHeld (fun w' hS' => by have qA := hS'.cell; clear hS'; go_simp; (try rfl)) ?_
  simp only [puts]
  refine wpAnyH_done (by kernel_rfl) ?_ _
  clear hHeld
  go_wp2_with fail
  go_ret
  exact ⟨ret_bool (by simp), HB.out⟩
 case true =>
  have hs := HS.out rfl rfl
  have HS := qq hs
  clear hs
  go_enter Tryz.func137, Tryz.ntmps137
  go_wp2_with fail
  have HB : Hid (Below w.heap.size w (World.drew (w.alloc (.cells #[.int .i64 n, .int .i64 q, .int .i64 oc, .int .i64 dp, .float .f64 ex] 48)))) := qq (by go_grown)
  refine wp_region_held_drew (S := fun w' => Blk w' w.heap.size #[.int .i64 n, .int .i64 q, .int .i64 oc, .int .i64 dp, .float .f64 ex]) (by kernel_rfl) ((Blk.fresh w #[.int .i64 n, .int .i64 q, .int .i64 oc, .int .i64 dp, .float .f64 ex] 48 _ rfl).drew) (fun hHeld => ?_)
  generalize (World.drew (w.alloc (.cells #[.int .i64 n, .int .i64 q, .int .i64 oc, .int .i64 dp, .float .f64 ex] 48))) = w0 at *
  refine takeU (d := some 5) 0 rfl rfl hHeld (fun w' hS' => by have qA := hS'.cell; clear hS'; go_simp; (try rfl)) ?_
  simp only [puts]
  refine wpAnyH_call (d := some 6) 1 136 _ _ [.agg #[.int .i64 n, .int .i64 q, .int .i64 oc, .int .i64 dp, .float .f64 ex]] rfl rfl (by kernel_rfl) rfl (enters_of Tryz.func136 (by kernel_rfl) rfl) (by rfl) (by rfl) ?_
  refine (HR.out _).mono ?_; rintro e w1 ⟨rfl, hb1⟩
  have HB := qq (below_then HB.out hb1)
  have hHeld : (fun w' => Blk w' w.heap.size #[.int .i64 n, .int .i64 q, .int .i64 oc, .int .i64 dp, .float .f64 ex]) _ := hHeld.below hb1
  refine ⟨_, rfl, _, fun _ h => h, hHeld, fun hHeld => ?_⟩
  simp only [Act.put, puts]
  clear hb1
  refine takeU (d := some 7) 2 rfl rfl hHeld (fun w' hS' => by have qA := hS'.cell; clear hS'; go_simp; (try rfl)) ?_
  simp only [puts]
  refine takeU (d := some 8) 3 rfl rfl hHeld (fun w' hS' => by have qA := hS'.cell; clear hS'; go_simp; (try rfl)) ?_
  simp only [puts]
  refine wpAnyH_call (d := some 9) 4 223 _ _ [flV now] rfl rfl (by kernel_rfl) rfl (enters_of Tryz.func223 (by kernel_rfl) rfl) (by rfl) (by rfl) ?_
  refine (HD.out _).mono ?_; rintro e w2 ⟨rfl, rfl⟩
  refine ⟨_, rfl, _, fun _ h => h, hHeld, fun hHeld => ?_⟩
  simp only [Act.put, puts]
  refine takeU (d := some 10) 5 rfl rfl hHeld (fun w' hS' => by have qA := hS'.cell; clear hS'; go_simp; (try rfl)) ?_
  simp only [puts]
  refine takeU (d := some 11) 6 rfl rfl hHeld (fun w' hS' => by have qA := hS'.cell; clear hS'; go_simp; (try rfl)) ?_
  simp only [puts]
  refine takeU (d := some 12) 7 rfl rfl hHeld (fun w' hS' => by have qA := hS'.cell; clear hS'; go_simp; (try rfl)) ?_
  simp only [puts]
  refine takeU (d := some 14) 9 rfl rfl hHeld (fun w' hS' => by have qA := hS'.cell; clear hS'; go_simp; (try rfl)) ?_
  simp only [puts]
  refine takeU (d := some 15) 10 rfl rfl hHeld (fun w' hS' => by have qA := hS'.cell; clear hS'; go_simp; (try rfl)) ?_
  simp only [puts]
  refine wpAnyH_call (d := some 13) 8 225 _ _ [flV now] rfl rfl (by kernel_rfl) rfl (enters_of Tryz.func225 (by kernel_rfl) rfl) (by rfl) (by rfl) ?_
  refine (HP.out _).mono ?_; rintro e w2 ⟨rfl, rfl⟩
  refine ⟨_, rfl, _, fun _ h => h, hHeld, fun hHeld => ?_⟩
  simp only [Act.put, puts]
  refine wpAnyH_call (d := some 16) 11 224 _ _ [flV (fplain now), flV ex] rfl rfl (by kernel_rfl) rfl (enters_of Tryz.func224 (by kernel_rfl) rfl) (by rfl) (by rfl) ?_
  refine (HO.out _).mono ?_; rintro e w2 ⟨rfl, rfl⟩
  refine ⟨_, rfl, _, fun _ h => h, hHeld, fun hHeld => ?_⟩
  simp only [Act.put, puts]
  refine takeU (d := some 17) 12 rfl rfl hHeld (fun w' hS' => by have qA := hS'.cell; clear hS'; go_simp; (try rfl)) ?_
  simp only [puts]
  refine takeU (d := some 18) 13 rfl rfl hHeld (fun w' hS' => by have qA := hS'.cell; clear hS'; go_simp; (try rfl)) ?_
  simp only [puts]
  refine takeU (d := some 4) 14 rfl rfl hHeld (fun w' hS' => by have qA := hS'.cell; clear hS'; go_simp; (try rfl)) ?_
  simp only [puts]
  refine wpAnyH_done (by kernel_rfl) ?_ _
  clear hHeld
  go_wp2_with fail
  go_ret
  exact ⟨ret_bool (by simp [HS.out]), HB.out⟩
def pJoin (S : Sto) (n q oc dp : Int) (ex : Nat) (pr : Int) (now : Nat) : SRes × Int :=
 if ¬ (1 ≤ pr ∧ pr ≤ 2) ∨ ctxOk n q oc dp ex = false then (res0, 4)
 else if ctxOpen n q oc dp ex now = false then (res0, 12)
 else if 8 ≤ S.parts.length then (res0, 6)
 else (⟨[fJoin S.parts.length n q pr], [⟨17, S.node, n, n, q, 0, S.parts.length, pr, 0⟩], 0⟩, 0)
theorem ctxOk_idok {n q oc dp : Int} {ex : Nat} (h : ctxOk n q oc dp ex = true) : idOk n q = true := by
 unfold ctxOk at h
 simp only [Bool.and_eq_true] at h
 exact h.1.2
theorem pJoin_fits {S : Sto} {n q oc dp pr : Int} {ex now : Nat} : ∃ T, sfit S (pJoin S n q oc dp ex pr now).1.fs = (T, true) := by
 unfold pJoin
 split
 · exact ⟨S, rfl⟩
 split
 · exact ⟨S, rfl⟩
 split
 · exact ⟨S, rfl⟩
 · rename_i h1 h2 h3
   simp only [not_or, Decidable.not_not, Bool.not_eq_false] at h1
   have hid := ctxOk_idok h1.2
   refine ⟨{ S with parts := S.parts ++ [⟨n, q, -1, ⟨pr, 2, 1, 0⟩⟩] }, ?_⟩
   have hok : fok (fJoin S.parts.length n q pr) = true := by
    unfold fok fJoin
    simp [hid]
    omega
   have ha : sapply S (fJoin S.parts.length n q pr) = ({ S with parts := S.parts ++ [⟨n, q, -1, ⟨pr, 2, 1, 0⟩⟩] }, 0) := by
    unfold sapply
    rw [if_neg (by rw [hok]; simp)]
    unfold sput
    rw [if_neg (by simp [fJoin]), if_pos (by simp [fJoin]), if_neg (by simp [fJoin])]
    rfl
   unfold sfit
   rw [ha, if_pos rfl]
   rfl
theorem pJoin_ex {S : Sto} {n q oc dp pr : Int} {ex now : Nat} : ∀ f ∈ (pJoin S n q oc dp ex pr now).1.fs, f.ex = 0 := by
 intro f hf
 unfold pJoin at hf
 repeat' split at hf
 all_goals first | (cases hf; done) | (obtain rfl := List.mem_singleton.1 hf; rfl)
theorem pJoin_len {S : Sto} {n q oc dp pr : Int} {ex now : Nat} : (pJoin S n q oc dp ex pr now).1.fs.length ≤ 1 ∧ (pJoin S n q oc dp ex pr now).1.ms.length ≤ 1 := by
 unfold pJoin
 repeat' split
 all_goals simp [res0]
theorem pJoin_num {S : Sto} {n q oc dp pr : Int} {ex now : Nat} : 0 ≤ (pJoin S n q oc dp ex pr now).2 ∧ (pJoin S n q oc dp ex pr now).2 ≤ 14 := by
 unfold pJoin
 repeat' split
 all_goals simp
open Go.RowKit Go.Shelf
section
variable {P : Program} {ops : Array Oper} {Q : Exit → Act → World → Prop} {md : Region.Mode} {S : World → Prop}
theorem new_T {fuel : Nat} {listed : Array Bool} {a : Act} {w : World} {oi : Oper} {d : Option Tmp} (i : Nat) (v : Value) (C : Array Value) (T : TypeId) (hi : ops[i]? = some oi) (hd : oi.dst = d) (hrun : (execOp a.eval oi).run P w = .ok (.value v) (w.alloc (.cells C T))) (hS : S (w.alloc (.cells C T)))
    (h : ∀ w2, S w2 ∧ (Blk w2 w.heap.size C ∧ w2.heap[w.heap.size]? = some (.cells C T (0, 0))) ∧ Below w.heap.size w w2 → wpAnyM P md ops Q (fun w' => S w' ∧ (Blk w' w.heap.size C ∧ w'.heap[w.heap.size]? = some (.cells C T (0, 0))) ∧ Below w.heap.size w w') fuel (listed.setIfInBounds i true) (a.put d v) w2)
    (hw : Region.wanted oi (yielded ops a.tmps) = true := by rfl) : wpOp P ops Q i (Nxt P md ops Q S fuel listed i) a w :=
 wpOp_alone i v _ hi hd hw hrun (show Nxt P md ops Q S fuel listed i (a.put d v) (w.alloc (.cells C T)) from ⟨fun w' => S w' ∧ (Blk w' w.heap.size C ∧ w'.heap[w.heap.size]? = some (.cells C T (0, 0))) ∧ Below w.heap.size w w', fun _ h => h.1, ⟨hS, ⟨Blk.fresh _ _ _ _ rfl, heap_alloc_new _ _⟩, (Below.refl _ _).alloc (Nat.le_refl _) _⟩, fun h1 => h _ h1⟩)
theorem last_row {fuel : Nat} {listed : Array Bool} {a : Act} {w : World} {oi : Oper} (i : Nat) (ty : TypeId) (x y : Operand) (hi : ops[i]? = some oi) (hd : oi.dst = none) (ho : oi.op = .store ty x y) (g : Nat) (cells old : Array Value) (t : TypeId)
    (hg : w.heap[g]? = some (.cells old t (0, 0))) (hx : a.eval x = .pointer (some ⟨g, 0, none⟩)) (hy : a.eval y = .agg cells) (hinf : (P.info? ty).map (·.size) = some cells.size) (hold : old.size = cells.size) (h1 : cells.all (·.oneCell') = true)
    (h : ∀ w2, Blk w2 g cells → w.grownBy w2 (some g) → Q .normal a w2)
    (hw : Region.wanted oi (yielded ops a.tmps) = true := by rfl) (hl : lastOp md ops i = true := by kernel_rfl) (hr : Region.ready md ops listed = [i] := by kernel_rfl)
    (hr2 : Region.ready md ops (listed.setIfInBounds i true) = [] := by kernel_rfl) : wpAnyM P md ops Q S (fuel + 1) listed a w :=
 allM hr (by simp) (fun k hk => by
   obtain rfl : k = i := by simpa using hk
   refine wpOp_step hi (fun K' hK => ?_)
   rw [if_pos hw]
   refine wp_store_row ty x y ho g cells hx hy t old hg hinf hold h1 ?_
   refine hK _ _ ⟨.inl hl, doneM hr2 ?_ _⟩
   rw [hd]
   exact h _ (row_end hg).1 (row_end hg).2)
end
theorem Blk.gr {w w' : World} {b g : Nat} {C : Array Value} (h : Blk w b C) (hg : w.grownBy w' (some g)) (hne : g ≠ b) : Blk w' b C := h.same hg.size (hg.block _ h.lt (fun e => hne (by injection e with e; exact e.symm)))
theorem bel_gr {w w1 w2 : World} {g : Nat} (h : Below w.heap.size w w1) (hg : w1.grownBy w2 (some g)) (hn : w.heap.size ≤ g) : Below w.heap.size w w2 := h.grown hg h.size (fun k hk => by injection hk with hk; omega)
theorem seatNew_no (p d : Int) (a : Addr) (w : World) (he : ErrIs w 13 a) (h : rSide p d = false) : Calls Tryz.prog 132 #[.int .i64 p, .int .i64 d] w (Makes (.tuple #[.agg #[.int .i64 0, .int .i64 0, .int .i64 0, .int .i64 0], errV a]) w) := by
 have HE := qq he; have HH := qq h; clear he h
 go_enter Tryz.func132, Tryz.ntmps132
 go_wp2_with (go_at_call 220; refine (states_no p d a _ (HE.out.below (by go_grown)) HH.out).mono ?_; rintro e w1 ⟨rfl, hb1⟩; obtain ⟨q2, f2⟩ := ((Blk.fresh w _ _ _ rfl).below hb1).out; have hz1 := hb1.size; simp only [World.size_alloc] at hz1; have B1 : Below w.heap.size w w1 := below_then (by go_grown) hb1)
 exact bodyPost_ret (v := .tuple #[.agg #[.int .i64 0, .int .i64 0, .int .i64 0, .int .i64 0], errV a]) (by simp [results, Tryz.results132, go_sem, q2, f2]) rfl ⟨rfl, by go_grown⟩
theorem join_bad1 (L : SLoc) (S : Sto) (an aq oc dp : Int) (ex : Nat) (pr : Int) (now : Nat) (ea : Int → Addr) (w : World) (hE : EnvS ea w) (h : StoreAt L S w) (hG : StoGood S) (hx : F64 ex) (hn : F64 now) (hp : ¬ (1 ≤ pr ∧ pr ≤ 2)) :
    Calls Tryz.prog 40 #[.pointer (some ⟨L.sb, 0, none⟩), .agg #[.int .i64 an, .int .i64 aq, .int .i64 oc, .int .i64 dp, .float .f64 ex], .int .i64 pr, flV now] w (DoEnds ea res0 4 w) := by
 have HE := qq hE; have H := qq h; have HGL := qq hG.parts
 have HNw := qq (fun W (hW : Below w.heap.size w W) => (show Calls Tryz.prog 132 #[.int .i64 pr, .int .i64 2] W (Makes (.tuple #[.agg #[.int .i64 0, .int .i64 0, .int .i64 0, .int .i64 0], errV (ea 14)]) W) from seatNew_no pr 2 (ea 14) W ((hE.below hW).e.e14) (by unfold rSide; rw [decide_eq_false]; omega)))
 have HPt := qq (fun W hW => parts_of L S W hW hG.parts)
 obtain ⟨n, hnn⟩ : ∃ n, n = S.parts.length := ⟨_, rfl⟩
 rw [← hnn] at HPt HGL
 have HNN := qq hnn
 clear hE h hG hx hn hnn hp
 (try dsimp only [errV] at *)
 go_enter Tryz.func40, Tryz.ntmps40
 go_wp2_with fail
 refine (HNw.out _ (by go_grown)).mono ?_
 rintro e w1 ⟨rfl, hb1⟩
 have B1 : Below w.heap.size w w1 := below_then (by go_grown) hb1
 have HC := qq (((Blk.fresh w #[.int .i64 an, .int .i64 aq, .int .i64 oc, .int .i64 dp, .float .f64 ex] 48 _ rfl).alloc (.cells #[.slice none 0 0, .slice none 0 0, .int .i64 0] 87)).below hb1)
 have HV := qq ((Blk.fresh (w.alloc (.cells #[.int .i64 an, .int .i64 aq, .int .i64 oc, .int .i64 dp, .float .f64 ex] 48)) #[.slice none 0 0, .slice none 0 0, .int .i64 0] 87 (w.heap.size + 1) (by simp)).below hb1)
 clear hb1
 have HC := qq (HC.out.alloc (.cells #[.int .i64 0, .int .i64 0, .int .i64 0, .int .i64 0] 53)); have HV := qq (HV.out.alloc (.cells #[.int .i64 0, .int .i64 0, .int .i64 0, .int .i64 0] 53))
 have HS := qq (Blk.fresh w1 #[.int .i64 0, .int .i64 0, .int .i64 0, .int .i64 0] 53 _ rfl)
 go_wp2_with fail
 refine (HPt.out _ (H.out.below (B1.alloc B1.size _))).mono ?_
 rintro e w2 ⟨v', rfl, ho, hb2⟩
 obtain ⟨a', cap', rfl⟩ := row_slice ho
 have B2 : Below w.heap.size w w2 := below_then (B1.alloc B1.size _) hb2
 have HC := qq (HC.out.below hb2); have HV := qq (HV.out.below hb2); have HS := qq (HS.out.below hb2)
 clear ho hb2 B1
 have q8 : w2.cell? ⟨3, 0, none⟩ = some (errV (ea 4)) := HE.out.e.e4.below B2
 have lg : 3 < w.heap.size := lt_of_cell HE.out.e.e4
 have ng : ¬ w.heap.size + 1 = 3 := by omega
 have ng2 : ¬ 3 = w.heap.size + 1 := by omega
 have HV2 := HV.out
 have qv := HV2.cell; have fv := HV2.free; have lv := HV2.lt
 clear HV2
 dsimp only [errV] at q8
 go_wp2_with fail
 go_region
 all_goals go_wp2_with fail
 all_goals refine bodyPost_ret (v := .tuple #[.agg #[.slice none 0 0, .slice none 0 0, .int .i64 0], errV (ea 4)]) (by simp [results, Tryz.results40, go_sem, qv, fv, lv, Nat.ne_of_lt lv]) rfl ⟨.slice none 0 0, .slice none 0 0, rfl, ?_⟩
 all_goals exact ⟨World.ownsRow_nil _ _ _ _, World.ownsRow_nil _ _ _ _, by have hB := B2; have hz := hB.size; go_grown⟩
theorem join_bad2 (L : SLoc) (S : Sto) (an aq oc dp : Int) (ex : Nat) (pr : Int) (now : Nat) (ea : Int → Addr) (w : World) (hE : EnvS ea w) (h : StoreAt L S w) (hG : StoGood S) (hx : F64 ex) (hn : F64 now) (hp : 1 ≤ pr ∧ pr ≤ 2) (hc : ctxOk an aq oc dp ex = false) :
    Calls Tryz.prog 40 #[.pointer (some ⟨L.sb, 0, none⟩), .agg #[.int .i64 an, .int .i64 aq, .int .i64 oc, .int .i64 dp, .float .f64 ex], .int .i64 pr, flV now] w (DoEnds ea res0 4 w) := by
 have HE := qq hE; have H := qq h; have HGL := qq hG.parts
 have HNw := qq (fun W (hW : Below w.heap.size w W) => (show Calls Tryz.prog 132 #[.int .i64 pr, .int .i64 2] W (Makes (.tuple #[.agg #[.int .i64 pr, .int .i64 2, .int .i64 1, .int .i64 0], .nilIface]) W) from seatNew_of pr 2 W hp (.inr rfl)))
 have HPt := qq (fun W hW => parts_of L S W hW hG.parts)
 have HR := qq (fun W hW => (show Calls Tryz.prog 133 #[.agg #[.int .i64 an, .int .i64 aq, .int .i64 oc, .int .i64 dp, .float .f64 ex]] W (Makes (.bool false) W) by have := scopeRight_of an aq oc dp ex hx ea W hW; rw [hc] at this; exact this))
 clear hc
 obtain ⟨n, hnn⟩ : ∃ n, n = S.parts.length := ⟨_, rfl⟩
 rw [← hnn] at HPt HGL
 have HNN := qq hnn
 clear hE h hG hx hn hnn hp
 (try dsimp only [errV] at *)
 go_enter Tryz.func40, Tryz.ntmps40
 go_wp2_with fail
 refine (HNw.out _ (by go_grown)).mono ?_
 rintro e w1 ⟨rfl, hb1⟩
 have B1 : Below w.heap.size w w1 := below_then (by go_grown) hb1
 have HC := qq (((Blk.fresh w #[.int .i64 an, .int .i64 aq, .int .i64 oc, .int .i64 dp, .float .f64 ex] 48 _ rfl).alloc (.cells #[.slice none 0 0, .slice none 0 0, .int .i64 0] 87)).below hb1)
 have HV := qq ((Blk.fresh (w.alloc (.cells #[.int .i64 an, .int .i64 aq, .int .i64 oc, .int .i64 dp, .float .f64 ex] 48)) #[.slice none 0 0, .slice none 0 0, .int .i64 0] 87 (w.heap.size + 1) (by simp)).below hb1)
 clear hb1
 have HC := qq (HC.out.alloc (.cells #[.int .i64 pr, .int .i64 2, .int .i64 1, .int .i64 0] 53)); have HV := qq (HV.out.alloc (.cells #[.int .i64 pr, .int .i64 2, .int .i64 1, .int .i64 0] 53))
 have HS := qq (Blk.fresh w1 #[.int .i64 pr, .int .i64 2, .int .i64 1, .int .i64 0] 53 _ rfl)
 go_wp2_with fail
 refine (HPt.out _ (H.out.below (B1.alloc B1.size _))).mono ?_
 rintro e w2 ⟨v', rfl, ho, hb2⟩
 obtain ⟨a', cap', rfl⟩ := row_slice ho
 have B2 : Below w.heap.size w w2 := below_then (B1.alloc B1.size _) hb2
 have HC := qq (HC.out.below hb2); have HV := qq (HV.out.below hb2); have HS := qq (HS.out.below hb2)
 clear ho hb2 B1
 have qc := HC.out.cell; have lc := HC.out.lt
 go_wp2_with fail
 clear qc lc
 refine (HR.out _ (HE.out.below B2)).mono ?_
 rintro e w3 ⟨rfl, hb3⟩
 have B3 := below_then B2 hb3
 have HC := qq (HC.out.below hb3); have HV := qq (HV.out.below hb3); have HS := qq (HS.out.below hb3)
 clear hb3
 have q8 : w3.cell? ⟨3, 0, none⟩ = some (errV (ea 4)) := HE.out.e.e4.below B3
 have lg : 3 < w.heap.size := lt_of_cell HE.out.e.e4
 have ng : ¬ w.heap.size + 1 = 3 := by omega
 have ng2 : ¬ 3 = w.heap.size + 1 := by omega
 have HV2 := HV.out
 have qv := HV2.cell; have fv := HV2.free; have lv := HV2.lt
 clear HV2
 dsimp only [errV] at q8
 go_wp2_with fail
 go_region
 all_goals go_wp2_with fail
 all_goals refine bodyPost_ret (v := .tuple #[.agg #[.slice none 0 0, .slice none 0 0, .int .i64 0], errV (ea 4)]) (by simp [results, Tryz.results40, go_sem, qv, fv, lv, Nat.ne_of_lt lv]) rfl ⟨.slice none 0 0, .slice none 0 0, rfl, ?_⟩
 all_goals exact ⟨World.ownsRow_nil _ _ _ _, World.ownsRow_nil _ _ _ _, by have hB := B3; have hz := hB.size; go_grown⟩
theorem join_late (L : SLoc) (S : Sto) (an aq oc dp : Int) (ex : Nat) (pr : Int) (now : Nat) (ea : Int → Addr) (w : World) (hE : EnvS ea w) (h : StoreAt L S w) (hG : StoGood S) (hx : F64 ex) (hn : F64 now) (hp : 1 ≤ pr ∧ pr ≤ 2) (hc : ctxOk an aq oc dp ex = true) (ho : ctxOpen an aq oc dp ex now = false) :
    Calls Tryz.prog 40 #[.pointer (some ⟨L.sb, 0, none⟩), .agg #[.int .i64 an, .int .i64 aq, .int .i64 oc, .int .i64 dp, .float .f64 ex], .int .i64 pr, flV now] w (DoEnds ea res0 12 w) := by
 have HE := qq hE; have H := qq h; have HGL := qq hG.parts
 have HNw := qq (fun W (hW : Below w.heap.size w W) => (show Calls Tryz.prog 132 #[.int .i64 pr, .int .i64 2] W (Makes (.tuple #[.agg #[.int .i64 pr, .int .i64 2, .int .i64 1, .int .i64 0], .nilIface]) W) from seatNew_of pr 2 W hp (.inr rfl)))
 have HPt := qq (fun W hW => parts_of L S W hW hG.parts)
 have HR := qq (fun W hW => (show Calls Tryz.prog 133 #[.agg #[.int .i64 an, .int .i64 aq, .int .i64 oc, .int .i64 dp, .float .f64 ex]] W (Makes (.bool true) W) by have := scopeRight_of an aq oc dp ex hx ea W hW; rw [hc] at this; exact this))
 clear hc
 have HO := qq (fun W hW => (show Calls Tryz.prog 134 #[.agg #[.int .i64 an, .int .i64 aq, .int .i64 oc, .int .i64 dp, .float .f64 ex], flV now] W (Makes (.bool false) W) by have := scopeOpen_of an aq oc dp ex now hx hn ea W hW; rw [ho] at this; exact this))
 clear ho
 obtain ⟨n, hnn⟩ : ∃ n, n = S.parts.length := ⟨_, rfl⟩
 rw [← hnn] at HPt HGL
 have HNN := qq hnn
 clear hE h hG hx hn hnn hp
 (try dsimp only [errV] at *)
 go_enter Tryz.func40, Tryz.ntmps40
 go_wp2_with fail
 refine (HNw.out _ (by go_grown)).mono ?_
 rintro e w1 ⟨rfl, hb1⟩
 have B1 : Below w.heap.size w w1 := below_then (by go_grown) hb1
 have HC := qq (((Blk.fresh w #[.int .i64 an, .int .i64 aq, .int .i64 oc, .int .i64 dp, .float .f64 ex] 48 _ rfl).alloc (.cells #[.slice none 0 0, .slice none 0 0, .int .i64 0] 87)).below hb1)
 have HV := qq ((Blk.fresh (w.alloc (.cells #[.int .i64 an, .int .i64 aq, .int .i64 oc, .int .i64 dp, .float .f64 ex] 48)) #[.slice none 0 0, .slice none 0 0, .int .i64 0] 87 (w.heap.size + 1) (by simp)).below hb1)
 clear hb1
 have HC := qq (HC.out.alloc (.cells #[.int .i64 pr, .int .i64 2, .int .i64 1, .int .i64 0] 53)); have HV := qq (HV.out.alloc (.cells #[.int .i64 pr, .int .i64 2, .int .i64 1, .int .i64 0] 53))
 have HS := qq (Blk.fresh w1 #[.int .i64 pr, .int .i64 2, .int .i64 1, .int .i64 0] 53 _ rfl)
 go_wp2_with fail
 refine (HPt.out _ (H.out.below (B1.alloc B1.size _))).mono ?_
 rintro e w2 ⟨v', rfl, ho, hb2⟩
 obtain ⟨a', cap', rfl⟩ := row_slice ho
 have B2 : Below w.heap.size w w2 := below_then (B1.alloc B1.size _) hb2
 have HC := qq (HC.out.below hb2); have HV := qq (HV.out.below hb2); have HS := qq (HS.out.below hb2)
 clear ho hb2 B1
 have qc := HC.out.cell; have lc := HC.out.lt
 go_wp2_with fail
 clear qc lc
 refine (HR.out _ (HE.out.below B2)).mono ?_
 rintro e w3 ⟨rfl, hb3⟩
 have B3 := below_then B2 hb3
 have HC := qq (HC.out.below hb3); have HV := qq (HV.out.below hb3); have HS := qq (HS.out.below hb3)
 clear hb3
 have qc := HC.out.cell; have lc := HC.out.lt
 go_wp2_with fail
 clear qc lc
 refine (HO.out _ (HE.out.below B3)).mono ?_
 rintro e w4 ⟨rfl, hb4⟩
 have B4 := below_then B3 hb4
 have HC := qq (HC.out.below hb4); have HV := qq (HV.out.below hb4); have HS := qq (HS.out.below hb4)
 clear hb4
 have q8 : w4.cell? ⟨11, 0, none⟩ = some (errV (ea 12)) := HE.out.e.e12.below B4
 have lg : 11 < w.heap.size := lt_of_cell HE.out.e.e12
 have ng : ¬ w.heap.size + 1 = 11 := by omega
 have ng2 : ¬ 11 = w.heap.size + 1 := by omega
 have HV2 := HV.out
 have qv := HV2.cell; have fv := HV2.free; have lv := HV2.lt
 clear HV2
 dsimp only [errV] at q8
 go_wp2_with fail
 go_region
 all_goals go_wp2_with fail
 all_goals refine bodyPost_ret (v := .tuple #[.agg #[.slice none 0 0, .slice none 0 0, .int .i64 0], errV (ea 12)]) (by simp [results, Tryz.results40, go_sem, qv, fv, lv, Nat.ne_of_lt lv]) rfl ⟨.slice none 0 0, .slice none 0 0, rfl, ?_⟩
 all_goals exact ⟨World.ownsRow_nil _ _ _ _, World.ownsRow_nil _ _ _ _, by have hB := B4; have hz := hB.size; go_grown⟩
theorem join_full (L : SLoc) (S : Sto) (an aq oc dp : Int) (ex : Nat) (pr : Int) (now : Nat) (ea : Int → Addr) (w : World) (hE : EnvS ea w) (h : StoreAt L S w) (hG : StoGood S) (hx : F64 ex) (hn : F64 now) (hp : 1 ≤ pr ∧ pr ≤ 2) (hc : ctxOk an aq oc dp ex = true) (ho : ctxOpen an aq oc dp ex now = true) (hlen : 8 ≤ S.parts.length) :
    Calls Tryz.prog 40 #[.pointer (some ⟨L.sb, 0, none⟩), .agg #[.int .i64 an, .int .i64 aq, .int .i64 oc, .int .i64 dp, .float .f64 ex], .int .i64 pr, flV now] w (DoEnds ea res0 6 w) := by
 have HE := qq hE; have H := qq h; have HGL := qq hG.parts
 have HNw := qq (fun W (hW : Below w.heap.size w W) => (show Calls Tryz.prog 132 #[.int .i64 pr, .int .i64 2] W (Makes (.tuple #[.agg #[.int .i64 pr, .int .i64 2, .int .i64 1, .int .i64 0], .nilIface]) W) from seatNew_of pr 2 W hp (.inr rfl)))
 have HPt := qq (fun W hW => parts_of L S W hW hG.parts)
 have HR := qq (fun W hW => (show Calls Tryz.prog 133 #[.agg #[.int .i64 an, .int .i64 aq, .int .i64 oc, .int .i64 dp, .float .f64 ex]] W (Makes (.bool true) W) by have := scopeRight_of an aq oc dp ex hx ea W hW; rw [hc] at this; exact this))
 clear hc
 have HO := qq (fun W hW => (show Calls Tryz.prog 134 #[.agg #[.int .i64 an, .int .i64 aq, .int .i64 oc, .int .i64 dp, .float .f64 ex], flV now] W (Makes (.bool true) W) by have := scopeOpen_of an aq oc dp ex now hx hn ea W hW; rw [ho] at this; exact this))
 clear ho
 obtain ⟨n, hnn⟩ : ∃ n, n = S.parts.length := ⟨_, rfl⟩
 rw [← hnn] at HPt HGL hlen
 have HNN := qq hnn
 clear hE h hG hx hn hnn hp
 (try dsimp only [errV] at *)
 go_enter Tryz.func40, Tryz.ntmps40
 go_wp2_with fail
 refine (HNw.out _ (by go_grown)).mono ?_
 rintro e w1 ⟨rfl, hb1⟩
 have B1 : Below w.heap.size w w1 := below_then (by go_grown) hb1
 have HC := qq (((Blk.fresh w #[.int .i64 an, .int .i64 aq, .int .i64 oc, .int .i64 dp, .float .f64 ex] 48 _ rfl).alloc (.cells #[.slice none 0 0, .slice none 0 0, .int .i64 0] 87)).below hb1)
 have HV := qq ((Blk.fresh (w.alloc (.cells #[.int .i64 an, .int .i64 aq, .int .i64 oc, .int .i64 dp, .float .f64 ex] 48)) #[.slice none 0 0, .slice none 0 0, .int .i64 0] 87 (w.heap.size + 1) (by simp)).below hb1)
 clear hb1
 have HC := qq (HC.out.alloc (.cells #[.int .i64 pr, .int .i64 2, .int .i64 1, .int .i64 0] 53)); have HV := qq (HV.out.alloc (.cells #[.int .i64 pr, .int .i64 2, .int .i64 1, .int .i64 0] 53))
 have HS := qq (Blk.fresh w1 #[.int .i64 pr, .int .i64 2, .int .i64 1, .int .i64 0] 53 _ rfl)
 go_wp2_with fail
 refine (HPt.out _ (H.out.below (B1.alloc B1.size _))).mono ?_
 rintro e w2 ⟨v', rfl, ho, hb2⟩
 obtain ⟨a', cap', rfl⟩ := row_slice ho
 have B2 : Below w.heap.size w w2 := below_then (B1.alloc B1.size _) hb2
 have HC := qq (HC.out.below hb2); have HV := qq (HV.out.below hb2); have HS := qq (HS.out.below hb2)
 clear ho hb2 B1
 have qc := HC.out.cell; have lc := HC.out.lt
 go_wp2_with fail
 clear qc lc
 refine (HR.out _ (HE.out.below B2)).mono ?_
 rintro e w3 ⟨rfl, hb3⟩
 have B3 := below_then B2 hb3
 have HC := qq (HC.out.below hb3); have HV := qq (HV.out.below hb3); have HS := qq (HS.out.below hb3)
 clear hb3
 have qc := HC.out.cell; have lc := HC.out.lt
 go_wp2_with fail
 clear qc lc
 refine (HO.out _ (HE.out.below B3)).mono ?_
 rintro e w4 ⟨rfl, hb4⟩
 have B4 := below_then B3 hb4
 have HC := qq (HC.out.below hb4); have HV := qq (HV.out.below hb4); have HS := qq (HS.out.below hb4)
 clear hb4
 have hge : decide ((8 : Int) ≤ (n : Int)) = true := decide_eq_true (by omega)
 have q8 : w4.cell? ⟨5, 0, none⟩ = some (errV (ea 6)) := HE.out.e.e6.below B4
 have lg : 5 < w.heap.size := lt_of_cell HE.out.e.e6
 have ng : ¬ w.heap.size + 1 = 5 := by omega
 have ng2 : ¬ 5 = w.heap.size + 1 := by omega
 have HV2 := HV.out
 have qv := HV2.cell; have fv := HV2.free; have lv := HV2.lt
 clear HV2
 dsimp only [errV] at q8
 go_wp2_with fail
 go_region
 all_goals go_wp2_with fail
 all_goals refine bodyPost_ret (v := .tuple #[.agg #[.slice none 0 0, .slice none 0 0, .int .i64 0], errV (ea 6)]) (by simp [results, Tryz.results40, go_sem, qv, fv, lv, Nat.ne_of_lt lv]) rfl ⟨.slice none 0 0, .slice none 0 0, rfl, ?_⟩
 all_goals exact ⟨World.ownsRow_nil _ _ _ _, World.ownsRow_nil _ _ _ _, by have hB := B4; have hz := hB.size; go_grown⟩
theorem join_ok (L : SLoc) (S : Sto) (an aq oc dp : Int) (ex : Nat) (pr : Int) (now : Nat) (ea : Int → Addr) (w : World) (hE : EnvS ea w) (h : StoreAt L S w) (hG : StoGood S) (hx : F64 ex) (hn : F64 now) (hp : 1 ≤ pr ∧ pr ≤ 2) (hc : ctxOk an aq oc dp ex = true) (ho : ctxOpen an aq oc dp ex now = true) (hlen : ¬ 8 ≤ S.parts.length) :
    Calls Tryz.prog 40 #[.pointer (some ⟨L.sb, 0, none⟩), .agg #[.int .i64 an, .int .i64 aq, .int .i64 oc, .int .i64 dp, .float .f64 ex], .int .i64 pr, flV now] w (DoEnds ea ⟨[fJoin S.parts.length an aq pr], [⟨17, S.node, an, an, aq, 0, S.parts.length, pr, 0⟩], 0⟩ 0 w) := by
 have HE := qq hE; have H := qq h; have HGL := qq hG.parts
 have HNw := qq (fun W (hW : Below w.heap.size w W) => (show Calls Tryz.prog 132 #[.int .i64 pr, .int .i64 2] W (Makes (.tuple #[.agg #[.int .i64 pr, .int .i64 2, .int .i64 1, .int .i64 0], .nilIface]) W) from seatNew_of pr 2 W hp (.inr rfl)))
 have HPt := qq (fun W hW => parts_of L S W hW hG.parts)
 have HR := qq (fun W hW => (show Calls Tryz.prog 133 #[.agg #[.int .i64 an, .int .i64 aq, .int .i64 oc, .int .i64 dp, .float .f64 ex]] W (Makes (.bool true) W) by have := scopeRight_of an aq oc dp ex hx ea W hW; rw [hc] at this; exact this))
 clear hc
 have HO := qq (fun W hW => (show Calls Tryz.prog 134 #[.agg #[.int .i64 an, .int .i64 aq, .int .i64 oc, .int .i64 dp, .float .f64 ex], flV now] W (Makes (.bool true) W) by have := scopeOpen_of an aq oc dp ex now hx hn ea W hW; rw [ho] at this; exact this))
 clear ho
 have HNd := qq (fun W hW => node_of L S W hW)
 obtain ⟨nd, hnd⟩ : ∃ nd, nd = S.node := ⟨_, rfl⟩
 rw [← hnd] at HNd ⊢
 have HRt := qq (fun Q r W h hl => remember_of Q r (fJoin (S.parts.length : Nat) an aq pr) W h hl)
 have HRg := qq (fun W => register_of ⟨an, aq, -1, ⟨pr, 2, 1, 0⟩⟩ nd (S.parts.length : Nat) W)
 have HSm := qq (fun Q r W h hl => send_of Q r ⟨17, nd, an, an, aq, 0, (S.parts.length : Nat), pr, 0⟩ W h hl)
 unfold DoEnds
 rw [show errOf ea 0 = .nilIface from rfl]
 obtain ⟨n, hnn⟩ : ∃ n, n = S.parts.length := ⟨_, rfl⟩
 rw [← hnn] at HPt HGL hlen HRt HRg HSm ⊢
 have HNN := qq hnn
 clear hE h hG hx hn hnn hp hnd
 dsimp only [errV, oneV, msgV, msgA, factV, factC, fJoin] at *
 go_enter Tryz.func40, Tryz.ntmps40
 go_wp2_with fail
 refine (HNw.out _ (by go_grown)).mono ?_
 rintro e w1 ⟨rfl, hb1⟩
 have B1 : Below w.heap.size w w1 := below_then (by go_grown) hb1
 have HC := qq (((Blk.fresh w #[.int .i64 an, .int .i64 aq, .int .i64 oc, .int .i64 dp, .float .f64 ex] 48 _ rfl).alloc (.cells #[.slice none 0 0, .slice none 0 0, .int .i64 0] 87)).below hb1)
 have HV := qq ((Blk.fresh (w.alloc (.cells #[.int .i64 an, .int .i64 aq, .int .i64 oc, .int .i64 dp, .float .f64 ex] 48)) #[.slice none 0 0, .slice none 0 0, .int .i64 0] 87 (w.heap.size + 1) (by simp)).below hb1)
 clear hb1
 have HC := qq (HC.out.alloc (.cells #[.int .i64 pr, .int .i64 2, .int .i64 1, .int .i64 0] 53)); have HV := qq (HV.out.alloc (.cells #[.int .i64 pr, .int .i64 2, .int .i64 1, .int .i64 0] 53))
 have HS := qq (Blk.fresh w1 #[.int .i64 pr, .int .i64 2, .int .i64 1, .int .i64 0] 53 _ rfl)
 go_wp2_with fail
 refine (HPt.out _ (H.out.below (B1.alloc B1.size _))).mono ?_
 rintro e w2 ⟨v', rfl, ho, hb2⟩
 obtain ⟨a', cap', rfl⟩ := row_slice ho
 have B2 : Below w.heap.size w w2 := below_then (B1.alloc B1.size _) hb2
 have HC := qq (HC.out.below hb2); have HV := qq (HV.out.below hb2); have HS := qq (HS.out.below hb2)
 clear ho hb2 B1
 have qc := HC.out.cell; have lc := HC.out.lt
 go_wp2_with fail
 clear qc lc
 refine (HR.out _ (HE.out.below B2)).mono ?_
 rintro e w3 ⟨rfl, hb3⟩
 have B3 := below_then B2 hb3
 have HC := qq (HC.out.below hb3); have HV := qq (HV.out.below hb3); have HS := qq (HS.out.below hb3)
 clear hb3
 have qc := HC.out.cell; have lc := HC.out.lt
 go_wp2_with fail
 clear qc lc
 refine (HO.out _ (HE.out.below B3)).mono ?_
 rintro e w4 ⟨rfl, hb4⟩
 have B4 := below_then B3 hb4
 have HC := qq (HC.out.below hb4); have HV := qq (HV.out.below hb4); have HS := qq (HS.out.below hb4)
 clear hb4
 have hge : decide ((8 : Int) ≤ (n : Int)) = false := decide_eq_false (by omega)
 have HB := qq B4
 obtain ⟨lHC, qHC, fHC⟩ := HC.out
 obtain ⟨lHV, qHV, fHV⟩ := HV.out
 obtain ⟨lHS, qHS, fHS⟩ := HS.out
 go_wp2_with fail
 clear qHC fHC lHC qHV fHV lHV qHS fHS lHS
 refine reg_start (fun w' => Blk w' _ _ ∧ Blk w' _ _ ∧ Blk w' _ _ ∧ Below w.heap.size w w') (by kernel_rfl) ⟨HC.out.drew, HV.out.drew, HS.out.drew, (bel_drew HB.out)⟩ ?_
 rintro w5 hHeld
 obtain ⟨HC', HV', HS', HB'⟩ := id hHeld
 have HC := qq HC'; have HV := qq HV'; have HS := qq HS'; have HB := qq HB'; clear HC' HV' HS' HB'
 have z5 := HB.out.size
 refine takeM (d := some 45) 0 rfl rfl hHeld (fun w' _ => by go_simp; (try rfl)) ?_
 simp only [puts]
 refine takeM (d := some 46) 1 rfl rfl hHeld (fun w' hS' => by have qA := hS'.1.cell; clear hS'; go_simp; (try rfl)) ?_
 simp only [puts]
 refine takeM (d := some 47) 2 rfl rfl hHeld (fun w' hS' => by have qA := hS'.2.2.1.cell; clear hS'; go_simp; (try rfl)) ?_
 simp only [puts]
 refine takeM (d := some 48) 3 rfl rfl hHeld (fun w' _ => by go_simp; (try rfl)) ?_
 simp only [puts]
 refine takeM (d := some 49) 4 rfl rfl hHeld (fun w' _ => by go_simp; (try rfl)) ?_
 simp only [puts]
 refine takeM (d := some 51) 6 rfl rfl hHeld (fun w' _ => by go_simp; (try rfl)) ?_
 simp only [puts]
 refine two_M 5 8 (by kernel_rfl) ?_ ?_
 refine wpOp_call (d := some 50) 5 94 _ _ [.pointer (some ⟨L.sb, 0, none⟩)] rfl rfl rfl (enters_of Tryz.func94 (by kernel_rfl) rfl) (by rfl) (by rfl) ?_
 refine (HNd.out _ (H.out.below HB.out)).mono ?_
 rintro e w6 ⟨rfl, rfl⟩
 refine ret_S hHeld (fun hHeld => ?_)
 simp only [puts]
 refine takeM (d := some 52) 7 rfl rfl hHeld (fun w' _ => by go_simp; (try rfl)) ?_
 simp only [puts]
 refine one_M 8 (by kernel_rfl) ?_
 have o1HC := HC.out.lt; have o1HV := HV.out.lt; have o1HS := HS.out.lt
 refine new_T (d := some 13) 8 (.pointer (some ⟨w5.heap.size, 0, none⟩)) #[.int .i64 0, .int .i64 0, .int .i64 0, .int .i64 0, .int .i64 0, .int .i64 0, .int .i64 0, .int .i64 0, .int .i64 0] 205 rfl rfl (by go_simp) ⟨(HC.out.alloc _), (HV.out.alloc _), (HS.out.alloc _), (bel_alloc HB.out _)⟩ ?_
 clear hHeld
 rintro w7 hHeld
 obtain ⟨⟨HC', HV', HS', HB'⟩, ⟨K1', TK1'⟩, RK1'⟩ := id hHeld
 have HC := qq HC'; have HV := qq HV'; have HS := qq HS'; have HB := qq HB'; have K1 := qq K1'; have RK1 := qq RK1'; have TK1 := qq TK1'; clear HC' HV' HS' HB' K1' RK1' TK1'
 have z7 := HB.out.size
 have y7 := RK1.out.size
 simp only [puts]
 refine last_row 9 205 (.tmp 13) (.tmp 52) rfl rfl rfl (w5.heap.size) #[.int .i64 an, .int .i64 aq, .int .i64 (-1), .int .i64 pr, .int .i64 2, .int .i64 1, .int .i64 0, .int .i64 nd, .int .i64 n] #[.int .i64 0, .int .i64 0, .int .i64 0, .int .i64 0, .int .i64 0, .int .i64 0, .int .i64 0, .int .i64 0, .int .i64 0] 205 TK1.out rfl rfl (by kernel_rfl) rfl (by simp [Value.oneCell']) ?_
 clear hHeld
 rintro w8 hK hg
 have HC := qq (HC.out.gr hg (by omega))
 have HV := qq (HV.out.gr hg (by omega))
 have HS := qq (HS.out.gr hg (by omega))
 have K1 := qq hK
 have HB := qq (bel_gr HB.out hg (by omega))
 clear hK hg
 have z8 := HB.out.size
 (try simp only [puts])
 rotate_left 1
 have o1HC := HC.out.lt; have o1HV := HV.out.lt; have o1HS := HS.out.lt
 refine new_T (d := some 13) 8 (.pointer (some ⟨w5.heap.size, 0, none⟩)) #[.int .i64 0, .int .i64 0, .int .i64 0, .int .i64 0, .int .i64 0, .int .i64 0, .int .i64 0, .int .i64 0, .int .i64 0] 205 rfl rfl (by go_simp) ⟨(HC.out.alloc _), (HV.out.alloc _), (HS.out.alloc _), (bel_alloc HB.out _)⟩ ?_
 clear hHeld
 rintro w6 hHeld
 obtain ⟨⟨HC', HV', HS', HB'⟩, ⟨K1', TK1'⟩, RK1'⟩ := id hHeld
 have HC := qq HC'; have HV := qq HV'; have HS := qq HS'; have HB := qq HB'; have K1 := qq K1'; have RK1 := qq RK1'; have TK1 := qq TK1'; clear HC' HV' HS' HB' K1' RK1' TK1'
 have z6 := HB.out.size
 have y6 := RK1.out.size
 simp only [puts]
 refine one_M 5 (by kernel_rfl) ?_
 refine wpOp_call (d := some 50) 5 94 _ _ [.pointer (some ⟨L.sb, 0, none⟩)] rfl rfl rfl (enters_of Tryz.func94 (by kernel_rfl) rfl) (by rfl) (by rfl) ?_
 refine (HNd.out _ (H.out.below HB.out)).mono ?_
 rintro e w7 ⟨rfl, rfl⟩
 refine ret_S hHeld (fun hHeld => ?_)
 simp only [puts]
 refine takeM (d := some 52) 7 rfl rfl hHeld (fun w' _ => by go_simp; (try rfl)) ?_
 simp only [puts]
 refine last_row 9 205 (.tmp 13) (.tmp 52) rfl rfl rfl (w5.heap.size) #[.int .i64 an, .int .i64 aq, .int .i64 (-1), .int .i64 pr, .int .i64 2, .int .i64 1, .int .i64 0, .int .i64 nd, .int .i64 n] #[.int .i64 0, .int .i64 0, .int .i64 0, .int .i64 0, .int .i64 0, .int .i64 0, .int .i64 0, .int .i64 0, .int .i64 0] 205 TK1.out rfl rfl (by kernel_rfl) rfl (by simp [Value.oneCell']) ?_
 clear hHeld
 rintro w8 hK hg
 have HC := qq (HC.out.gr hg (by omega))
 have HV := qq (HV.out.gr hg (by omega))
 have HS := qq (HS.out.gr hg (by omega))
 have K1 := qq hK
 have HB := qq (bel_gr HB.out hg (by omega))
 clear hK hg
 have z8 := HB.out.size
 (try simp only [puts])
 rotate_left 1
 all_goals
  have HOb := K1; have B5 := HB.out
  have hVO : w.heap.size + 1 < w5.heap.size := o1HV
  have HF := qq (fr_wk (bs := [(w.heap.size, #[.int .i64 an, .int .i64 aq, .int .i64 oc, .int .i64 dp, .float .f64 ex]), (w.heap.size + 1, #[.slice none 0 0, .slice none 0 0, .int .i64 0]), (w5.heap.size, #[.int .i64 an, .int .i64 aq, .int .i64 (-1), .int .i64 pr, .int .i64 2, .int .i64 1, .int .i64 0, .int .i64 nd, .int .i64 n])]) (w := w) (W := w8) B5 (by
    intro y hy
    simp only [List.mem_cons, List.not_mem_nil, or_false] at hy
    rcases hy with rfl | rfl | rfl
    · exact HC.out
    · exact HV.out
    · exact HOb.out) (by simp; omega) 0 87)
  clear B5
  have hlt := HF.out.lt
  dsimp only at hlt
  have qc := (HF.out.bl (w.heap.size, #[.int .i64 an, .int .i64 aq, .int .i64 oc, .int .i64 dp, .float .f64 ex]) (by simp)).cell; have fc := (HF.out.bl (w.heap.size, #[.int .i64 an, .int .i64 aq, .int .i64 oc, .int .i64 dp, .float .f64 ex]) (by simp)).free; have lc := (HF.out.bl (w.heap.size, #[.int .i64 an, .int .i64 aq, .int .i64 oc, .int .i64 dp, .float .f64 ex]) (by simp)).lt
  have qv := (HF.out.bl (w.heap.size + 1, #[.slice none 0 0, .slice none 0 0, .int .i64 0]) (by simp)).cell; have fv := (HF.out.bl (w.heap.size + 1, #[.slice none 0 0, .slice none 0 0, .int .i64 0]) (by simp)).free; have lv := (HF.out.bl (w.heap.size + 1, #[.slice none 0 0, .slice none 0 0, .int .i64 0]) (by simp)).lt
  have qo := (HF.out.bl (w5.heap.size, #[.int .i64 an, .int .i64 aq, .int .i64 (-1), .int .i64 pr, .int .i64 2, .int .i64 1, .int .i64 0, .int .i64 nd, .int .i64 n]) (by simp)).cell; have fo := (HF.out.bl (w5.heap.size, #[.int .i64 an, .int .i64 aq, .int .i64 (-1), .int .i64 pr, .int .i64 2, .int .i64 1, .int .i64 0, .int .i64 nd, .int .i64 n]) (by simp)).free; have lo := (HF.out.bl (w5.heap.size, #[.int .i64 an, .int .i64 aq, .int .i64 (-1), .int .i64 pr, .int .i64 2, .int .i64 1, .int .i64 0, .int .i64 nd, .int .i64 n]) (by simp)).lt
  dsimp only at qc fc lc qv fv lv qo fo lo
  go_wp2_with fail
  clear hlt qc fc lc qv fv lv qo fo lo
  refine (HRt.out _ _ _ HF.out.q (by simp)).mono ?_
  rintro e w16 ⟨rfl, hs16⟩
  obtain ⟨fv16, mv16, hF16⟩ := HF.out.goes hs16
  have HF := qq hF16
  clear hs16 hF16
  have hlt := HF.out.lt
  dsimp only at hlt
  have qc := (HF.out.bl (w.heap.size, #[.int .i64 an, .int .i64 aq, .int .i64 oc, .int .i64 dp, .float .f64 ex]) (by simp)).cell; have fc := (HF.out.bl (w.heap.size, #[.int .i64 an, .int .i64 aq, .int .i64 oc, .int .i64 dp, .float .f64 ex]) (by simp)).free; have lc := (HF.out.bl (w.heap.size, #[.int .i64 an, .int .i64 aq, .int .i64 oc, .int .i64 dp, .float .f64 ex]) (by simp)).lt
  have qv := (HF.out.bl (w.heap.size + 1, #[.slice none 0 0, .slice none 0 0, .int .i64 0]) (by simp)).cell; have fv := (HF.out.bl (w.heap.size + 1, #[.slice none 0 0, .slice none 0 0, .int .i64 0]) (by simp)).free; have lv := (HF.out.bl (w.heap.size + 1, #[.slice none 0 0, .slice none 0 0, .int .i64 0]) (by simp)).lt
  have qo := (HF.out.bl (w5.heap.size, #[.int .i64 an, .int .i64 aq, .int .i64 (-1), .int .i64 pr, .int .i64 2, .int .i64 1, .int .i64 0, .int .i64 nd, .int .i64 n]) (by simp)).cell; have fo := (HF.out.bl (w5.heap.size, #[.int .i64 an, .int .i64 aq, .int .i64 (-1), .int .i64 pr, .int .i64 2, .int .i64 1, .int .i64 0, .int .i64 nd, .int .i64 n]) (by simp)).free; have lo := (HF.out.bl (w5.heap.size, #[.int .i64 an, .int .i64 aq, .int .i64 (-1), .int .i64 pr, .int .i64 2, .int .i64 1, .int .i64 0, .int .i64 nd, .int .i64 n]) (by simp)).lt
  dsimp only at qc fc lc qv fv lv qo fo lo
  go_wp2_with fail
  clear hlt qc fc lc qv fv lv qo fo lo
  refine (HRg.out _).mono ?_
  rintro e w17 ⟨rfl, hb17⟩
  have HF := qq (HF.out.below hb17)
  clear hb17
  have hlt := HF.out.lt
  dsimp only at hlt
  have qc := (HF.out.bl (w.heap.size, #[.int .i64 an, .int .i64 aq, .int .i64 oc, .int .i64 dp, .float .f64 ex]) (by simp)).cell; have fc := (HF.out.bl (w.heap.size, #[.int .i64 an, .int .i64 aq, .int .i64 oc, .int .i64 dp, .float .f64 ex]) (by simp)).free; have lc := (HF.out.bl (w.heap.size, #[.int .i64 an, .int .i64 aq, .int .i64 oc, .int .i64 dp, .float .f64 ex]) (by simp)).lt
  have qv := (HF.out.bl (w.heap.size + 1, #[.slice none 0 0, .slice none 0 0, .int .i64 0]) (by simp)).cell; have fv := (HF.out.bl (w.heap.size + 1, #[.slice none 0 0, .slice none 0 0, .int .i64 0]) (by simp)).free; have lv := (HF.out.bl (w.heap.size + 1, #[.slice none 0 0, .slice none 0 0, .int .i64 0]) (by simp)).lt
  have qo := (HF.out.bl (w5.heap.size, #[.int .i64 an, .int .i64 aq, .int .i64 (-1), .int .i64 pr, .int .i64 2, .int .i64 1, .int .i64 0, .int .i64 nd, .int .i64 n]) (by simp)).cell; have fo := (HF.out.bl (w5.heap.size, #[.int .i64 an, .int .i64 aq, .int .i64 (-1), .int .i64 pr, .int .i64 2, .int .i64 1, .int .i64 0, .int .i64 nd, .int .i64 n]) (by simp)).free; have lo := (HF.out.bl (w5.heap.size, #[.int .i64 an, .int .i64 aq, .int .i64 (-1), .int .i64 pr, .int .i64 2, .int .i64 1, .int .i64 0, .int .i64 nd, .int .i64 n]) (by simp)).lt
  dsimp only at qc fc lc qv fv lv qo fo lo
  go_wp2_with fail
  clear hlt qc fc lc qv fv lv qo fo lo
  refine (HSm.out _ _ _ HF.out.q (by simp)).mono ?_
  rintro e w18 ⟨rfl, hs18⟩
  obtain ⟨fv18, mv18, hF18⟩ := HF.out.goes hs18
  have HF := qq hF18
  clear hs18 hF18
  obtain ⟨af, lf, cf, hfv⟩ := row_form3 HF.out.q.fs
  obtain ⟨am, lm, cm, hmv⟩ := row_form3 HF.out.q.ms
  dsimp only at hfv hmv
  subst hfv hmv
  have hlt := HF.out.lt
  dsimp only at hlt
  have qc := (HF.out.bl (w.heap.size, #[.int .i64 an, .int .i64 aq, .int .i64 oc, .int .i64 dp, .float .f64 ex]) (by simp)).cell; have fc := (HF.out.bl (w.heap.size, #[.int .i64 an, .int .i64 aq, .int .i64 oc, .int .i64 dp, .float .f64 ex]) (by simp)).free; have lc := (HF.out.bl (w.heap.size, #[.int .i64 an, .int .i64 aq, .int .i64 oc, .int .i64 dp, .float .f64 ex]) (by simp)).lt
  have qv := (HF.out.bl (w.heap.size + 1, #[.slice none 0 0, .slice none 0 0, .int .i64 0]) (by simp)).cell; have fv := (HF.out.bl (w.heap.size + 1, #[.slice none 0 0, .slice none 0 0, .int .i64 0]) (by simp)).free; have lv := (HF.out.bl (w.heap.size + 1, #[.slice none 0 0, .slice none 0 0, .int .i64 0]) (by simp)).lt
  have qo := (HF.out.bl (w5.heap.size, #[.int .i64 an, .int .i64 aq, .int .i64 (-1), .int .i64 pr, .int .i64 2, .int .i64 1, .int .i64 0, .int .i64 nd, .int .i64 n]) (by simp)).cell; have fo := (HF.out.bl (w5.heap.size, #[.int .i64 an, .int .i64 aq, .int .i64 (-1), .int .i64 pr, .int .i64 2, .int .i64 1, .int .i64 0, .int .i64 nd, .int .i64 n]) (by simp)).free; have lo := (HF.out.bl (w5.heap.size, #[.int .i64 an, .int .i64 aq, .int .i64 (-1), .int .i64 pr, .int .i64 2, .int .i64 1, .int .i64 0, .int .i64 nd, .int .i64 n]) (by simp)).lt
  dsimp only at qc fc lc qv fv lv qo fo lo
  have q0 := HF.out.q.blk.cell; have f0 := HF.out.q.blk.free
  dsimp only at q0 f0
  go_wp2_with fail
  refine bodyPost_ret (v := .tuple #[.agg #[.slice af lf cf, .slice am lm cm, .int .i64 0], .nilIface]) (by simp [results, Tryz.results40, go_sem, qv, fv, lv, Nat.ne_of_lt lv]) rfl ⟨_, _, rfl, ?_⟩
  exact HF.out.ends (b := w.heap.size + 1) (C := #[.slice none 0 0, .slice none 0 0, .int .i64 0]) (by simp) (Nat.le_succ _) _ _ _
theorem pjoin_of (L : SLoc) (S : Sto) (an aq oc dp : Int) (ex : Nat) (pr : Int) (now : Nat) (ea : Int → Addr) (w : World) (hE : EnvS ea w) (h : StoreAt L S w) (hG : StoGood S) (hx : F64 ex) (hn : F64 now) :
    Calls Tryz.prog 40 #[.pointer (some ⟨L.sb, 0, none⟩), .agg #[.int .i64 an, .int .i64 aq, .int .i64 oc, .int .i64 dp, .float .f64 ex], .int .i64 pr, flV now] w (DoEnds ea (pJoin S an aq oc dp ex pr now).1 (pJoin S an aq oc dp ex pr now).2 w) := by
 unfold pJoin
 by_cases hp : 1 ≤ pr ∧ pr ≤ 2
 case neg => rw [if_pos (.inl hp)]; exact join_bad1 L S an aq oc dp ex pr now ea w hE h hG hx hn hp
 by_cases hc : ctxOk an aq oc dp ex = true
 case neg => rw [if_pos (.inr (by simpa using hc))]; exact join_bad2 L S an aq oc dp ex pr now ea w hE h hG hx hn hp (by simpa using hc)
 rw [if_neg (by rw [hc]; simp [hp])]
 by_cases ho : ctxOpen an aq oc dp ex now = true
 case neg => rw [if_pos (by simpa using ho)]; exact join_late L S an aq oc dp ex pr now ea w hE h hG hx hn hp hc (by simpa using ho)
 rw [if_neg (by rw [ho]; simp)]
 by_cases hl : 8 ≤ S.parts.length
 · rw [if_pos hl]; exact join_full L S an aq oc dp ex pr now ea w hE h hG hx hn hp hc ho hl
 · rw [if_neg hl]; exact join_ok L S an aq oc dp ex pr now ea w hE h hG hx hn hp hc ho hl
theorem slice_own {w : World} {B : Nat} {T : TypeId} {s : Nat} {v : Value} {n : Nat} {xs : List Value} (h : w.ownsRow B T s v n xs) : ∀ k, sliceBlock v = some k → v.ownBlock = some k := by
 intro k hk
 rcases h.2 with ⟨hv, _⟩ | ⟨g, cap', cur, hv, _⟩
 · subst hv; cases hk
 · subst hv; simpa [sliceBlock, Value.ownBlock] using hk
def RDoEnds (r : SRes) (n : Int) (w : World) (e : Ending) (w' : World) : Prop := ∃ fv mv, e = .returned (.tuple #[.agg #[fv, mv, .int .i64 r.wk], .int .i64 n]) ∧ ReadFacts w' fv r.fs ∧ ReadMsgs w' mv r.ms ∧ Below w.heap.size w w'
theorem rjoin_bad1 (R : RLoc) (S : Sto) (an aq oc dp : Int) (ex : Nat) (pr : Int) (now : Nat) (w : World) (h : RStoreAt R S w) (hG : StoGood S) (hx : F64 ex) (hn : F64 now) (hc : ctxOk an aq oc dp ex = false) :
    Calls Tryz.prog 41 #[.pointer (some ⟨R.sb, 0, none⟩), .agg #[.int .i64 an, .int .i64 aq, .int .i64 oc, .int .i64 dp, .float .f64 ex], .int .i64 pr, flV now] w (RDoEnds res0 4 w) := by
 have HRR := qq (fun W => rright09_of an aq oc dp ex hx W)
 have HRO := qq (fun W => ropen09_of an aq oc dp ex now hx hn W)
 rw [hc] at HRR
 clear h hG hx hn
 go_enter Tryz.func41, Tryz.ntmps41
 go_wp2_with fail
 refine (HRR.out _).mono ?_
 rintro e w1 ⟨rfl, hb1⟩
 have B1 : Below w.heap.size w w1 := below_then (by go_grown) hb1
 have HC := qq (((Blk.fresh w #[.int .i64 an, .int .i64 aq, .int .i64 oc, .int .i64 dp, .float .f64 ex] 48 _ rfl).alloc _).below hb1); have HV := qq ((Blk.fresh (w.alloc (.cells #[.int .i64 an, .int .i64 aq, .int .i64 oc, .int .i64 dp, .float .f64 ex] 48)) #[.slice none 0 0, .slice none 0 0, .int .i64 0] 95 (w.heap.size + 1) (by simp)).below hb1)
 have hz1 := hb1.size
 clear hb1
 have qc := HC.out.cell; have lc := HC.out.lt; have qv := HV.out.cell; have fv := HV.out.free; have lv := HV.out.lt
 go_wp2_with fail
 exact bodyPost_ret (v := .tuple #[.agg #[.slice none 0 0, .slice none 0 0, .int .i64 0], .int .i64 4]) (by simp [results, Tryz.results41, go_sem, qv, fv, lv, Nat.ne_of_lt lv]) rfl ⟨_, _, rfl, read_nil, read_mnil, by go_grown⟩
theorem rjoin_bad2 (R : RLoc) (S : Sto) (an aq oc dp : Int) (ex : Nat) (pr : Int) (now : Nat) (w : World) (h : RStoreAt R S w) (hG : StoGood S) (hx : F64 ex) (hn : F64 now) (hc : ctxOk an aq oc dp ex = true) (hp : ¬ (1 ≤ pr ∧ pr ≤ 2)) :
    Calls Tryz.prog 41 #[.pointer (some ⟨R.sb, 0, none⟩), .agg #[.int .i64 an, .int .i64 aq, .int .i64 oc, .int .i64 dp, .float .f64 ex], .int .i64 pr, flV now] w (RDoEnds res0 4 w) := by
 have HRR := qq (fun W => rright09_of an aq oc dp ex hx W)
 have HRO := qq (fun W => ropen09_of an aq oc dp ex now hx hn W)
 rw [hc] at HRR
 have p1 : (pr != 1) = true := by simp; omega
 have p2 : (pr != 2) = true := by simp; omega
 clear hp
 clear h hG hx hn
 go_enter Tryz.func41, Tryz.ntmps41
 go_wp2_with fail
 refine (HRR.out _).mono ?_
 rintro e w1 ⟨rfl, hb1⟩
 have B1 : Below w.heap.size w w1 := below_then (by go_grown) hb1
 have HC := qq (((Blk.fresh w #[.int .i64 an, .int .i64 aq, .int .i64 oc, .int .i64 dp, .float .f64 ex] 48 _ rfl).alloc _).below hb1); have HV := qq ((Blk.fresh (w.alloc (.cells #[.int .i64 an, .int .i64 aq, .int .i64 oc, .int .i64 dp, .float .f64 ex] 48)) #[.slice none 0 0, .slice none 0 0, .int .i64 0] 95 (w.heap.size + 1) (by simp)).below hb1)
 have hz1 := hb1.size
 clear hb1
 have qc := HC.out.cell; have lc := HC.out.lt; have qv := HV.out.cell; have fv := HV.out.free; have lv := HV.out.lt
 go_wp2_with fail
 exact bodyPost_ret (v := .tuple #[.agg #[.slice none 0 0, .slice none 0 0, .int .i64 0], .int .i64 4]) (by simp [results, Tryz.results41, go_sem, qv, fv, lv, Nat.ne_of_lt lv]) rfl ⟨_, _, rfl, read_nil, read_mnil, by go_grown⟩
theorem rjoin_late (R : RLoc) (S : Sto) (an aq oc dp : Int) (ex : Nat) (pr : Int) (now : Nat) (w : World) (h : RStoreAt R S w) (hG : StoGood S) (hx : F64 ex) (hn : F64 now) (hc : ctxOk an aq oc dp ex = true) (hp : 1 ≤ pr ∧ pr ≤ 2) (ho : ctxOpen an aq oc dp ex now = false) :
    Calls Tryz.prog 41 #[.pointer (some ⟨R.sb, 0, none⟩), .agg #[.int .i64 an, .int .i64 aq, .int .i64 oc, .int .i64 dp, .float .f64 ex], .int .i64 pr, flV now] w (RDoEnds res0 12 w) := by
 have HRR := qq (fun W => rright09_of an aq oc dp ex hx W)
 have HRO := qq (fun W => ropen09_of an aq oc dp ex now hx hn W)
 rw [hc] at HRR
 rw [ho] at HRO
 clear h hG hx hn
 obtain rfl | rfl : pr = 1 ∨ pr = 2 := by omega
 all_goals
  go_enter Tryz.func41, Tryz.ntmps41
  go_wp2_with fail
  refine (HRR.out _).mono ?_
  rintro e w1 ⟨rfl, hb1⟩
  have B1 : Below w.heap.size w w1 := below_then (by go_grown) hb1
  have HC := qq (((Blk.fresh w #[.int .i64 an, .int .i64 aq, .int .i64 oc, .int .i64 dp, .float .f64 ex] 48 _ rfl).alloc _).below hb1); have HV := qq ((Blk.fresh (w.alloc (.cells #[.int .i64 an, .int .i64 aq, .int .i64 oc, .int .i64 dp, .float .f64 ex] 48)) #[.slice none 0 0, .slice none 0 0, .int .i64 0] 95 (w.heap.size + 1) (by simp)).below hb1)
  have hz1 := hb1.size
  clear hb1
  have qc := HC.out.cell; have lc := HC.out.lt; have qv := HV.out.cell; have fv := HV.out.free; have lv := HV.out.lt
  clear qv fv lv
  go_wp2_with fail
  clear qc lc
  refine (HRO.out _).mono ?_
  rintro e w2 ⟨rfl, hb2⟩
  have B2 : Below w.heap.size w w2 := below_then B1 hb2
  have HC := qq (HC.out.below hb2); have HV := qq (HV.out.below hb2)
  have hz2 := hb2.size
  clear hb2
  have qc := HC.out.cell; have lc := HC.out.lt; have qv := HV.out.cell; have fv := HV.out.free; have lv := HV.out.lt
  go_wp2_with fail
  exact bodyPost_ret (v := .tuple #[.agg #[.slice none 0 0, .slice none 0 0, .int .i64 0], .int .i64 12]) (by simp [results, Tryz.results41, go_sem, qv, fv, lv, Nat.ne_of_lt lv]) rfl ⟨_, _, rfl, read_nil, read_mnil, by go_grown⟩
theorem rjoin_full (R : RLoc) (S : Sto) (an aq oc dp : Int) (ex : Nat) (pr : Int) (now : Nat) (w : World) (h : RStoreAt R S w) (hG : StoGood S) (hx : F64 ex) (hn : F64 now) (hc : ctxOk an aq oc dp ex = true) (hp : 1 ≤ pr ∧ pr ≤ 2) (ho : ctxOpen an aq oc dp ex now = true) (hlen : 8 ≤ S.parts.length) :
    Calls Tryz.prog 41 #[.pointer (some ⟨R.sb, 0, none⟩), .agg #[.int .i64 an, .int .i64 aq, .int .i64 oc, .int .i64 dp, .float .f64 ex], .int .i64 pr, flV now] w (RDoEnds res0 6 w) := by
 have HRR := qq (fun W => rright09_of an aq oc dp ex hx W)
 have HRO := qq (fun W => ropen09_of an aq oc dp ex now hx hn W)
 rw [hc] at HRR
 rw [ho] at HRO
 obtain ⟨ap, cp, hpv⟩ := row_slice h.parts
 obtain ⟨n, hnn⟩ : ∃ n, n = S.parts.length := ⟨_, rfl⟩
 have HQ := qq (fun W (hW : Below w.heap.size w W) => (show W.cell? ⟨R.sb, 3, none⟩ = some (.slice ap n cp) by rw [hnn, ← hpv]; exact (h.below hW).blk.cell 3))
 have HN0 := qq (fun W (hW : Below w.heap.size w W) => (show W.cell? ⟨R.sb, 0, none⟩ = some (.int .i64 S.node) from (h.below hW).blk.cell 0))
 have HNB := qq (fun W (hW : Below w.heap.size w W) => (h.below hW).blk)
 have hsb := h.blk.lt
 have hn8 := hG.parts
 rw [← hnn] at hlen hn8
 clear hpv
 clear h hG hx hn
 obtain rfl | rfl : pr = 1 ∨ pr = 2 := by omega
 all_goals
  go_enter Tryz.func41, Tryz.ntmps41
  go_wp2_with fail
  refine (HRR.out _).mono ?_
  rintro e w1 ⟨rfl, hb1⟩
  have B1 : Below w.heap.size w w1 := below_then (by go_grown) hb1
  have HC := qq (((Blk.fresh w #[.int .i64 an, .int .i64 aq, .int .i64 oc, .int .i64 dp, .float .f64 ex] 48 _ rfl).alloc _).below hb1); have HV := qq ((Blk.fresh (w.alloc (.cells #[.int .i64 an, .int .i64 aq, .int .i64 oc, .int .i64 dp, .float .f64 ex] 48)) #[.slice none 0 0, .slice none 0 0, .int .i64 0] 95 (w.heap.size + 1) (by simp)).below hb1)
  have hz1 := hb1.size
  clear hb1
  have qc := HC.out.cell; have lc := HC.out.lt; have qv := HV.out.cell; have fv := HV.out.free; have lv := HV.out.lt
  clear qv fv lv
  go_wp2_with fail
  clear qc lc
  refine (HRO.out _).mono ?_
  rintro e w2 ⟨rfl, hb2⟩
  have B2 : Below w.heap.size w w2 := below_then B1 hb2
  have HC := qq (HC.out.below hb2); have HV := qq (HV.out.below hb2)
  have hz2 := hb2.size
  clear hb2
  have qc := HC.out.cell; have lc := HC.out.lt; have qv := HV.out.cell; have fv := HV.out.free; have lv := HV.out.lt
  have c3 := HQ.out _ B2
  have hgt : decide ((7 : Int) < (n : Int)) = true := decide_eq_true (by omega)
  go_wp2_with fail
  exact bodyPost_ret (v := .tuple #[.agg #[.slice none 0 0, .slice none 0 0, .int .i64 0], .int .i64 6]) (by simp [results, Tryz.results41, go_sem, qv, fv, lv, Nat.ne_of_lt lv]) rfl ⟨_, _, rfl, read_nil, read_mnil, by go_grown⟩
theorem rjoin_ok (R : RLoc) (S : Sto) (an aq oc dp : Int) (ex : Nat) (pr : Int) (now : Nat) (w : World) (h : RStoreAt R S w) (hG : StoGood S) (hx : F64 ex) (hn : F64 now) (hc : ctxOk an aq oc dp ex = true) (hp : 1 ≤ pr ∧ pr ≤ 2) (ho : ctxOpen an aq oc dp ex now = true) (hlen : ¬ 8 ≤ S.parts.length) :
    Calls Tryz.prog 41 #[.pointer (some ⟨R.sb, 0, none⟩), .agg #[.int .i64 an, .int .i64 aq, .int .i64 oc, .int .i64 dp, .float .f64 ex], .int .i64 pr, flV now] w (RDoEnds ⟨[fJoin S.parts.length an aq pr], [⟨17, S.node, an, an, aq, 0, S.parts.length, pr, 0⟩], 0⟩ 0 w) := by
 have HRR := qq (fun W => rright09_of an aq oc dp ex hx W)
 have HRO := qq (fun W => ropen09_of an aq oc dp ex now hx hn W)
 rw [hc] at HRR
 rw [ho] at HRO
 obtain ⟨ap, cp, hpv⟩ := row_slice h.parts
 obtain ⟨n, hnn⟩ : ∃ n, n = S.parts.length := ⟨_, rfl⟩
 have HQ := qq (fun W (hW : Below w.heap.size w W) => (show W.cell? ⟨R.sb, 3, none⟩ = some (.slice ap n cp) by rw [hnn, ← hpv]; exact (h.below hW).blk.cell 3))
 have HN0 := qq (fun W (hW : Below w.heap.size w W) => (show W.cell? ⟨R.sb, 0, none⟩ = some (.int .i64 S.node) from (h.below hW).blk.cell 0))
 have HNB := qq (fun W (hW : Below w.heap.size w W) => (h.below hW).blk)
 have hsb := h.blk.lt
 have hn8 := hG.parts
 rw [← hnn] at hlen hn8
 clear hpv
 rw [← hnn]
 obtain ⟨nd, hnd⟩ : ∃ nd, nd = S.node := ⟨_, rfl⟩
 rw [← hnd] at HN0 HNB ⊢
 clear hnd hnn
 dsimp only [fJoin]
 clear h hG hx hn
 obtain rfl | rfl : pr = 1 ∨ pr = 2 := by omega
 all_goals
  go_enter Tryz.func41, Tryz.ntmps41
  go_wp2_with fail
  refine (HRR.out _).mono ?_
  rintro e w1 ⟨rfl, hb1⟩
  have B1 : Below w.heap.size w w1 := below_then (by go_grown) hb1
  have HC := qq (((Blk.fresh w #[.int .i64 an, .int .i64 aq, .int .i64 oc, .int .i64 dp, .float .f64 ex] 48 _ rfl).alloc _).below hb1); have HV := qq ((Blk.fresh (w.alloc (.cells #[.int .i64 an, .int .i64 aq, .int .i64 oc, .int .i64 dp, .float .f64 ex] 48)) #[.slice none 0 0, .slice none 0 0, .int .i64 0] 95 (w.heap.size + 1) (by simp)).below hb1)
  have hz1 := hb1.size
  clear hb1
  have qc := HC.out.cell; have lc := HC.out.lt; have qv := HV.out.cell; have fv := HV.out.free; have lv := HV.out.lt
  clear qv fv lv
  go_wp2_with fail
  clear qc lc
  refine (HRO.out _).mono ?_
  rintro e w2 ⟨rfl, hb2⟩
  have B2 : Below w.heap.size w w2 := below_then B1 hb2
  have HC := qq (HC.out.below hb2); have HV := qq (HV.out.below hb2)
  have hz2 := hb2.size
  clear hb2
  have qc := HC.out.cell; have lc := HC.out.lt; have qv := HV.out.cell; have fv := HV.out.free; have lv := HV.out.lt
  have c3 := HQ.out _ B2
  have c0 := HN0.out _ B2
  have hgt : decide ((7 : Int) < (n : Int)) = false := decide_eq_false (by omega)
  have hs2 : R.sb < w2.heap.size := by omega
  have HKC := qq (fun w' (hW : Below w2.heap.size w2 w') => HC.out.below hW)
  have lw : w.heap.size < w2.heap.size := by omega
  go_wp2_with fail
  go_region_held3 (fun w' => w'.cell? ⟨w.heap.size, 0, none⟩ = some (.int .i64 an) ∧ w'.cell? ⟨w.heap.size, 1, none⟩ = some (.int .i64 aq) ∧ w'.cell? ⟨R.sb, 0, none⟩ = some (.int .i64 nd))
   (exact ⟨Blk.cell (C := #[.int .i64 an, .int .i64 aq, .int .i64 oc, .int .i64 dp, .float .f64 ex]) (by repeat' first | (refine HKC.out _ ?_; go_grown; done) | refine Blk.alloc ?_ _ | refine Blk.drew ?_ | refine Blk.other ?_ ?_ _ | (simp; done) | omega | (dsimp only; omega)) 0, Blk.cell (C := #[.int .i64 an, .int .i64 aq, .int .i64 oc, .int .i64 dp, .float .f64 ex]) (by repeat' first | (refine HKC.out _ ?_; go_grown; done) | refine Blk.alloc ?_ _ | refine Blk.drew ?_ | refine Blk.other ?_ ?_ _ | (simp; done) | omega | (dsimp only; omega)) 1, Blk.cell (C := #[.int .i64 nd, .int .i64 S.next, R.av, R.pv]) (by repeat' first | (refine HNB.out _ ?_; go_grown; done) | refine Blk.alloc ?_ _ | refine Blk.drew ?_ | refine Blk.other ?_ ?_ _ | (simp; done) | omega | (dsimp only; omega)) 0⟩) (fail)
  all_goals go_wp2_with fail
  all_goals first
   | (refine bodyPost_ret (v := .tuple #[.agg #[.slice (some ⟨w2.heap.size, 0, none⟩) 1 1, .slice (some ⟨w2.heap.size + 1, 0, none⟩) 1 1, .int .i64 0], .int .i64 0]) ?_ rfl ⟨_, _, rfl, ?_, ?_, ?_⟩ <;> first | (simp [results, Tryz.results41, go_sem, qv, fv, lv, Nat.ne_of_lt lv, lw]; done) | (refine read_fone ?_; (repeat' first | exact Blk.fresh _ _ _ _ rfl | exact Blk.fresh _ _ _ _ (by simp) | refine Blk.alloc ?_ _ | refine Blk.drew ?_ | refine Blk.other ?_ ?_ _ | refine Blk.below ?_ hb2 | (simp; done) | omega | (dsimp only; omega)); done) | (refine read_mone ?_; (repeat' first | exact Blk.fresh _ _ _ _ rfl | exact Blk.fresh _ _ _ _ (by simp) | refine Blk.alloc ?_ _ | refine Blk.drew ?_ | refine Blk.other ?_ ?_ _ | refine Blk.below ?_ hb2 | (simp; done) | omega | (dsimp only; omega)); done) | (go_grown; done))
   | (refine bodyPost_ret (v := .tuple #[.agg #[.slice (some ⟨w2.heap.size + 1, 0, none⟩) 1 1, .slice (some ⟨w2.heap.size, 0, none⟩) 1 1, .int .i64 0], .int .i64 0]) ?_ rfl ⟨_, _, rfl, ?_, ?_, ?_⟩ <;> first | (simp [results, Tryz.results41, go_sem, qv, fv, lv, Nat.ne_of_lt lv, lw]; done) | (refine read_fone ?_; (repeat' first | exact Blk.fresh _ _ _ _ rfl | exact Blk.fresh _ _ _ _ (by simp) | refine Blk.alloc ?_ _ | refine Blk.drew ?_ | refine Blk.other ?_ ?_ _ | refine Blk.below ?_ hb2 | (simp; done) | omega | (dsimp only; omega)); done) | (refine read_mone ?_; (repeat' first | exact Blk.fresh _ _ _ _ rfl | exact Blk.fresh _ _ _ _ (by simp) | refine Blk.alloc ?_ _ | refine Blk.drew ?_ | refine Blk.other ?_ ?_ _ | refine Blk.below ?_ hb2 | (simp; done) | omega | (dsimp only; omega)); done) | (go_grown; done))
theorem rjoin16_of (R : RLoc) (S : Sto) (an aq oc dp : Int) (ex : Nat) (pr : Int) (now : Nat) (w : World) (h : RStoreAt R S w) (hG : StoGood S) (hx : F64 ex) (hn : F64 now) :
    Calls Tryz.prog 41 #[.pointer (some ⟨R.sb, 0, none⟩), .agg #[.int .i64 an, .int .i64 aq, .int .i64 oc, .int .i64 dp, .float .f64 ex], .int .i64 pr, flV now] w (RDoEnds (pJoin S an aq oc dp ex pr now).1 (pJoin S an aq oc dp ex pr now).2 w) := by
 unfold pJoin
 by_cases hc : ctxOk an aq oc dp ex = true
 case neg => rw [if_pos (.inr (by simpa using hc))]; exact rjoin_bad1 R S an aq oc dp ex pr now w h hG hx hn (by simpa using hc)
 by_cases hp : 1 ≤ pr ∧ pr ≤ 2
 case neg => rw [if_pos (.inl hp)]; exact rjoin_bad2 R S an aq oc dp ex pr now w h hG hx hn hc hp
 rw [if_neg (by rw [hc]; simp [hp])]
 by_cases ho : ctxOpen an aq oc dp ex now = true
 case neg => rw [if_pos (by simpa using ho)]; exact rjoin_late R S an aq oc dp ex pr now w h hG hx hn hc hp (by simpa using ho)
 rw [if_neg (by rw [ho]; simp)]
 by_cases hl : 8 ≤ S.parts.length
 · rw [if_pos hl]; exact rjoin_full R S an aq oc dp ex pr now w h hG hx hn hc hp ho hl
 · rw [if_neg hl]; exact rjoin_ok R S an aq oc dp ex pr now w h hG hx hn hc hp ho hl
theorem infoRFact16 : (Tryz.prog.info? 42).map (fun i => (i.zero, i.size, i.bytes)) = some (some (.agg #[.int .i64 0, .int .i64 0, .int .i64 0, .int .i64 0, .int .i64 0, .int .i64 0, .int .i64 0, .int .i64 0, .int .i64 0, .int .i64 0, .int .i64 0, .int .i64 0, .int .i64 0, .float .f64 0]), 14, 112) := by kernel_rfl
theorem read_frow16 {w : World} {B : Nat} {v : Value} {fs : List SFact} (h : w.ownsRow B 42 14 v fs.length (factsL fs)) : ReadFacts w v fs := by
 obtain ⟨a, cap, hv⟩ := row_slice h
 subst hv
 refine ⟨a, cap, rfl, fun hn => ?_⟩
 obtain ⟨g, cap', hv, _, _, hg, hc, _⟩ := row_form h (List.length_pos_iff.2 hn)
 simp only [Value.slice.injEq, true_and] at hv
 obtain ⟨rfl, rfl⟩ := hv
 refine ⟨g, 0, rfl, hg, fun j hj => ?_⟩
 have hat := fun i hi => flat_at factL 14 factL_len fs j i hj hi
 rw [Nat.zero_add]
 exact ⟨hc _ _ (hat 0 (by decide)), hc _ _ (hat 1 (by decide)), hc _ _ (hat 2 (by decide)), hc _ _ (hat 3 (by decide)), hc _ _ (hat 4 (by decide)), hc _ _ (hat 5 (by decide)), hc _ _ (hat 6 (by decide)), hc _ _ (hat 7 (by decide)), hc _ _ (hat 8 (by decide)), hc _ _ (hat 9 (by decide)), hc _ _ (hat 10 (by decide)), hc _ _ (hat 11 (by decide)), hc _ _ (hat 12 (by decide)), hc _ _ (hat 13 (by decide))⟩
theorem told16_of (a am : Option Addr) (cap lm cm : Nat) (fs : List SFact) (wk : Int) (w : World) (h : ReadFacts w (.slice a fs.length cap) fs) (hl : fs.length ≤ 1000) :
    Calls Tryz.prog 43 #[.agg #[.slice a fs.length cap, .slice am lm cm, .int .i64 wk]] w fun e w' => ∃ c fc, e = .returned (.agg #[.slice c fs.length fc, .slice am lm cm, .int .i64 wk]) ∧ ReadFacts w' (.slice c fs.length fc) fs ∧ Below w.heap.size w w' := by
 obtain ⟨i0, ei, ez, es, eb⟩ := info_parts infoRFact16
 have HR : Hid (∀ k, k < fs.length → ∃ f, fs[k]? = some f ∧ ∃ b off, a = some ⟨b, off, none⟩ ∧ b < w.heap.size ∧ FactAt w b (off + k * 14) f) := qq (fun k hk => by
   obtain ⟨a', cap', hv, hr⟩ := h
   obtain ⟨b, off, ha, hb, hf⟩ := hr (by intro e; rw [e] at hk; simp at hk)
   simp only [Value.slice.injEq, true_and] at hv
   exact ⟨fs[k], List.getElem?_eq_getElem hk, b, off, by rw [hv.1, ha], hb, hf k hk⟩)
 clear h
 obtain ⟨n, hn⟩ : ∃ n, n = fs.length := ⟨_, rfl⟩
 rw [← hn] at HR hl ⊢
 have HN := qq hn
 clear hn
 obtain ⟨W1, hW1⟩ : ∃ W1, W1 = ((w.alloc (.cells #[.slice a n cap, .slice am lm cm, .int .i64 wk] 87)).alloc (.cells #[.slice none 0 0, .slice none 0 0, .int .i64 0] 95)) := ⟨_, rfl⟩
 have HST : Hid (Below (w.heap.size + 2) W1 (((w.alloc (.cells #[.slice a n cap, .slice am lm cm, .int .i64 wk] 87)).alloc (.cells #[.slice none 0 0, .slice none 0 0, .int .i64 0] 95)).alloc (.cells #[.slice none 0 0, .slice am lm cm, .int .i64 wk] 95))) := qq (by rw [hW1]; exact (Below.refl _ _).alloc (by simp) _)
 have HWB : Hid (Below w.heap.size w W1) := qq (by rw [hW1]; go_grown)
 have HRB0 : Hid (Blk W1 (w.heap.size + 1) #[.slice none 0 0, .slice none 0 0, .int .i64 0]) := qq (by rw [hW1]; exact Blk.fresh (w.alloc (.cells #[.slice a n cap, .slice am lm cm, .int .i64 wk] 87)) #[.slice none 0 0, .slice none 0 0, .int .i64 0] 95 (w.heap.size + 1) (by simp))
 have HPB0 : Hid (Blk W1 w.heap.size #[.slice a n cap, .slice am lm cm, .int .i64 wk]) := qq (by rw [hW1]; exact (Blk.fresh w #[.slice a n cap, .slice am lm cm, .int .i64 wk] 87 _ rfl).alloc _)
 have HZ : Hid (W1.heap.size = w.heap.size + 2) := qq (by rw [hW1]; simp)
 clear hW1
 go_enter Tryz.func43, Tryz.ntmps43
 go_wp2_with fail
 go_loopw [14] (fun i wr => ∃ (k : Nat) (v : Value), k ≤ n ∧ i = .int .i64 (k : Nat) ∧ Hid (wr.ownsRow (w.heap.size + 3) 42 14 v k (factsL (fs.take k))) ∧ Hid (Blk wr (w.heap.size + 1 + 1) #[v, .slice am lm cm, .int .i64 wk]) ∧ Hid (Below (w.heap.size + 2) W1 wr)) (fun i _ => n - (intOf i).toNat)
 case atStart =>
  exact ⟨0, .slice none 0 0, by omega, by first | rfl | go_num, qq (World.ownsRow_nil _ _ _ _), qq (Blk.fresh _ _ _ _ (by simp)), HST⟩
 case round =>
  obtain ⟨k, v, hk, rfl, HO, HB, HW⟩ := hrel
  obtain ⟨av, cv, rfl⟩ := row_slice HO.out
  have q := HB.out.cell
  by_cases hlt : k < n
  · obtain ⟨f, hf, b, off, rfl, hbl, hat⟩ := HR.out k hlt
    have BR : Below w.heap.size w wr := HWB.out.trans (HW.out.mono (by omega))
    obtain ⟨p0, p1, p2, p3, p4, p5, p6, p7, p8, p9, p10, p11, p12, p13⟩ := hat.below BR hbl
    have hsz := HB.out.lt
    have HF := qq hf
    obtain ⟨fk, fan, faq, frg, fnd, fpt, fpr, foc, fdp, fpa, fst, fhw, fde, ex⟩ := f
    have qf := HB.out.free
    dsimp only at p0 p1 p2 p3 p4 p5 p6 p7 p8 p9 p10 p11 p12 p13
    clear hat hf hbl BR
    go_wp2_with (at_builtin; refine wpList_append_own_at _ rfl _ _ 76 rfl (w.heap.size + 3) 42 i0 (.agg #[.int .i64 0, .int .i64 0, .int .i64 0, .int .i64 0, .int .i64 0, .int .i64 0, .int .i64 0, .int .i64 0, .int .i64 0, .int .i64 0, .int .i64 0, .int .i64 0, .int .i64 0, .float .f64 0]) 14 112 Tryz.underlying76 ei ez es eb rfl (by decide) _ _ _ rfl ((HO.out.alloc _).alloc _) ⟨wr.heap.size + 1, 0, none⟩ 1 1 (factL ⟨fk, fan, faq, frg, fnd, fpt, fpr, foc, fdp, fpa, fst, fhw, fde, ex⟩) (by rfl) rfl (lit_cells (Blk.fresh _ _ _ _ (by simp))) (factL_one _) ?d3 ?d4 ?d5 ?_)
    case d3 => unfold maxLen; omega
    case d4 => omega
    case d5 => simp; omega
    intro v2 w3 hown hgrow _ hat
    have hne : v2.ownBlock ≠ some (w.heap.size + 1 + 1) := fun e => by have := (hown.lt _ e).1; omega
    have hne0 : (Value.slice av k cv).ownBlock ≠ some (w.heap.size + 1 + 1) := fun e => by have := (HO.out.lt _ e).1; omega
    have kB := ((HB.out.alloc (.cells #[.int .i64 fk, .int .i64 fan, .int .i64 faq, .int .i64 frg, .int .i64 fnd, .int .i64 fpt, .int .i64 fpr, .int .i64 foc, .int .i64 fdp, .int .i64 fpa, .int .i64 fst, .int .i64 fhw, .int .i64 fde, .float .f64 ex] 39)).alloc (.cells #[.int .i64 fk, .int .i64 fan, .int .i64 faq, .int .i64 frg, .int .i64 fnd, .int .i64 fpt, .int .i64 fpr, .int .i64 foc, .int .i64 fdp, .int .i64 fpa, .int .i64 fst, .int .i64 fhw, .int .i64 fde, .float .f64 ex] 42)).same hgrow.size (hgrow.block _ ((HB.out.alloc _).alloc _).lt (fun e => hne0 e.symm))
    have R2 := qq (kB.set' 0 (by simp) v2)
    have R1 : Hid ((w3.setCell ⟨w.heap.size + 1 + 1, 0, none⟩ v2).ownsRow (w.heap.size + 3) 42 14 v2 (k + 1) (factsL (fs.take (k + 1)))) := qq (by
      refine row_heap ?_ (fun j hj => Below.heap_setCell _ _ _ _ (fun e => hne (by rw [hj, e])))
      have htk : fs.take (k + 1) = fs.take k ++ [⟨fk, fan, faq, frg, fnd, fpt, fpr, foc, fdp, fpa, fst, fhw, fde, ex⟩] := by
        obtain ⟨hj, he⟩ := List.getElem?_eq_some_iff.1 HF.out
        rw [List.take_succ_eq_append_getElem hj, he]
      rw [htk]
      unfold factsL at hown ⊢
      rw [List.flatMap_append]
      simpa using hown)
    have R3 : Hid (Below (w.heap.size + 2) W1 (w3.setCell ⟨w.heap.size + 1 + 1, 0, none⟩ v2)) := qq ((((HW.out.alloc (by omega) _).alloc (by simp; omega) _).grown hgrow (by simp; omega) (fun j hj => by have := (HO.out.lt _ hj).1; omega)).setCell (by simp) _)
    have c0 : w3.cell? ⟨w.heap.size + 1 + 1, 0, none⟩ = some (.slice av k cv) := kB.cell 0
    have c1 := kB.free 0
    obtain ⟨a2, c2, rfl⟩ := row_slice hown
    clear hown hgrow hat kB q qf hne hne0
    go_wp2_with fail
    all_goals (go_roundw <;> first | exact ⟨k + 1, _, by omega, by go_num, R1, R2, R3⟩ | (simp [intOf]; omega))
  · obtain rfl : k = n := by omega
    have HO2 := qq (show ReadFacts wr (.slice av k cv) fs by
      have := HO.out
      rw [List.take_of_length_le (by rw [← HN.out]; omega)] at this
      have e := HN.out
      subst e
      exact read_frow16 this)
    have HRB := qq (HRB0.out.below (by rw [HZ.out]; exact HW.out))
    obtain ⟨qr, fr⟩ := HRB.out.out
    have lr := HRB.out.lt
    have BR : Below w.heap.size w wr := HWB.out.trans (HW.out.mono (by omega))
    go_wp2_with fail
    refine bodyPost_ret (v := .agg #[.slice av k cv, .slice am lm cm, .int .i64 wk]) (by simp [results, Tryz.results43, go_sem, qr, fr, lr, Nat.ne_of_lt lr]) rfl ⟨av, cv, rfl, HO2.out.heap (by simp) ?_, by go_grown⟩
    intro j hj
    have h1 := (HO.out.lt _ (slice_own HO.out _ hj)).1
    have h2 : j ≠ w.heap.size + 1 := by omega
    rw [Below.heap_setCell _ _ _ _ h2, Below.heap_setCell _ _ _ _ h2, Below.heap_setCell _ _ _ _ h2]
end Go.Proofs.YtlkajejbfojkeaaGreatDoor
