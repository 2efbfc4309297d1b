/- StoQ -/
import Derived.Test.YtlkajejbfojkeaaGreatDoorKStoUToFacI
set_option linter.unusedSimpArgs false
set_option linter.unusedVariables false
set_option maxRecDepth 100000
set_option maxHeartbeats 16000000
namespace Go.Proofs.YtlkajejbfojkeaaGreatDoor
open Go.RowKit
def ApplyEnds (L:SLoc) (T:Sto) (n:Int) (ea:Int→Addr) (w:World) (e:Ending) (w':World):Prop:=e=.returned (errOf ea n)∧SGoes L T w w'
def EnvG (L:SLoc) (ea:Int→Addr) (w:World):Prop:=∀F' W',Goes L.foot F' w W'→EnvS ea W'
theorem EnvG.below {L:SLoc} {ea:Int→Addr} {w W:World} (h:EnvG L ea w) (hb:Below w.heap.size w W):EnvS ea W:=h L.foot W (.of_below hb)
theorem EnvG.goes {L:SLoc} {T:Sto} {ea:Int→Addr} {w W:World} (h:EnvG L ea w) (hb:SGoes L T w W):EnvS ea W:=by
 obtain⟨L',_,_,hg⟩:=hb;exact h _ W hg
theorem apply_bad (L : SLoc) (S : Sto) (f : SFact) (ea : Int → Addr) (w : World) (hx : F64 f.ex) (hE : EnvG L ea w) (h : StoreAt L S w) (hok : fok f = false) :
    Calls Tryz.prog 21 #[.pointer (some ⟨L.sb,0,none⟩),factV f] w (ApplyEnds L S 4 ea w):=by
 have hR:=fun W hW=>factRight_of f hx ea W hW
 rw[hok] at hR;have HR:=qq hR;have HE:=qq hE;have H:=qq h;obtain⟨k,an,aq,rg,nd,pt,pr,oc,dp,pa,st,hw,de,ex⟩:=f;dsimp only[factV,factC] at*;clear hR hE h hok hx;go_enter Tryz.func21,Tryz.ntmps21;go_wp2_with fail
 (with_reducible refine(HR.out _ (HE.out.below (by go_grown))).mono ?_)
 rintro e w1 ⟨rfl,hb1⟩;have B1:Below w.heap.size w w1:=below_then (by go_grown) hb1;have e4:w1.cell? ⟨3,0,none⟩=some (errV (ea 4)):=(HE.out.below B1).e.e4;go_wp2_with fail;go_ret;exact⟨rfl,SGoes.same H.out B1⟩
theorem apply_open (L : SLoc) (T : Sto) (f : SFact) (b : Bool) (ea : Int → Addr) (w : World) (hx : F64 f.ex) (hE : EnvG L ea w) (hok : fok f = true) (hk : f.k = 1) (hC : ∀ W, Below w.heap.size w W → Calls Tryz.prog 84 #[.pointer (some ⟨L.sb, 0, none⟩), factV f] W fun e w' => e = .returned (.bool b) ∧ SGoes L T W w') :
    Calls Tryz.prog 21 #[.pointer (some ⟨L.sb,0,none⟩),factV f] w (ApplyEnds L T (if b=true then 0 else 9) ea w):=by
 have hR:=fun W hW=>factRight_of f hx ea W hW
 rw[hok] at hR;have HR:=qq hR;have HE:=qq hE;have HC:=qq hC;obtain⟨k,an,aq,rg,nd,pt,pr,oc,dp,pa,st,hw,de,ex⟩:=f;dsimp only at hk;subst hk;dsimp only[factV,factC] at*;clear hR hE hok hx hC
 cases b
 all_goals
  go_enter Tryz.func21,Tryz.ntmps21;go_wp2_with fail
  (with_reducible refine(HR.out _ (HE.out.below (by go_grown))).mono ?_)
  rintro e w1 ⟨rfl,hb1⟩;have B1:Below w.heap.size w w1:=below_then (by go_grown) hb1;obtain⟨q,qf⟩:=((Blk.fresh w _ _ _ rfl).below hb1).out;go_wp2_with fail;refine(HC.out _ B1).mono ?_;rintro e w2 ⟨rfl,hs⟩;have HS:=qq (hs.after B1);have e9:w2.cell? ⟨8,0,none⟩=some (errV (ea 9)):=(HE.out.goes HS.out).e.e9;clear hs;go_wp2_with fail;go_ret;exact⟨rfl,HS.out⟩
theorem apply_join (L : SLoc) (T : Sto) (f : SFact) (b : Bool) (ea : Int → Addr) (w : World) (hx : F64 f.ex) (hE : EnvG L ea w) (hok : fok f = true) (hk : f.k = 6) (hC : ∀ W, Below w.heap.size w W → Calls Tryz.prog 85 #[.pointer (some ⟨L.sb, 0, none⟩), factV f] W fun e w' => e = .returned (.bool b) ∧ SGoes L T W w') :
    Calls Tryz.prog 21 #[.pointer (some ⟨L.sb,0,none⟩),factV f] w (ApplyEnds L T (if b=true then 0 else 9) ea w):=by
 have hR:=fun W hW=>factRight_of f hx ea W hW
 rw[hok] at hR;have HR:=qq hR;have HE:=qq hE;have HC:=qq hC;obtain⟨k,an,aq,rg,nd,pt,pr,oc,dp,pa,st,hw,de,ex⟩:=f;dsimp only at hk;subst hk;dsimp only[factV,factC] at*;clear hR hE hok hx hC
 cases b
 all_goals
  go_enter Tryz.func21,Tryz.ntmps21;go_wp2_with fail
  (with_reducible refine(HR.out _ (HE.out.below (by go_grown))).mono ?_)
  rintro e w1 ⟨rfl,hb1⟩;have B1:Below w.heap.size w w1:=below_then (by go_grown) hb1;obtain⟨q,qf⟩:=((Blk.fresh w _ _ _ rfl).below hb1).out;go_wp2_with fail;refine(HC.out _ B1).mono ?_;rintro e w2 ⟨rfl,hs⟩;have HS:=qq (hs.after B1);have e9:w2.cell? ⟨8,0,none⟩=some (errV (ea 9)):=(HE.out.goes HS.out).e.e9;clear hs;go_wp2_with fail;go_ret;exact⟨rfl,HS.out⟩
theorem apply_nopart (L : SLoc) (S : Sto) (f : SFact) (ea : Int → Addr) (w : World) (hx : F64 f.ex) (hE : EnvG L ea w) (h : StoreAt L S w) (hok : fok f = true) (hk : f.k = 7 ∨ f.k = 8) (hp : ¬ (0 ≤ f.pt ∧ f.pt < (S.parts.length : Int))) :
    Calls Tryz.prog 21 #[.pointer (some ⟨L.sb,0,none⟩),factV f] w (ApplyEnds L S 9 ea w):=by
 have hR:=fun W hW=>factRight_of f hx ea W hW
 rw[hok] at hR;have hH:=fun W (hW:Below w.heap.size w W)=>has_of L S f.pt W (h.below hW)
 rw[decide_eq_false hp] at hH;have HR:=qq hR;have HE:=qq hE;have HH:=qq hH;have H:=qq h;obtain⟨k,an,aq,rg,nd,pt,pr,oc,dp,pa,st,hw,de,ex⟩:=f;dsimp only[factV,factC] at*;clear hR hE hH h hok hx hp;rcases hk with hk | hk
 all_goals
  (try dsimp only at hk)
  subst hk;go_enter Tryz.func21,Tryz.ntmps21;go_wp2_with fail
  (with_reducible refine(HR.out _ (HE.out.below (by go_grown))).mono ?_)
  rintro e w1 ⟨rfl,hb1⟩;have B1:Below w.heap.size w w1:=below_then (by go_grown) hb1;obtain⟨q,qf⟩:=((Blk.fresh w _ _ _ rfl).below hb1).out;have e9:w1.cell? ⟨8,0,none⟩=some (errV (ea 9)):=(HE.out.below B1).e.e9;go_wp2_with fail
  (with_reducible refine(HH.out _ B1).mono ?_)
  rintro e w2 ⟨rfl,rfl⟩;go_wp2_with fail;go_ret;exact⟨rfl,SGoes.same H.out B1⟩
theorem apply_part (L : SLoc) (S T : Sto) (f : SFact) (b : Bool) (ea : Int → Addr) (w : World) (hx : F64 f.ex) (hE : EnvG L ea w) (h : StoreAt L S w) (hok : fok f = true) (hk : f.k = 7 ∨ f.k = 8) (hp : 0 ≤ f.pt ∧ f.pt < (S.parts.length : Int)) (hC : ∀ W, Below w.heap.size w W → Calls Tryz.prog 87 #[.pointer (some ⟨L.sb, 0, none⟩), factV f] W fun e w' => e = .returned (.bool b) ∧ SGoes L T W w') :
    Calls Tryz.prog 21 #[.pointer (some ⟨L.sb,0,none⟩),factV f] w (ApplyEnds L T (if b=true then 0 else 9) ea w):=by
 have hR:=fun W hW=>factRight_of f hx ea W hW
 rw[hok] at hR;have hH:=fun W (hW:Below w.heap.size w W)=>has_of L S f.pt W (h.below hW)
 rw[decide_eq_true hp] at hH;have HR:=qq hR;have HE:=qq hE;have HH:=qq hH;have HC:=qq hC;obtain⟨k,an,aq,rg,nd,pt,pr,oc,dp,pa,st,hw,de,ex⟩:=f;dsimp only[factV,factC] at*;clear hR hE hH h hok hx hp hC;rcases hk with hk | hk
 all_goals
  (try dsimp only at hk)
  subst hk
  cases b
  all_goals
   go_enter Tryz.func21,Tryz.ntmps21;go_wp2_with fail
   (with_reducible refine(HR.out _ (HE.out.below (by go_grown))).mono ?_)
   rintro e w1 ⟨rfl,hb1⟩;have B1:Below w.heap.size w w1:=below_then (by go_grown) hb1;obtain⟨q,qf⟩:=((Blk.fresh w _ _ _ rfl).below hb1).out;go_wp2_with fail
   (with_reducible refine(HH.out _ B1).mono ?_)
   rintro e w2 ⟨rfl,rfl⟩;go_wp2_with fail;refine(HC.out _ B1).mono ?_;rintro e w2 ⟨rfl,hs⟩;have HS:=qq (hs.after B1);have e9:w2.cell? ⟨8,0,none⟩=some (errV (ea 9)):=(HE.out.goes HS.out).e.e9;clear hs;go_wp2_with fail;go_ret;exact⟨rfl,HS.out⟩
theorem apply_noact (L : SLoc) (S : Sto) (f : SFact) (ea : Int → Addr) (w : World) (hx : F64 f.ex) (hE : EnvG L ea w) (h : StoreAt L S w) (hG : StoGood S) (hok : fok f = true) (hk : f.k ≠ 1 ∧ f.k ≠ 6 ∧ f.k ≠ 7 ∧ f.k ≠ 8) (hp : sfind S f.an f.aq = none) :
    Calls Tryz.prog 21 #[.pointer (some ⟨L.sb,0,none⟩),factV f] w (ApplyEnds L S 9 ea w):=by
 have hR:=fun W hW=>factRight_of f hx ea W hW
 rw[hok] at hR;have hH:=fun W (hW:Below w.heap.size w W)=>find_of L S f.an f.aq W (h.below hW) hG
 rw[hp] at hH;dsimp only[aptr,Option.bind] at hH;have HR:=qq hR;have HE:=qq hE;have HH:=qq hH;have H:=qq h;obtain⟨k,an,aq,rg,nd,pt,pr,oc,dp,pa,st,hw,de,ex⟩:=f;dsimp only at hk;obtain⟨k1,k6,k7,k8⟩:=hk;have d1:(k==1)=false:=by simpa using k1
 have d6:(k==6)=false:=by simpa using k6
 have d7:(k==7)=false:=by simpa using k7
 have d8:(k==8)=false:=by simpa using k8
 dsimp only[factV,factC] at*;clear hR hE hH h hok hx hp k1 k6 k7 k8 hG;go_enter Tryz.func21,Tryz.ntmps21;go_wp2_with fail
 (with_reducible refine(HR.out _ (HE.out.below (by go_grown))).mono ?_)
 rintro e w1 ⟨rfl,hb1⟩;have B1:Below w.heap.size w w1:=below_then (by go_grown) hb1;obtain⟨q,qf⟩:=((Blk.fresh w _ _ _ rfl).below hb1).out;go_wp2_with fail
 (with_reducible refine(HH.out _ B1).mono ?_)
 rintro e w2 ⟨rfl,hb2⟩;have B2:Below w.heap.size w w2:=below_then B1 hb2;have e9:w2.cell? ⟨8,0,none⟩=some (errV (ea 9)):=(HE.out.below B2).e.e9;go_wp2_with fail;go_ret;exact⟨rfl,SGoes.same H.out B2⟩
theorem apply_act (L : SLoc) (S T : Sto) (f : SFact) (i : Nat) (x : Nat × Value) (b : Bool) (ea : Int → Addr) (w : World) (hx : F64 f.ex) (hE : EnvG L ea w) (h : StoreAt L S w) (hG : StoGood S) (hok : fok f = true) (hk : f.k ≠ 1 ∧ f.k ≠ 6 ∧ f.k ≠ 7 ∧ f.k ≠ 8) (hp : sfind S f.an f.aq = some i) (hxi : L.ab[i]? = some x) (hC : ∀ W, Below w.heap.size w W → Calls Tryz.prog 89 #[.pointer (some ⟨L.sb, 0, none⟩), .pointer (some ⟨x.1, 0, none⟩), factV f] W fun e w' => e = .returned (.bool b) ∧ SGoes L T W w') :
    Calls Tryz.prog 21 #[.pointer (some ⟨L.sb,0,none⟩),factV f] w (ApplyEnds L T (if b=true then 0 else 9) ea w):=by
 have hR:=fun W hW=>factRight_of f hx ea W hW
 rw[hok] at hR;have hH:=fun W (hW:Below w.heap.size w W)=>find_of L S f.an f.aq W (h.below hW) hG
 have hap:aptr L (some i)=.pointer (some ⟨x.1,0,none⟩):=by simp[aptr,hxi]
 rw[hp,hap] at hH;have HR:=qq hR;have HE:=qq hE;have HH:=qq hH;have HC:=qq hC;obtain⟨xb,xv⟩:=x;obtain⟨k,an,aq,rg,nd,pt,pr,oc,dp,pa,st,hw,de,ex⟩:=f;dsimp only at hk;obtain⟨k1,k6,k7,k8⟩:=hk;have d1:(k==1)=false:=by simpa using k1
 have d6:(k==6)=false:=by simpa using k6
 have d7:(k==7)=false:=by simpa using k7
 have d8:(k==8)=false:=by simpa using k8
 dsimp only[factV,factC] at*;clear hR hE hH h hok hx hp k1 k6 k7 k8 hG hC hap hxi
 cases b
 all_goals
  go_enter Tryz.func21,Tryz.ntmps21;go_wp2_with fail
  (with_reducible refine(HR.out _ (HE.out.below (by go_grown))).mono ?_)
  rintro e w1 ⟨rfl,hb1⟩;have B1:Below w.heap.size w w1:=below_then (by go_grown) hb1;have HK:=qq ((Blk.fresh w _ _ _ rfl).below hb1);obtain⟨q,qf⟩:=HK.out.out;go_wp2_with fail
  (with_reducible refine(HH.out _ B1).mono ?_)
  rintro e w2 ⟨rfl,hb2⟩;have B2:Below w.heap.size w w2:=below_then B1 hb2;clear q qf;obtain⟨q,qf⟩:=(HK.out.below hb2).out;go_wp2_with fail;refine(HC.out _ B2).mono ?_;rintro e w3 ⟨rfl,hs⟩;have HS:=qq (hs.after B2);have e9:w3.cell? ⟨8,0,none⟩=some (errV (ea 9)):=(HE.out.goes HS.out).e.e9;clear hs;go_wp2_with fail;go_ret;exact⟨rfl,HS.out⟩
end Go.Proofs.YtlkajejbfojkeaaGreatDoor
