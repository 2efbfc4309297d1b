/- RstE, RstQ, Bu17, Al17b, DoB, StepR, DlA -/
import Derived.Test.YtlkajejbfojkeaaGreatDoorWRstN
import Derived.Test.YtlkajejbfojkeaaGreatDoorWRstM
import Derived.Test.YtlkajejbfojkeaaGreatDoorWRstJ
import Derived.Test.YtlkajejbfojkeaaGreatDoorWRstI
import Derived.Test.YtlkajejbfojkeaaGreatDoorWRstH
import Derived.Test.YtlkajejbfojkeaaGreatDoorWRstG
import Derived.Test.YtlkajejbfojkeaaGreatDoorWRstF
import Derived.Test.YtlkajejbfojkeaaGreatDoorWLdG
set_option linter.unusedSimpArgs false
set_option linter.unusedVariables false
set_option maxRecDepth 100000
set_option maxHeartbeats 16000000
namespace Go.Proofs.YtlkajejbfojkeaaGreatDoor
open Go.RowKit
theorem rnopart7 (R : RLoc) (S : Sto) (f : SFact) (w : World) (hx : F64 f.ex) (h : RStoreAt R S w) (hok : fok f = true) (hk : f.k = 7) (hi : (S.parts.length : Int) ≤ f.pt) :
    Calls Tryz.prog 22 #[.pointer (some ⟨R.sb,0,none⟩),factV f] w (RApplyEnds R S 9 w):=by
 have hR:=fun W=>rright14_of f hx W
 rw[hok] at hR;obtain⟨a,cap,hv,hn,hr⟩:=part_row h.parts;have HR:=qq hR;have H:=qq h;have hsb:=h.blk.lt;obtain⟨n,hnn⟩:∃n,n=S.parts.length:=⟨_,rfl⟩
 rw[←hnn] at hv hi;have HQ:=qq (fun W (hW:RStoreAt R S W)=>(show W.cell? ⟨R.sb,3,none⟩=some (.slice a n cap) by rw[←hv];exact hW.blk.cell 3));obtain⟨k,an,aq,rg,nd,pt,pr,oc,dp,pa,st,hw,de,ex⟩:=f;dsimp only at hi hk;subst hk;dsimp only[factV,factC] at*;clear hR h hok hx hnn hn hr hv;go_enter Tryz.func22,Tryz.ntmps22;go_wp2_with fail
 (with_reducible refine(HR.out _).mono ?_)
 rintro e w1 ⟨rfl,hb1⟩;have B1:Below w.heap.size w w1:=below_then (by go_grown) hb1;have HK1:=qq ((Blk.fresh w #[.int .i64 7,an,aq,rg,nd,pt,pr,oc,dp,pa,st,hw,de,.float .f64 ex] 42 _ rfl).below hb1);have hz1:=hb1.size;simp only[World.size_alloc] at hz1;have hs1:R.sb<w1.heap.size:=by omega
 have hs2:w.heap.size<w1.heap.size:=by omega
 obtain⟨q,qf⟩:=HK1.out.out;have c3:=HQ.out _ (H.out.below B1);have hi3:decide ((n:Int)≤pt)=true:=decide_eq_true hi;go_wp2_with fail;go_region
 all_goals go_wp2_with fail
 all_goals go_ret
 all_goals exact⟨rfl,RGoes.same H.out (below_then B1 (by go_grown))⟩
theorem rpart7_yes (R : RLoc) (S : Sto) (f : SFact) (i : Nat) (p : SPart) (w : World) (hx : F64 f.ex) (h : RStoreAt R S w) (hok : fok f = true) (hk : f.k = 7) (hi : f.pt = (i : Int)) (hp : S.parts[i]? = some p) (hr7 : p.rg = -1) :
    Calls Tryz.prog 22 #[.pointer (some ⟨R.sb,0,none⟩),factV f] w (RApplyEnds R {S with parts:=S.parts.set i {p with rg:=f.rg}} 0 w):=by
 have hR:=fun W=>rright14_of f hx W
 rw[hok] at hR;obtain⟨a,cap,hv,hn,hr⟩:=part_row h.parts;have hil:=(List.getElem?_eq_some_iff.1 hp).1;obtain⟨g,rfl,hg,hfz,hcell⟩:=hr (by omega);have hcl:=hcell i p hp;have HG:=qq (fun w2 (hb:Below w.heap.size w w2)=>rrg_part_goes h hb hv hp f.rg);obtain⟨n,hnn⟩:∃n,n=S.parts.length:=⟨_,rfl⟩
 rw[←hnn] at hv hil;have HR:=qq hR;have HCL:=qq hcl;have HFZ:=qq hfz;have hsb:=h.blk.lt;have HQ:=qq (show w.cell? ⟨R.sb,3,none⟩=some (.slice (some ⟨g,0,none⟩) n cap) by rw[←hv];exact h.blk.cell 3);have hi0:(0:Int)≤(i:Int):=by omega
 have hi1:(i:Int)<(n:Int):=by omega
 have hi2:¬(n:Int)≤(i:Int):=by omega
 have hi3:decide ((n:Int)≤(i:Int))=false:=decide_eq_false hi2;have hi4:¬n≤i:=by omega
 have hi5:decide (n≤i)=false:=decide_eq_false hi4;obtain⟨pan,paq,prg,⟨sp,sd,ss,sh⟩⟩:=p;obtain⟨k,an,aq,rg,nd,pt,pr,oc,dp,pa,st,hw,de,ex⟩:=f;dsimp only at hi hk;subst hk;subst hi;dsimp only[factV,factC] at*;subst hr7;clear hR h hok hx hnn hn hr hv hcl hcell hp hfz;go_enter Tryz.func22,Tryz.ntmps22;go_wp2_with fail
 (with_reducible refine(HR.out _).mono ?_)
 rintro e w1 ⟨rfl,hb1⟩;have B1:Below w.heap.size w w1:=below_then (by go_grown) hb1;have HK1:=qq ((Blk.fresh w #[.int .i64 7,an,aq,rg,nd,(i:Int),pr,oc,dp,pa,st,hw,de,.float .f64 ex] 42 _ rfl).below hb1);have hz1:=hb1.size;simp only[World.size_alloc] at hz1;have hs1:R.sb<w1.heap.size:=by omega
 have hs2:w.heap.size<w1.heap.size:=by omega
 obtain⟨q,qf⟩:=HK1.out.out;have hg1:g<w1.heap.size:=by omega
 obtain⟨pc0,pc1,pc2,pc3,pc4,pc5,pc6⟩:=PartC.below HCL.out B1 hg;have f1:∀j,w1.frozen? ⟨g,j,none⟩=false:=fun j=>(B1.frozen (p:=⟨g,j,none⟩) hg).trans (HFZ.out j)
 have c3:=(B1.cell (p:=⟨R.sb,3,none⟩) hsb).trans HQ.out;dsimp only at pc0 pc1 pc2 pc3 pc4 pc5 pc6;clear pc0 pc1 pc3 pc4 pc5 pc6;go_wp2_with fail;go_region
 all_goals go_wp2_with fail
 go_region
 all_goals go_wp2_with fail
 all_goals go_ret
 all_goals exact⟨rfl,(HG.out _ (below_then B1 (by go_grown))).then_below (by go_grown)⟩
theorem rpart7_no (R : RLoc) (S : Sto) (f : SFact) (i : Nat) (p : SPart) (w : World) (hx : F64 f.ex) (h : RStoreAt R S w) (hok : fok f = true) (hk : f.k = 7) (hi : f.pt = (i : Int)) (hp : S.parts[i]? = some p) (hr7 : 0 ≤ p.rg) :
    Calls Tryz.prog 22 #[.pointer (some ⟨R.sb,0,none⟩),factV f] w (RApplyEnds R S 9 w):=by
 have hR:=fun W=>rright14_of f hx W
 rw[hok] at hR;obtain⟨a,cap,hv,hn,hr⟩:=part_row h.parts;have hil:=(List.getElem?_eq_some_iff.1 hp).1;obtain⟨g,rfl,hg,hfz,hcell⟩:=hr (by omega);have hcl:=hcell i p hp;have HG:=qq (fun w2 (hb:Below w.heap.size w w2)=>RGoes.same h hb);obtain⟨n,hnn⟩:∃n,n=S.parts.length:=⟨_,rfl⟩
 rw[←hnn] at hv hil;have HR:=qq hR;have HCL:=qq hcl;have HFZ:=qq hfz;have hsb:=h.blk.lt;have HQ:=qq (show w.cell? ⟨R.sb,3,none⟩=some (.slice (some ⟨g,0,none⟩) n cap) by rw[←hv];exact h.blk.cell 3);have hi0:(0:Int)≤(i:Int):=by omega
 have hi1:(i:Int)<(n:Int):=by omega
 have hi2:¬(n:Int)≤(i:Int):=by omega
 have hi3:decide ((n:Int)≤(i:Int))=false:=decide_eq_false hi2;have hi4:¬n≤i:=by omega
 have hi5:decide (n≤i)=false:=decide_eq_false hi4;obtain⟨pan,paq,prg,⟨sp,sd,ss,sh⟩⟩:=p;obtain⟨k,an,aq,rg,nd,pt,pr,oc,dp,pa,st,hw,de,ex⟩:=f;dsimp only at hi hk;subst hk;subst hi;dsimp only[factV,factC] at*;have hr8:decide ((0:Int)≤prg)=true:=decide_eq_true hr7;clear hR h hok hx hnn hn hr hv hcl hcell hp hfz;go_enter Tryz.func22,Tryz.ntmps22;go_wp2_with fail
 (with_reducible refine(HR.out _).mono ?_)
 rintro e w1 ⟨rfl,hb1⟩;have B1:Below w.heap.size w w1:=below_then (by go_grown) hb1;have HK1:=qq ((Blk.fresh w #[.int .i64 7,an,aq,rg,nd,(i:Int),pr,oc,dp,pa,st,hw,de,.float .f64 ex] 42 _ rfl).below hb1);have hz1:=hb1.size;simp only[World.size_alloc] at hz1;have hs1:R.sb<w1.heap.size:=by omega
 have hs2:w.heap.size<w1.heap.size:=by omega
 obtain⟨q,qf⟩:=HK1.out.out;have hg1:g<w1.heap.size:=by omega
 obtain⟨pc0,pc1,pc2,pc3,pc4,pc5,pc6⟩:=PartC.below HCL.out B1 hg;have f1:∀j,w1.frozen? ⟨g,j,none⟩=false:=fun j=>(B1.frozen (p:=⟨g,j,none⟩) hg).trans (HFZ.out j)
 have c3:=(B1.cell (p:=⟨R.sb,3,none⟩) hsb).trans HQ.out;dsimp only at pc0 pc1 pc2 pc3 pc4 pc5 pc6;clear pc0 pc1 pc3 pc4 pc5 pc6;go_wp2_with fail;go_region
 all_goals go_wp2_with fail
 all_goals go_ret
 all_goals exact⟨rfl,HG.out _ (below_then B1 (by go_grown))⟩
theorem rapply_of (R : RLoc) (S : Sto) (f : SFact) (w : World) (hx : F64 f.ex) (h : RStoreAt R S w) (hG : StoGood S) :
    Calls Tryz.prog 22 #[.pointer (some ⟨R.sb,0,none⟩),factV f] w (RApplyEnds R (sapply S f).1 (sapply S f).2 w):=by
 cases hok:fok f with
 | false=>
  have e:sapply S f=(S,4):=by unfold sapply;rw[if_pos hok]
  rw[e];exact rapply_bad R S f w hx h hok
 | true=>
  have hs:∀T,sput S f=some T→sapply S f=(T,0):=fun T hT=>by unfold sapply;rw[if_neg (by rw[hok];simp),hT]
  have hn:sput S f=none→sapply S f=(S,9):=fun hT=>by unfold sapply;rw[if_neg (by rw[hok];simp),hT]
  have hkk:=fok_any hok;by_cases k1:f.k=1
  · obtain⟨f1,f2,f3⟩:=fok1 hok k1;have fi:=ctxOk_id f1;by_cases c1:f.an=S.node
    case neg=>
     have e:sput S f=none:=by unfold sput;rw[if_pos k1,if_pos (.inl c1)]
     rw[hn e];exact ropen_no1 R S f w hx h hok k1 c1
    by_cases c2:S.next≤f.aq
    case neg=>
     have e:sput S f=none:=by unfold sput;rw[if_pos k1,if_pos (.inr (.inl (by omega)))]
     rw[hn e];exact ropen_no2 R S f w hx h hok k1 c1 (by omega)
    by_cases c3:S.acts.length<8
    case neg=>
     have e:sput S f=none:=by unfold sput;rw[if_pos k1,if_pos (.inr (.inr (.inl (by omega))))]
     rw[hn e];exact ropen_no3 R S f w hx h hok k1 c1 c2 (by omega)
    by_cases c4:0<f.pa→f.pa≤(S.parts.length:Int)∧schild S f.pa=none
    · have e:sput S f=some {S with next:=f.aq+1,acts:=S.acts ++ [⟨f.an,f.aq,f.oc,f.dp,f.ex,f.pa,0,[]⟩]}:=by
       unfold sput;rw[if_pos k1,if_neg];rintro(e | e | e | ⟨e1,e2⟩)
       · exact e c1
       · omega
       · omega
       · obtain⟨q1,q2⟩:=c4 e1;rcases e2 with e2 | e2
         · omega
         · rw[q2] at e2;cases e2
      rw[hs _ e];by_cases c5:0<f.pa
      · exact ropen_yes2 R S f w hx h hok k1 ⟨fi.2.2.1,fi.2.2.2⟩ ⟨f2,f3⟩ c1 c2 c3 c5 (c4 c5).1 (c4 c5).2
      · exact ropen_yes1 R S f w hx h hok k1 ⟨fi.2.2.1,fi.2.2.2⟩ ⟨f2,f3⟩ c1 c2 c3 (by omega)
    · have c5:0<f.pa:=Decidable.byContradiction fun e=>c4 (fun e'=>absurd e' e)
      by_cases c6:f.pa≤(S.parts.length:Int)
      · cases hc:schild S f.pa with
        | none=>exact absurd (fun _=>⟨c6,hc⟩) c4
        | some i=>
         have e:sput S f=none:=by unfold sput;rw[if_pos k1,if_pos (.inr (.inr (.inr ⟨c5,.inr (by rw[hc];rfl)⟩)))]
         rw[hn e];exact ropen_no5 R S f w hx h hok k1 hG.acts c1 c2 c3 c5 f3 c6 i hc
      · have e:sput S f=none:=by unfold sput;rw[if_pos k1,if_pos (.inr (.inr (.inr ⟨c5,.inl (by omega)⟩)))]
        rw[hn e];exact ropen_no4 R S f w hx h hok k1 hG.acts c1 c2 c3 c5 f3 (by omega)
  by_cases k6:f.k=6
  · obtain⟨f1,f2,f3,f4,f5⟩:=fok6 hok k6;by_cases c:f.pt=(S.parts.length:Int)
    · have e:sput S f=some {S with parts:=S.parts ++ [⟨f.an,f.aq,-1,⟨f.pr,2,1,0⟩⟩]}:=by unfold sput;rw[if_neg k1,if_pos k6,if_neg (by simp[c])]
      rw[hs _ e];exact rjoin_yes R S f w hx h hok k6 hG.parts c
    · have e:sput S f=none:=by unfold sput;rw[if_neg k1,if_pos k6,if_pos c]
      rw[hn e];exact rjoin_no R S f w hx h hok k6 c
  by_cases k78:f.k=7∨f.k=8
  · have h0:0≤f.pt:=by
     rcases k78 with k | k
     · exact(fok7 hok k).1
     · exact(fok8 hok k).1
    by_cases c:f.pt<(S.parts.length:Int)
    case neg=>
     have e:sput S f=none:=by
      unfold sput;rw[if_neg k1,if_neg k6,if_pos k78,List.getElem?_eq_none (by omega)]
     rw[hn e];rcases k78 with k7 | k8
     · exact rnopart7 R S f w hx h hok k7 (by omega)
     · exact rnopart8 R S f w hx h hok k8 (by omega)
    obtain⟨i,hi⟩:∃i:Nat,f.pt=(i:Int):=⟨f.pt.toNat,by omega⟩
    have hil:i<S.parts.length:=by omega
    have hp:S.parts[i]? =some S.parts[i]:=List.getElem?_eq_getElem hil;have hit:f.pt.toNat=i:=by omega
    obtain⟨p,hpe⟩:∃p,p=S.parts[i]:=⟨_,rfl⟩
    rw[←hpe] at hp;by_cases k8:f.k=8
    · cases ht:sturn p.seat f.st f.hw with
      | none=>
       have e:sput S f=none:=by
        unfold sput;rw[if_neg k1,if_neg k6,if_pos k78,hit,hp];simp only;rw[if_pos k8,ht];rfl
       rw[hn e];exact rpart8_no R S f i p w hx h hok k8 hi hp (turnOk_none ht)
      | some t=>
       have e:sput S f=some {S with parts:=S.parts.set i {p with seat:=t}}:=by
        unfold sput;rw[if_neg k1,if_neg k6,if_pos k78,hit,hp];simp only;rw[if_pos k8,ht];rfl
       rw[hs _ e];obtain⟨q1,q2⟩:=turnOk_some ht;subst q2;exact rpart8_yes R S f i p w hx h hok k8 hi hp q1
    · have k7:=k78.resolve_right k8;by_cases hr:p.rg= -1
      · have e:sput S f=some {S with parts:=S.parts.set i {p with rg:=f.rg}}:=by
         unfold sput;rw[if_neg k1,if_neg k6,if_pos k78,hit,hp];simp only;rw[if_neg k8,if_neg (by simp[hr])]
        rw[hs _ e];exact rpart7_yes R S f i p w hx h hok k7 hi hp hr
      · have e:sput S f=none:=by
         unfold sput;rw[if_neg k1,if_neg k6,if_pos k78,hit,hp];simp only;rw[if_neg k8,if_pos hr]
        rw[hn e];exact rpart7_no R S f i p w hx h hok k7 hi hp (by have:=(hG.part p (List.mem_of_getElem? hp)).2.1;omega)
  have hk4:f.k≠1∧f.k≠6∧f.k≠7∧f.k≠8:=⟨k1,k6,fun e=>k78 (.inl e),fun e=>k78 (.inr e)⟩
  cases hi:sfind S f.an f.aq with
  | none=>
   have e:sput S f=none:=by unfold sput;rw[if_neg k1,if_neg k6,if_neg k78,hi]
   rw[hn e];exact rapply_noact R S f w hx h hG.acts hok hk4 hi
  | some i=>
   have hil:i<S.acts.length:=by unfold sfind at hi;exact(List.findIdx?_eq_some_iff_getElem.1 hi).1
   obtain⟨a,ha⟩:∃a,S.acts[i]? =some a:=⟨_,List.getElem?_eq_getElem hil⟩
   obtain⟨x,hxi⟩:∃x,R.rv[i]? =some x:=⟨_,List.getElem?_eq_getElem (by rw[h.len];exact hil)⟩
   have hA:=hG.act a (List.mem_of_getElem? ha);have hl:=hA.len;have hsp:sput S f=if f.k=5 then(if(a.regs.any fun r=>decide (r.seat.s≠14))=true then none else some {S with acts:=S.acts.take i ++S.acts.drop (i+1)}) else(sact a f).map fun b=>{S with acts:=S.acts.set i b}:=by
    unfold sput;rw[if_neg k1,if_neg k6,if_neg k78,hi];simp only;rw[ha]
   have yes:∀T,sput S f=some T→(∀W,Below w.heap.size w W→Calls Tryz.prog 93 #[.pointer (some ⟨R.sb,0,none⟩),.int .i64 (i:Int),factV f] W fun e w'=>e=.returned (.bool true)∧RGoes R T W w')→Calls Tryz.prog 22 #[.pointer (some ⟨R.sb,0,none⟩),factV f] w (RApplyEnds R (sapply S f).1 (sapply S f).2 w):=fun T hT hC=>by
    rw[hs _ hT];exact rapply_act R S T f i true w hx h hG.acts hok hk4 hi hC
   have no:sput S f=none→(∀W,Below w.heap.size w W→Calls Tryz.prog 93 #[.pointer (some ⟨R.sb,0,none⟩),.int .i64 (i:Int),factV f] W fun e w'=>e=.returned (.bool false)∧RGoes R S W w')→Calls Tryz.prog 22 #[.pointer (some ⟨R.sb,0,none⟩),factV f] w (RApplyEnds R (sapply S f).1 (sapply S f).2 w):=fun hT hC=>by
    rw[hn hT];exact rapply_act R S S f i false w hx h hG.acts hok hk4 hi hC
   have hxl:∀W,Below w.heap.size w W→RStoreAt R S W:=fun W hW=>h.below hW
   by_cases k5:f.k=5
   · rw[if_pos k5] at hsp
     cases hany:(a.regs.any fun r=>decide (r.seat.s≠14)) with
     | true=>
      rw[hany,if_pos rfl] at hsp;exact no hsp (fun W hW=>ract5_no R S f i a x W (hxl W hW) hG.acts k5 hxi ha hl hany)
     | false=>
      rw[hany,if_neg (by simp)] at hsp;exact yes _ hsp (fun W hW=>ract5_yes R S f i a x W (hxl W hW) hG.acts k5 hxi ha hl hany)
   rw[if_neg k5] at hsp;by_cases k2:f.k=2
   · obtain⟨f1,f2,f3,f4,f5,f6,f7,f8,f9⟩:=fok2 hok k2;by_cases c1:f.rg=(a.regs.length:Int)
     case neg=>
      have e:sact a f=none:=by unfold sact;rw[if_pos k2,if_pos (.inl c1)]
      rw[e] at hsp;exact no hsp (fun W hW=>ract2_no1 R S f i a x W (hxl W hW) hG.acts k2 hxi ha c1)
     by_cases c2:a.de=0
     case neg=>
      have e:sact a f=none:=by unfold sact;rw[if_pos k2,if_pos (.inr (.inl c2))]
      rw[e] at hsp;exact no hsp (fun W hW=>ract2_no2 R S f i a x W (hxl W hW) hG.acts k2 hxi ha c1 c2)
     cases hany:(a.regs.any fun r=>decide (r.n=f.nd∧r.p=f.pt)) with
     | true=>
      have e:sact a f=none:=by unfold sact;rw[if_pos k2,if_pos (.inr (.inr hany))]
      rw[e] at hsp;exact no hsp (fun W hW=>ract2_no3 R S f i a x W (hxl W hW) hG.acts k2 hxi ha hl c1 c2 hany)
     | false=>
      have e:sact a f=some {a with regs:=a.regs ++ [⟨f.nd,f.pt,⟨f.pr,1,1,0⟩⟩]}:=by
       unfold sact;rw[if_pos k2,if_neg];rintro(e | e | e)
       · exact e c1
       · exact e c2
       · rw[hany] at e;cases e
      rw[e] at hsp;exact yes _ hsp (fun W hW=>ract2_yes R S f i a x W (hxl W hW) hG.acts k2 hxi ha hl c1 c2 hany)
   by_cases k3:f.k=3
   · obtain⟨f1,f2,f3,f4⟩:=fok3 hok k3;have hsa : sact a f = match a.regs[f.rg.toNat]? with
         | none=>none
         | some r=>(sturn r.seat f.st f.hw).map fun t=>{a with regs:=a.regs.set f.rg.toNat {r with seat:=t}}:=by
      unfold sact;rw[if_neg k2,if_pos k3];cases a.regs[f.rg.toNat]? <;>rfl
     by_cases c1:f.rg<(a.regs.length:Int)
     case neg=>
      have e:sact a f=none:=by rw[hsa,List.getElem?_eq_none (by omega)]
      rw[e] at hsp;exact no hsp (fun W hW=>ract3_len R S f i a x W (hxl W hW) hG.acts k3 hxi ha (by omega))
     obtain⟨j,hj⟩:∃j:Nat,f.rg=(j:Int):=⟨f.rg.toNat,by omega⟩
     have hjt:f.rg.toNat=j:=by omega
     obtain⟨r,hr⟩:∃r,a.regs[j]? =some r:=⟨_,List.getElem?_eq_getElem (by omega)⟩
     rw[hjt,hr] at hsa;simp only at hsa
     cases ht:sturn r.seat f.st f.hw with
     | none=>
      rw[ht] at hsa;rw[hsa] at hsp;exact no hsp (fun W hW=>ract3_no R S f i a x j r W (hxl W hW) hG.acts k3 hxi ha hj hr hl (turnOk_none ht))
     | some t=>
      rw[ht] at hsa;rw[hsa] at hsp;obtain⟨q1,q2⟩:=turnOk_some ht;subst q2;exact yes _ hsp (fun W hW=>ract3_yes R S f i a x j r W (hxl W hW) hG.acts k3 hxi ha hj hr hl q1)
   have k4:f.k=4:=by omega
   have hsa:sact a f=if a.oc≠1∨a.de≠0 then none else some {a with de:=f.de}:=by
    unfold sact;rw[if_neg k2,if_neg k3]
   by_cases c:a.oc≠1∨a.de≠0
   · rw[hsa,if_pos c] at hsp;exact no hsp (fun W hW=>by
       by_cases c0:a.oc=1
       · exact ract4_no2 R S f i a x W (hxl W hW) hG.acts k4 hxi ha c0 (c.resolve_left (fun e=>e c0))
       · exact ract4_no1 R S f i a x W (hxl W hW) hG.acts k4 hxi ha c0)
   · rw[hsa,if_neg c] at hsp;exact yes _ hsp (fun W hW=>ract4_yes R S f i a x W (hxl W hW) hG.acts k4 hxi ha (Decidable.byContradiction fun e=>c (.inl e)) (Decidable.byContradiction fun e=>c (.inr e)))
attribute [local go_sem] store_float
def BuiltYes17 (S:Sto) (w:World) (e:Ending) (w':World):Prop:=∃L R,e=.returned (.tuple #[.pointer (some ⟨L.sb,0,none⟩),.pointer (some ⟨R.sb,0,none⟩),.bool true])∧Built L R S w w'
theorem built17_no (node:Int) (v:Value) (fs:List SFact) (ea:Int→Addr) (w:World) (hE:EnvS ea w) (hR:ReadFacts w v fs) (h:¬((0≤node∧node≤3)∧fs.length≤60)):Calls Tryz.prog 62 #[.int .i64 node,v] w (Makes (.tuple #[.pointer none,.pointer none,.bool false]) w):=by
 obtain⟨a,cap,rfl,_⟩:=hR;obtain⟨n,hn⟩:∃n,n=fs.length:=⟨_,rfl⟩
 rw[←hn] at h⊢;clear hn;by_cases hnd:0≤node∧node≤3
 · have HN:=qq (snew_yes node w hnd);have hl:(60:Int)<(n:Int):=by have:¬n≤60:=fun e=>h ⟨hnd,e⟩;omega
   have d1:decide ((60:Int)<(n:Int))=true:=decide_eq_true hl;have d2:decide (60<n)=true:=decide_eq_true (by omega);clear hE h hnd hl;go_enter Tryz.func62,Tryz.ntmps62;go_wp2_with fail;refine HN.out.mono ?_;rintro e w1 ⟨rfl,rfl⟩;go_wp2_with fail;go_ret3;exact⟨rfl,by go_grown⟩
 · have HN:=qq (snew_no node ea w hE hnd);clear hE h hnd;go_enter Tryz.func62,Tryz.ntmps62;go_wp2_with fail;refine HN.out.mono ?_;rintro e w1 ⟨rfl,hb1⟩;go_wp2_with fail;go_ret3;exact⟨rfl,below_then hb1 (by go_grown)⟩
theorem built17_yes (node:Int) (v:Value) (fs:List SFact) (ea:Int→Addr) (w:World) (hE:EnvS ea w) (hR:ReadFacts w v fs) (hF:∀f∈fs,F64 f.ex) (hnd:0≤node∧node≤3) (hl:fs.length≤60):Calls Tryz.prog 62 #[.int .i64 node,v] w (BuiltYes17 (splay node fs) w):=by
 obtain⟨a,cap,rfl,hcells⟩:=hR;obtain⟨n,hn⟩:∃n,n=fs.length:=⟨_,rfl⟩
 rw[←hn] at hl⊢;have HC:=qq hcells;have HN0:=qq hn;have HE:=qq hE;have HF:=qq hF;have HN:=qq (snew_yes node w hnd);have HG:=qq (fun gs=>splay_good hnd gs);have d1:decide ((60:Int)<(n:Int))=false:=decide_eq_false (by omega);have d2:decide (60<n)=false:=decide_eq_false (by omega);clear hcells hn hE hF hnd;go_enter Tryz.func62,Tryz.ntmps62;go_wp2_with fail;refine HN.out.mono ?_;rintro e w1 ⟨rfl,rfl⟩
 have HB0:=qq (built_start (w:=w) (W:=w.alloc (.cells #[node,.int .i64 0,.slice none 0 0,.slice none 0 0] 154)) (node:=node) (x:=w.heap.size) (by go_grown) (Blk.fresh w _ _ _ rfl) (Nat.le_refl _) 34);rw[show(w.alloc (.cells #[node,.int .i64 0,.slice none 0 0,.slice none 0 0] 154)).heap.size=w.heap.size+1 by simp] at HB0;go_wp2_with fail;clear d1 d2
 go_loopw [29] (fun i wr=>∃k:Nat,k≤n∧i=.int .i64 (k:Nat)∧Hid (∃L R,L.sb=w.heap.size∧R.sb=w.heap.size+1∧Built L R (splay node (fs.take k)) w wr)) (fun i _=>n - (intOf i).toNat)
 case atStart=>exact⟨0,by omega,by first | rfl | go_num,qq ⟨_,_,rfl,rfl,HB0.out⟩⟩
 case round=>
  obtain⟨k,hk,rfl,HBU⟩:=hrel;obtain⟨L,R,hLb,hRb,hB⟩:=HBU.out;by_cases hlt:k<n
  · have hks:k<fs.length:=by rw[←HN0.out];exact hlt
    obtain⟨b,off,rfl,hbl,hfact⟩:=HC.out (by intro e;rw[e] at hks;simp at hks);obtain⟨f,hf⟩:∃f,f=fs[k]:=⟨_,rfl⟩
    have hat:=(hfact k hks).below hB.be hbl;rw[←hf] at hat;have hx:F64 f.ex:=HF.out f (by rw[hf];exact List.getElem_mem hks);have hsn:splay node (fs.take (k+1))=(sapply (splay node (fs.take k)) f).1:=by
     rw[List.take_succ_eq_append_getElem hks,splay_snoc,hf]
    have HSN:=qq hsn;have HG1:=qq (HG.out (fs.take k));obtain⟨S,hS⟩:∃S,S=splay node (fs.take k):=⟨_,rfl⟩
    rw[←hS] at hB HSN HG1;obtain⟨T,hT⟩:∃T,T=(sapply S f).1:=⟨_,rfl⟩
    rw[←hT] at HSN;have hwr:=hB.be.size;have hLz:w.heap.size<wr.heap.size:=by have:=hB.st.blk.lt;omega
    have HA:=qq (fun L W (hW:EnvG L ea W) (hs:StoreAt L S W)=>apply_of L S f ea W hx hW hs HG1.out);have HRA:=qq (fun R W (hs:RStoreAt R S W)=>rapply_of R S f W hx hs HG1.out);rw[←hT] at HA HRA;obtain⟨en,hen⟩:∃en,en=(sapply S f).2:=⟨_,rfl⟩
    rw[←hen] at HA HRA;have HB:=qq hB;obtain⟨c0,c1,c2,c3,c4,c5,c6,c7,c8,c9,c10,c11,c12,c13⟩:=hat;have hki:(k:Int)<(n:Int):=by omega
    have hk0:(0:Int)≤(k:Int):=by omega
    have hbw:b<wr.heap.size:=by omega
    clear hB hfact hf hsn hS hT hen HBU hx;obtain⟨k',an,aq,rg,nd,pt,pr,oc,dp,pa,st,hw,de,ex⟩:=f;dsimp only[factV,factC,ApplyEnds,RApplyEnds] at*;go_wp2_with fail;rw[←hLb];refine(HA.out L _ (envG_of HE.out (below_then HB.out.be (by go_grown)) HB.out.nl) (HB.out.st.below (by go_grown))).mono ?_;rintro e w2 ⟨rfl,hs⟩
    obtain⟨L2,hL2,hH,hz2,hbk⟩:=(HB.out.below (w2:=wr.alloc (.cells #[k',an,aq,rg,nd,pt,pr,oc,dp,pa,st,hw,de,.float .f64 ex] 39)) (by go_grown)).first hs;have HX:=qq (((Blk.fresh wr #[k',an,aq,rg,nd,pt,pr,oc,dp,pa,st,hw,de,.float .f64 ex] 39 _ rfl)).same hz2 (hbk _ (by simp) (fun h=>by have:=HB.out.st.lt _ h;omega)));have HH:=qq hH;have q:=HX.out.cell;have hzz:=HX.out.lt;clear hs hH hbk
    go_wp2_with fail;rw[←hRb];refine(HRA.out R _ HH.out.rs).mono ?_;rintro e w3 ⟨rfl,hs⟩;obtain⟨R2,hR2,hB3⟩:=HH.out.second hs;have HB3:=qq hB3;clear hs hB3 q;go_wp2_with fail;go_roundw
    case rel=>exact⟨k+1,by omega,by go_num,qq ⟨L2,R2,by rw[hL2,hLb],by rw[hR2,hRb],by rw[HSN.out];exact HB3.out⟩⟩
    case measure=>(simp[intOf];omega)
  · obtain rfl:k=n:=by omega
    rw[show fs.take k=fs from List.take_of_length_le (by rw[←HN0.out];exact Nat.le_refl _)] at hB;have HB:=qq hB;clear hB;go_wp2_with fail;go_ret3;refine⟨L,R,?_,HB.out⟩;rw[hLb,hRb];rfl
theorem fit17_of (L:SLoc) (S:Sto) (v:Value) (fs:List SFact) (ea:Int→Addr) (w0 w:World) (hE:EnvS ea w0) (hb0:Below w0.heap.size w0 w) (hnl:∀k∈L.foot,w0.heap.size≤k) (h:StoreAt L S w) (hG:StoGood S) (hR:ReadFacts w v fs) (hap:∀k,sliceBlock v=some k→k∉L.foot) (hF:∀f∈fs,F64 f.ex) (hl:fs.length≤1000):Calls Tryz.prog 63 #[.pointer (some ⟨L.sb,0,none⟩),v] w (fun e w'=>e=.returned (.bool (sfit S fs).2)∧SGoes L (sfit S fs).1 w w'):=by
 obtain⟨a,cap,rfl,hcells⟩:=hR;obtain⟨n,hn⟩:∃n,n=fs.length:=⟨_,rfl⟩
 rw[←hn] at hl hap⊢;have HC:=qq hcells;have HN0:=qq hn;have HE:=qq hE;have HF:=qq hF;have HB0:=qq hb0;have HNL:=qq hnl;have HAP:=qq hap;have H:=qq h;have HG:=qq hG;have hlt0:=h.lt;have HLT:=qq hlt0;clear hcells hn hE hF hb0 hnl hap h hG hlt0;go_enter Tryz.func63,Tryz.ntmps63;go_wp2_with fail
 go_loopw [9] (fun i wr=>∃k:Nat,k≤n∧i=.int .i64 (k:Nat)∧Hid (∃U,sfit S fs=sfit U (fs.drop k)∧StoGood U∧SGoes L U w wr)) (fun i _=>n - (intOf i).toNat)
 case atStart=>exact⟨0,by omega,by first | rfl | go_num,qq ⟨S,rfl,HG.out,SGoes.same H.out (by go_grown)⟩⟩
 case round=>
  obtain⟨k,hk,rfl,HU⟩:=hrel;obtain⟨U,hU,hGU,hgo⟩:=HU.out;by_cases hlt:k<n
  · have hks:k<fs.length:=by rw[←HN0.out];exact hlt
    obtain⟨b,off,rfl,hbl,hfact⟩:=HC.out (by intro e;rw[e] at hks;simp at hks);obtain⟨f,hf⟩:∃f,f=fs[k]:=⟨_,rfl⟩
    obtain⟨L1,hL1,hS1,hg1⟩:=hgo;have hbn:b∉L.foot:=HAP.out b rfl;have hat:=(hfact k hks).heap (hg1.block b hbl hbn);rw[←hf] at hat;have hx:F64 f.ex:=HF.out f (by rw[hf];exact List.getElem_mem hks);have hst:sfit S fs=if(sapply U f).2=0 then sfit (sapply U f).1 (fs.drop (k+1)) else((sapply U f).1,false):=by
     rw[hU,List.drop_eq_getElem_cons hks,←hf];rfl
    have hgood:StoGood (sapply U f).1:=sapply_good hGU;have HST:=qq hst;have HGD:=qq hgood;have hz:=hg1.size;have HA:=qq (fun W (hW:EnvG L1 ea W) (hs:StoreAt L1 U W)=>apply_of L1 U f ea W hx hW hs hGU);obtain⟨T,hT⟩:∃T,T=(sapply U f).1:=⟨_,rfl⟩
    obtain⟨en,hen⟩:∃en,en=(sapply U f).2:=⟨_,rfl⟩
    rw[←hT,←hen] at HA HST;simp only[hL1] at HA;rw[←hT] at HGD;have hbe:Below w0.heap.size w0 wr:=HB0.out.trans (hg1.below HNL.out HB0.out.size);have hnl1:∀k∈L1.foot,w0.heap.size≤k:=fun k hk=>by
     rcases hg1.new k hk with e | e
     · exact HNL.out k e
     · exact Nat.le_trans HB0.out.size e
    have HBE:=qq hbe;have HNL1:=qq hnl1;have HS1:=qq hS1;have HG1:=qq hg1;obtain⟨c0,c1,c2,c3,c4,c5,c6,c7,c8,c9,c10,c11,c12,c13⟩:=hat;have hki:(k:Int)<(n:Int):=by omega
    have hk0:(0:Int)≤(k:Int):=by omega
    have hbw:b<wr.heap.size:=by omega
    clear hfact hf hst hgood hT hen hx hU hGU hS1 hg1 hbe hnl1 HU hbn;obtain⟨k',an,aq,rg,nd,pt,pr,oc,dp,pa,st,hw,de,ex⟩:=f;dsimp only[factV,factC,ApplyEnds] at*;go_wp2_with fail;refine(HA.out _ (envG_of HE.out (below_then HBE.out (by go_grown)) HNL1.out) (HS1.out.below (by go_grown))).mono ?_;rintro e w2 ⟨rfl,hs⟩;have HSG:=qq (show SGoes L T w w2 by
      obtain⟨L2,hL2,hS2,hg2⟩:=hs;exact⟨L2,by rw[hL2,hL1],hS2,(HG1.out.then_below (w2:=wr.alloc (.cells #[k',an,aq,rg,nd,pt,pr,oc,dp,pa,st,hw,de,.float .f64 ex] 39)) (by go_grown)).trans hg2⟩)
    clear hs;by_cases h0:en=0
    · subst h0;rw[if_pos rfl] at HST;have he0:errOf ea 0=.nilIface:=rfl;simp only[he0];go_wp2_with fail;go_roundw
      case rel=>exact⟨k+1,by omega,by go_num,qq ⟨T,HST.out,HGD.out,HSG.out⟩⟩
      case measure=>(simp[intOf];omega)
    · rw[if_neg h0] at HST;have he0:errOf ea en=errV (ea en):=by unfold errOf;rw[if_neg h0]
      simp only[he0];go_wp2_with fail;go_ret;exact⟨by rw[HST.out];rfl,by rw[HST.out];exact HSG.out⟩
  · obtain rfl:k=n:=by omega
    rw[show fs.drop k=[] from List.drop_of_length_le (by rw[←HN0.out];exact Nat.le_refl _)] at hU;have HU2:=qq hU;have HGO:=qq hgo;clear hU hgo hGU HU;go_wp2_with fail;go_ret;exact⟨by rw[HU2.out];rfl,by rw[HU2.out];exact HGO.out⟩
def fs17:List SFact:=[⟨1,1,0,0,0,0,0,1,0,0,0,0,0,4621256167635550208⟩]
def m17:SMsg:=⟨17,2,1,1,0,0,3,1,0⟩
def r17a:SRes:=⟨[fEnrol 1 0 0 2 3 1],[lBack m17 0 1],0⟩
def r17b:SRes:=⟨[],[lBack m17 0 1],0⟩
theorem al17:lTell (splay 1 fs17) m17 4617315517961601024=r17a∧(sfit (splay 1 fs17) r17a.fs).2=true∧lTell (sfit (splay 1 fs17) r17a.fs).1 m17 4617315517961601024=r17b∧(sfit (splay 1 fs17) r17a.fs).1.node=1∧(splay 1 fs17).node=1:=⟨by kernel_rfl,by kernel_rfl,by kernel_rfl,by kernel_rfl,by kernel_rfl⟩
theorem ltr17_of (L:SLoc) (S:Sto) (hn:S.node=1) (now:Nat) (ea:Int→Addr) (w:World) (hE:EnvS ea w) (h:StoreAt L S w) (hG:StoGood S) (hn64:F64 now):Calls Tryz.prog 64 #[.pointer (some ⟨L.sb,0,none⟩),msgV m17,flV now] w (ResR (lTell S m17 now) w):=by
 have h1:=ltell_reg L S 17 2 1 1 0 0 3 1 0 now ea w hE h hG hn64 hn.symm rfl;have h2:lTell S m17 now=lRegister S m17 now:=by
  unfold lTell m17;rw[if_neg (by rw[hn];simp),if_pos rfl]
 rw[h2];exact h1
theorem sfitg {S:Sto} (hS:StoGood S) (l:List SFact):StoGood (sfit S l).1:=by
 induction l generalizing S with
 | nil=>exact hS
 | cons f t ih=>
  unfold sfit;split
  · exact ih (sapply_good hS)
  · exact sapply_good hS
theorem alive17b_of (ea:Int→Addr) (w:World) (hE:EnvS ea w):Calls Tryz.prog 61 #[] w (Makes (.bool true) w):=by
 have hX:=Blk.fresh w #[.int .i64 1,.int .i64 1,.int .i64 0,.int .i64 0,.int .i64 0,.int .i64 0,.int .i64 0,.int .i64 1,.int .i64 0,.int .i64 0,.int .i64 0,.int .i64 0,.int .i64 0,.float .f64 4621256167635550208] 39 _ rfl
 have hR:ReadFacts (w.alloc (.cells #[.int .i64 1,.int .i64 1,.int .i64 0,.int .i64 0,.int .i64 0,.int .i64 0,.int .i64 0,.int .i64 1,.int .i64 0,.int .i64 0,.int .i64 0,.int .i64 0,.int .i64 0,.float .f64 4621256167635550208] 39)) (.slice (some ⟨w.heap.size,0,none⟩) 1 1) fs17:=read_fone hX;have hF:∀f∈fs17,F64 f.ex:=by
  intro f hf;simp only[fs17,List.mem_cons,List.not_mem_nil,or_false] at hf;rcases hf with rfl
  unfold F64;decide
 have HB:=qq (built17_yes 1 _ fs17 ea _ (hE.below (by go_grown)) hR hF (by decide) (by decide));have HE:=qq hE;have HG:=qq (splay_good (node:=1) (by decide) fs17);have HA:=qq al17;generalize splay 1 fs17=S at*;obtain⟨S2,hS2⟩:∃S2,S2=(sfit S r17a.fs).1:=⟨_,rfl⟩
 have HG2:Hid (StoGood S2):=qq (by rw[hS2];exact sfitg HG.out _);have HS2:=qq hS2;have h5:F64 4617315517961601024:=by unfold F64;decide
 have H5:=qq h5;clear hX hR hF hE hS2 h5;go_enter Tryz.func61,Tryz.ntmps61;go_wp2_with fail;refine HB.out.mono ?_;rintro e w1 ⟨L,R,rfl,hB⟩;have B1:Below w.heap.size w w1:=below_then (by go_grown) hB.be;have hnl:∀k∈L.foot,w.heap.size+1≤k:=fun k hk=>by have:=hB.nl k hk;simpa using this
 have HT:=qq (fun W (h1:Below w1.heap.size w1 W)=>ltr17_of L S HA.out.2.2.2.2 4617315517961601024 ea W (HE.out.below (below_then B1 h1)) (hB.st.below h1) HG.out H5.out);rw[HA.out.1] at HT;dsimp only[m17,msgV,msgA,flV] at HT;unfold ResR r17a at HT;have HST:=qq hB.st;have hfl:∀k∈L.foot,k<w1.heap.size:=fun k hk=>hB.st.lt k hk
 have HFL:=qq hfl;have HNL:=qq hnl;clear hB hfl hnl;go_wp2_with fail;refine(HT.out _ (by go_grown)).mono ?_;rintro e w2 ⟨a2,c2,b2,d2,rfl,hR2,hb2⟩
 (try dsimp only at hR2)
 have B12:Below w1.heap.size w1 w2:=below_then (by go_grown) hb2;have B2:Below w.heap.size w w2:=below_then B1 B12;have HM:=qq ((Blk.fresh w1 #[.int .i64 17,.int .i64 2,.int .i64 1,.int .i64 1,.int .i64 0,.int .i64 0,.int .i64 3,.int .i64 1,.int .i64 0] 81 _ rfl).below hb2);have hz2:=hb2.size;simp only[World.size_alloc] at hz2
 have hR2':=hR2.below ((Below.refl w2.heap.size w2).alloc (Nat.le_refl _) (.cells #[.slice a2 1 c2,.slice b2 1 d2,.int .i64 0] 87));obtain⟨ga,gc,hv,hr⟩:=hR2.m;obtain⟨g,off,rfl,hgl,hcl⟩:=hr (by simp);injection hv with hv1 hv2 hv3
 subst hv1;clear hv2 hv3;obtain⟨m0,m1,m2,m3,m4,m5,m6,m7,m8⟩:=hcl 0 (by simp)
 (try dsimp only[lBack,m17] at m0 m1 m2 m3 m4 m5 m6 m7 m8)
 (try simp only[Nat.zero_mul,Nat.add_zero,List.getElem_cons_zero] at m0 m1 m2 m3 m4 m5 m6 m7 m8)
 have hgw:w1.heap.size<g:=by have:=hR2.mf g rfl;simp only[World.size_alloc] at this;omega
 have HFI:=qq (fit17_of L S (.slice a2 1 c2) [fEnrol 1 0 0 2 3 1] ea w (w2.alloc (.cells #[.slice a2 1 c2,.slice (some ⟨g,off,none⟩) 1 d2,.int .i64 0] 87)) HE.out (B2.alloc B2.size _) (fun k hk=>by have:=HNL.out k hk;omega) ((HST.out.below B12).below ((Below.refl w2.heap.size w2).alloc (Nat.le_refl _) _)) HG.out hR2'.f (fun k hk hl=>by
   have h1:=hR2.ff k hk;have h2:=HFL.out k hl;simp only[World.size_alloc] at h1;omega) (by intro f hf;rcases List.mem_singleton.1 hf with rfl;unfold F64;decide) (by decide))
 rw[show(sfit S [fEnrol 1 0 0 2 3 1]).2=true from HA.out.2.1] at HFI;have HHT:=qq (show ReadMsgs w2 (.slice (some ⟨g,off,none⟩) 1 d2) [lBack m17 0 1] from hR2.m);have qm:=HM.out.cell;clear hR2 hR2' hcl hr HT hb2;go_wp2_with fail;refine HFI.out.mono ?_;rintro e w3 ⟨rfl,L3,hL3,hS3,hg3⟩;have hg3':=hg3.below (fun k hk=>HNL.out k hk) (by have:=B2.size;simp only[World.size_alloc];have:=B1.size;omega)
 have B3:Below w.heap.size w w3:=(B2.alloc B2.size _).trans (hg3'.mono (by omega));have HM3:=qq (((HM.out.alloc (.cells #[.slice a2 1 c2,.slice (some ⟨g,off,none⟩) 1 d2,.int .i64 0] 87)).same hg3.size (hg3.block _ (HM.out.alloc _).lt (fun h=>by have:=HFL.out _ h;omega))))
 have HV3:=qq ((Blk.fresh w2 #[.slice a2 1 c2,.slice (some ⟨g,off,none⟩) 1 d2,.int .i64 0] 87 _ rfl).same hg3.size (hg3.block _ (Blk.fresh w2 _ 87 _ rfl).lt (fun h=>by have:=HFL.out _ h;omega)));have hgl':g<(w2.alloc (.cells #[.slice a2 1 c2,.slice (some ⟨g,off,none⟩) 1 d2,.int .i64 0] 87)).heap.size:=by simp only[World.size_alloc];omega
 have hge:w3.heap[g]? =w2.heap[g]? :=(hg3.block g hgl' (fun h=>by have:=HFL.out _ h;omega)).trans (((Below.refl w2.heap.size w2).alloc (Nat.le_refl _) _).block g hgl);have hge':∀k,sliceBlock (.slice (some ⟨g,off,none⟩) 1 d2)=some k→w3.heap[k]? =w2.heap[k]? :=fun k hk=>by
  have e:g=k:=by simpa[sliceBlock] using hk
  subst e;exact hge
 have HM4:=qq (HHT.out.heap (by have:=hg3.size;simp only[World.size_alloc] at this;omega) hge');have HT:=qq (ltr17_of L3 S2 (by rw[HS2.out];exact HA.out.2.2.2.1) 4617315517961601024 ea w3 (HE.out.below B3) (by rw[HS2.out];exact hS3) HG2.out H5.out);rw[hL3,show lTell S2 m17 4617315517961601024=r17b by rw[HS2.out];exact HA.out.2.2.1] at HT;dsimp only[m17,msgV,msgA,flV] at HT;unfold ResR r17b at HT
 have qm:=HM3.out.cell;clear hS3 hg3 hg3' hge hge' m0 m1 m2 m3 m4 m5 m6 m7 m8;go_wp2_with fail;refine HT.out.mono ?_;rintro e w4 ⟨a4,c4,b4,d4,rfl,hR4,hb4⟩
 (try dsimp only at hR4)
 have B4:Below w.heap.size w w4:=below_then B3 hb4;obtain⟨ga,gc,hv,hr⟩:=hR4.m;obtain⟨k,kf,rfl,hkl,hcl⟩:=hr (by simp);injection hv with hv1 hv2 hv3
 subst hv1;clear hv2 hv3;obtain⟨n0,n1,n2,n3,n4,n5,n6,n7,n8⟩:=hcl 0 (by simp);dsimp only[lBack,m17] at n0 n1 n2 n3 n4 n5 n6 n7 n8;simp only[Nat.zero_mul,Nat.add_zero] at n0 n1 n2 n3 n4 n5 n6 n7 n8;obtain⟨gb,gd,hv,hr⟩:=HM4.out.below hb4;obtain⟨k2,kf2,hk2,hkl2,hcl2⟩:=hr (by simp);injection hv with hv1 hv2 hv3
 subst hv1;clear hv2 hv3;injection hk2 with hk2
 injection hk2 with hk2a hk2b hk2c
 subst hk2a hk2b;obtain⟨m0,m1,m2,m3,m4,m5,m6,m7,m8⟩:=hcl2 0 (by simp)
 (try dsimp only[lBack,m17] at m0 m1 m2 m3 m4 m5 m6 m7 m8)
 (try simp only[Nat.zero_mul,Nat.add_zero,List.getElem_cons_zero] at m0 m1 m2 m3 m4 m5 m6 m7 m8)
 have q5:=(HV3.out.below hb4).cell;have l5:=(HV3.out.below hb4).lt;clear hR4 hcl hcl2 hr hb4 qm;go_wp2_with fail;go_region;go_wp2_with fail;go_ret;exact⟨rfl,below_then B4 (by go_grown)⟩
theorem gdo_eq (x:MSeat) (k:Int) (w:World):Calls Tryz.prog 145 #[seatV x,.int .i64 k] w (Makes (.tuple #[effV (mDo x k).1,.int .i64 (mDo x k).2]) w):=by
 rw[(eq_any x k).2];exact gdo_of x k w
def RDoEnds (r:SRes) (n:Int) (w:World) (e:Ending) (w':World):Prop:=∃fv mv,e=.returned (.tuple #[.agg #[fv,mv,r.wk],.int .i64 n])∧ReadFacts w' fv r.fs∧ReadMsgs w' mv r.ms∧Below w.heap.size w w'
theorem mwaits_eq {x:MSeat} (h:mRight x=true):mWaits x=rWaits x.d x.s:=by
 unfold mWaits;rw[if_neg (by rw[h];simp)];unfold mRight at h;simp only[Bool.and_eq_true,decide_eq_true_eq] at h;have h1:=h.1;unfold rWait at h1⊢;split at h1
 · simp at h1
 · rename_i h2
   rw[if_neg h2];split at h1
   · simp at h1
   · rename_i h3
     rw[if_neg h3]
open Go.RowKit Go.Shelf
section
variable {P:Program} {ops:Array Oper} {Q:Exit→Act→World→Prop} {md:Region.Mode} {S:World→Prop}
theorem last_row {fuel : Nat} {listed : Array Bool} {a : Act} {w : World} {oi : Oper} (i : Nat) (ty : TypeId) (x y : Operand) (hi : ops[i]? = some oi) (hd : oi.dst = none) (ho : oi.op = .store ty x y) (g : Nat) (cells old : Array Value) (t : TypeId)
    (hg:w.heap[g]? =some (.cells old t (0,0))) (hx:a.eval x=.pointer (some ⟨g,0,none⟩)) (hy:a.eval y=.agg cells) (hinf:(P.info? ty).map (·.size)=some cells.size) (hold:old.size=cells.size) (h1:cells.all (·.oneCell')=true)
    (h:∀w2,Blk w2 g cells→w.grownBy w2 (some g)→Q .normal a w2)
    (hw:Region.wanted oi (yielded ops a.tmps)=true:=by rfl) (hl:lastOp md ops i=true:=by kernel_rfl) (hr:Region.ready md ops listed=[i]:=by kernel_rfl)
    (hr2:Region.ready md ops (listed.setIfInBounds i true)=[]:=by kernel_rfl):wpAnyM P md ops Q S (fuel+1) listed a w:=
 allM hr (by simp) (fun k hk=>by
   obtain rfl:k=i:=by simpa using hk
   refine wpOp_step hi (fun K' hK=> ?_);rw[if_pos hw];refine wp_store_row ty x y ho g cells hx hy t old hg hinf hold h1 ?_;refine hK _ _ ⟨.inl hl,doneM hr2 ?_ _⟩;rw[hd];exact h _ (row_end hg).1 (row_end hg).2)
theorem new_B {fuel : Nat} {listed : Array Bool} {a : Act} {w : World} {oi : Oper} {d : Option Tmp} (i : Nat) (v : Value) (C : Array Value) (T : TypeId) (hi : ops[i]? = some oi) (hd : oi.dst = d) (hrun : (execOp a.eval oi).run P w = .ok (.value v) (w.alloc (.cells C T))) (E : World → Prop) (hS : S (w.alloc (.cells C T))) (hE : E (w.alloc (.cells C T)))
    (h:∀w2,S w2∧Blk w2 w.heap.size C→E w2→wpAnyM P md ops Q (fun w'=>S w'∧Blk w' w.heap.size C) fuel (listed.setIfInBounds i true) (a.put d v) w2)
    (hw:Region.wanted oi (yielded ops a.tmps)=true:=by rfl):wpOp P ops Q i (Nxt P md ops Q S fuel listed i) a w:=
 wpOp_alone i v _ hi hd hw hrun (show Nxt P md ops Q S fuel listed i (a.put d v) (w.alloc (.cells C T)) from⟨fun w'=>S w'∧Blk w' w.heap.size C,fun _ h=>h.1,⟨hS,Blk.fresh _ _ _ _ rfl⟩,fun h1=>h _ h1 hE⟩)
theorem reg_start2 {id : Nat} {a : Act} {w : World} (F E : World → Prop) (hm : P.follows .mixedOrders = true) (hF : F w.drew) (hE : E w.drew)
    (h:∀w1,F w1→E w1→wpAnyM P .any ops Q F ops.size (Array.replicate ops.size false) a w1):(Code.region id ops true).wp P Q a w:=
 wp_region_any hm (wpAny_of_M _ _ _ _ (h _ hF hE))
theorem row_M {fuel : Nat} {listed : Array Bool} {a : Act} {w : World} {oi : Oper} (i : Nat) (ty : TypeId) (x y : Operand) (hi : ops[i]? = some oi) (hd : oi.dst = none) (ho : oi.op = .store ty x y) (g : Nat) (cells old : Array Value) (t : TypeId)
    (hg:w.heap[g]? =some (.cells old t (0,0))) (hx:a.eval x=.pointer (some ⟨g,0,none⟩)) (hy:a.eval y=.agg cells) (hinf:(P.info? ty).map (·.size)=some cells.size) (hold:old.size=cells.size) (h1:cells.all (·.oneCell')=true)
    (h:∀w2,Blk w2 g cells→w.grownBy w2 (some g)→S w2∧(S w2→wpAnyM P md ops Q S fuel (listed.setIfInBounds i true) a w2))
    (hw:Region.wanted oi (yielded ops a.tmps)=true:=by rfl):wpOp P ops Q i (Nxt P md ops Q S fuel listed i) a w:=by
 refine wpOp_step hi (fun K' hK=> ?_);rw[if_pos hw];refine wp_store_row ty x y ho g cells hx hy t old hg hinf hold h1 ?_;obtain⟨h2,h3⟩:=h _ (row_end hg).1 (row_end hg).2;refine hK _ _ ⟨S,fun _ h=>h,h2,fun h4=> ?_⟩;rw[hd];exact h3 h4
theorem set_M {fuel : Nat} {listed : Array Bool} {a : Act} {w : World} {oi : Oper} (i : Nat) (w1 : World) (hi : ops[i]? = some oi) (hd : oi.dst = none) (hrun : (execOp a.eval oi).run P w = .ok .skip w1) (hS : S w1) (h : S w1 → wpAnyM P md ops Q S fuel (listed.setIfInBounds i true) a w1)
    (hw:Region.wanted oi (yielded ops a.tmps)=true:=by rfl):wpOp P ops Q i (Nxt P md ops Q S fuel listed i) a w:=by
 refine wpOp_step hi (fun K' hK=> ?_);rw[if_pos hw];unfold Oper.wp;rw[hrun];refine hK _ _ ⟨S,fun _ h=>h,hS,fun h4=> ?_⟩;rw[hd];exact h h4
end
theorem row_go {P : Program} {ops : Array Oper} {rest : List Oper} {o : Oper} {a : Act} {w : World} {Q : Exit → Act → World → Prop} (ty : TypeId) (x y : Operand) (hgd : o.guard = none) (ho : o.op = .store ty x y) (g : Nat) (cells old : Array Value) (t : TypeId)
    (hg:w.heap[g]? =some (.cells old t (0,0))) (hx:a.eval x=.pointer (some ⟨g,0,none⟩)) (hy:a.eval y=.agg cells) (hi:(P.info? ty).map (·.size)=some cells.size) (hold:old.size=cells.size) (h1:cells.all (·.oneCell')=true)
    (h:∀w2,Blk w2 g cells→w.grownBy w2 (some g)→wpList P ops Q rest (a.put o.dst undef) w2):wpList P ops Q (o::rest) a w:=
 wpList_store_row hgd ty x y ho g cells hx hy t old hg hi hold h1 (h _ (row_end hg).1 (row_end hg).2)
theorem hp_new {w:World} {C:Array Value} {T:TypeId} (n:Nat) (hn:n=w.heap.size):(w.alloc (.cells C T)).heap[n]? =some (.cells C T (0,0)):=by subst hn;exact heap_alloc_new _ _
theorem hp_al {w:World} {b:Nat} {o:Obj} (h:w.heap[b]? =some o) (x:Obj):(w.alloc x).heap[b]? =some o:=(((Below.refl _ _).alloc (Nat.le_refl _) x).block _ (Array.getElem?_eq_some_iff.1 h).1).trans h
theorem hp_dr {w:World} {b:Nat} {o:Obj} (h:w.heap[b]? =some o):w.drew.heap[b]? =some o:=h
theorem Blk.gr {w w':World} {b g:Nat} {C:Array Value} (h:Blk w b C) (hg:w.grownBy w' (some g)) (hne:g≠b):Blk w' b C:=h.same hg.size (hg.block _ h.lt (fun e=>hne (by injection e with e;exact e.symm)))
theorem bel_gr {w w1 w2:World} {g:Nat} (h:Below w.heap.size w w1) (hg:w1.grownBy w2 (some g)) (hn:w.heap.size≤g):Below w.heap.size w w2:=h.grown hg h.size (fun k hk=>by injection hk with hk;omega)
theorem hp_be {w w':World} {b:Nat} {o:Obj} (h:w.heap[b]? =some o) (hb:Below w.heap.size w w'):w'.heap[b]? =some o:=(hb.block _ (Array.getElem?_eq_some_iff.1 h).1).trans h
theorem ract_at {R : RLoc} {S : Sto} {w : World} {i : Nat} {a : SAct} (h : RStoreAt R S w) (hG : StoGood S) (ha : S.acts[i]? = some a) : ∃ (g n cap : Nat) (va : Option Addr) (vc : Nat), i < n ∧ n ≤ 8 ∧ a.regs.length ≤ 6 ∧ (∀ W, Below w.heap.size w W → R.sb < W.heap.size ∧ g < W.heap.size ∧ W.cell? ⟨R.sb, 0, none⟩ = some (.int .i64 S.node) ∧ W.cell? ⟨R.sb, 2, none⟩ = some (.slice (some ⟨g, 0, none⟩) n cap) ∧ ActC W g (i * 8) a (.slice va a.regs.length vc))
    ∧∀(j:Nat) (r:SReg),a.regs[j]? =some r→∃gr,va=some ⟨gr,0,none⟩∧∀W,Below w.heap.size w W→gr<W.heap.size∧RegC W gr (j*6) r:=by
 obtain⟨av,cap,hv,hn,hrow⟩:=act_row h.len h.acts;have hi:=(List.getElem?_eq_some_iff.1 ha).1;obtain⟨g,rfl,hg,hfz,hcell⟩:=hrow (by omega);obtain⟨u,hu⟩:∃u,R.rv[i]? =some u:=⟨_,List.getElem?_eq_getElem (by rw[h.len];exact hi)⟩
 obtain⟨va,vc,rfl,hlen,hr⟩:=reg_row (h.regs i u a hu ha);have h2:w.cell? ⟨R.sb,2,none⟩=some (.slice (some ⟨g,0,none⟩) S.acts.length cap):=by rw[←hv];exact h.blk.cell 2
 have h0:w.cell? ⟨R.sb,0,none⟩=some (.int .i64 S.node):=h.blk.cell 0;have hs:=h.blk.lt;refine⟨g,S.acts.length,cap,va,vc,hi,hG.acts,(hG.act a (List.mem_of_getElem? ha)).len,fun W hW=>⟨Nat.lt_of_lt_of_le hs hW.size,Nat.lt_of_lt_of_le hg hW.size,(hW.cell (p:=⟨R.sb,0,none⟩) hs).trans h0,(hW.cell (p:=⟨R.sb,2,none⟩) hs).trans h2,(hcell i a _ ha hu).below hW hg⟩,?_⟩;intro j r hj
 obtain⟨gr,hgr,hgl,_,hc⟩:=hr (by have:=(List.getElem?_eq_some_iff.1 hj).1;omega);exact⟨gr,hgr,fun W hW=>⟨Nat.lt_of_lt_of_le hgl hW.size,(hc j r hj).below hW hgl⟩⟩
theorem lReg_some {a:SAct} {rg:Int} {r:SReg} (h:lReg a rg=some r):∃j:Nat,rg=(j:Int)∧a.regs[j]? =some r∧j<a.regs.length:=by
 unfold lReg at h;split at h
 · rename_i h0
   obtain⟨j,rfl⟩:∃j:Nat,rg=j:=⟨rg.toNat,by omega⟩
   rw[Int.toNat_natCast] at h;exact⟨j,rfl,h,(List.getElem?_eq_some_iff.1 h).1⟩
 · exact absurd h (by simp)
theorem lReg_none {a:SAct} {rg:Int} (h:lReg a rg=none):rg<0∨0≤rg∧(a.regs.length:Int)≤rg:=by
 unfold lReg at h;split at h
 · rename_i h0
   have:=List.getElem?_eq_none_iff.1 h;exact .inr ⟨h0,by omega⟩
 · exact .inl (by omega)
theorem rworks_neg (R:RLoc) (S:Sto) (pt:Int) (w:World) (h:RStoreAt R S w) (hG:StoGood S) (hp:pt<0):Calls Tryz.prog 173 #[.pointer (some ⟨R.sb,0,none⟩),.int .i64 pt] w (Makes (.bool false) w):=by
 clear h hG;go_enter Tryz.func173,Tryz.ntmps173;go_wp2_with fail;refine bodyPost_ret (v:=.bool false) (by simp[results,Tryz.results173,go_sem]) rfl ?_;exact⟨rfl,(Below.refl w.heap.size w)⟩
theorem rworks_out (R:RLoc) (S:Sto) (pt:Int) (w:World) (h:RStoreAt R S w) (hG:StoGood S) (hp:0≤pt) (hq:(S.parts.length:Int)≤pt):Calls Tryz.prog 173 #[.pointer (some ⟨R.sb,0,none⟩),.int .i64 pt] w (Makes (.bool false) w):=by
 obtain⟨ap,cp,hpv⟩:=row_slice h.parts;have c3:w.cell? ⟨R.sb,3,none⟩=some (.slice ap S.parts.length cp):=by rw[←hpv];exact h.blk.cell 3
 have hsb:=h.blk.lt;generalize S.parts.length=n at*;clear h hG hpv;go_enter Tryz.func173,Tryz.ntmps173;go_wp2_with fail;refine bodyPost_ret (v:=.bool false) (by simp[results,Tryz.results173,go_sem]) rfl ?_;exact⟨rfl,(Below.refl w.heap.size w)⟩
theorem rworks_one (R:RLoc) (S:Sto) (pt:Int) (p:SPart) (w:World) (h:RStoreAt R S w) (hG:StoGood S) (hp:pGet S pt=some p) (h1:p.seat.s=1):Calls Tryz.prog 173 #[.pointer (some ⟨R.sb,0,none⟩),.int .i64 pt] w (Makes (.bool true) w):=by
 obtain⟨i,n,g,cap,rfl,hin,hn8,hnl,c3,hsb,hg,p0,p1,p2,p3,p4,p5,p6⟩:=rpart_at h hG.parts hp;have hi0:(0:Int)≤(i:Int):=by omega
 have hi1:(i:Int)<(n:Int):=by omega
 obtain⟨pn,pq,pg,⟨sp,sd,ss,sh⟩⟩:=p;dsimp only at*;have e1:(ss==1)=true:=by simpa using h1
 clear h hG hp hnl;go_enter Tryz.func173,Tryz.ntmps173;go_wp2_with fail;refine bodyPost_ret (v:=.bool true) (by simp[results,Tryz.results173,go_sem]) rfl ?_;exact⟨rfl,(Below.refl w.heap.size w)⟩
theorem rworks_four (R:RLoc) (S:Sto) (pt:Int) (p:SPart) (w:World) (h:RStoreAt R S w) (hG:StoGood S) (hp:pGet S pt=some p) (h1:¬p.seat.s=1) (h4:p.seat.s=4):Calls Tryz.prog 173 #[.pointer (some ⟨R.sb,0,none⟩),.int .i64 pt] w (Makes (.bool true) w):=by
 obtain⟨i,n,g,cap,rfl,hin,hn8,hnl,c3,hsb,hg,p0,p1,p2,p3,p4,p5,p6⟩:=rpart_at h hG.parts hp;have hi0:(0:Int)≤(i:Int):=by omega
 have hi1:(i:Int)<(n:Int):=by omega
 obtain⟨pn,pq,pg,⟨sp,sd,ss,sh⟩⟩:=p;dsimp only at*;have e1:(ss==1)=false:=by simpa using h1
 have e4:(ss==4)=true:=by simpa using h4
 clear h hG hp hnl;go_enter Tryz.func173,Tryz.ntmps173;go_wp2_with fail;refine bodyPost_ret (v:=.bool true) (by simp[results,Tryz.results173,go_sem]) rfl ?_;exact⟨rfl,(Below.refl w.heap.size w)⟩
theorem rworks_not (R:RLoc) (S:Sto) (pt:Int) (p:SPart) (w:World) (h:RStoreAt R S w) (hG:StoGood S) (hp:pGet S pt=some p) (h1:¬p.seat.s=1) (h4:¬p.seat.s=4):Calls Tryz.prog 173 #[.pointer (some ⟨R.sb,0,none⟩),.int .i64 pt] w (Makes (.bool false) w):=by
 obtain⟨i,n,g,cap,rfl,hin,hn8,hnl,c3,hsb,hg,p0,p1,p2,p3,p4,p5,p6⟩:=rpart_at h hG.parts hp;have hi0:(0:Int)≤(i:Int):=by omega
 have hi1:(i:Int)<(n:Int):=by omega
 obtain⟨pn,pq,pg,⟨sp,sd,ss,sh⟩⟩:=p;dsimp only at*;have e1:(ss==1)=false:=by simpa using h1
 have e4:(ss==4)=false:=by simpa using h4
 clear h hG hp hnl;go_enter Tryz.func173,Tryz.ntmps173;go_wp2_with fail;refine bodyPost_ret (v:=.bool false) (by simp[results,Tryz.results173,go_sem]) rfl ?_;exact⟨rfl,(Below.refl w.heap.size w)⟩
def rWorks (S:Sto) (pt:Int):Bool:=match pGet S pt with | none=>false | some p=>lWorks p.seat
theorem rworks17_of (R:RLoc) (S:Sto) (pt:Int) (w:World) (h:RStoreAt R S w) (hG:StoGood S):Calls Tryz.prog 173 #[.pointer (some ⟨R.sb,0,none⟩),.int .i64 pt] w (Makes (.bool (rWorks S pt)) w):=by
 unfold rWorks
 cases hp:pGet S pt with
 | none=>
  by_cases h0:pt<0
  · exact rworks_neg R S pt w h hG h0
  · refine rworks_out R S pt w h hG (by omega) ?_;have:=pGet_dec (S:=S) (pt:=pt);rw[hp] at this;simp at this;omega
 | some p=>
  dsimp only[lWorks];by_cases h1:p.seat.s=1
  · rw[decide_eq_true (.inl h1)];exact rworks_one R S pt p w h hG hp h1
  by_cases h4:p.seat.s=4
  · rw[decide_eq_true (.inr h4)];exact rworks_four R S pt p w h hG hp h1 h4
  · rw[decide_eq_false (by simp[h1,h4])];exact rworks_not R S pt p w h hG hp h1 h4
theorem rtakes_idle (R:RLoc) (S:Sto) (i:Nat) (a:SAct) (now:Nat) (w:World) (h:RStoreAt R S w) (hG:StoGood S) (hx:F64 a.ex) (hn:F64 now) (ha:S.acts[i]? =some a) (hz:¬a.pa=0) (hw:rWorks S (a.pa - 1)=false):Calls Tryz.prog 72 #[.pointer (some ⟨R.sb,0,none⟩),.int .i64 i,flV now] w (Makes (.bool false) w):=by
 obtain⟨g,n,cap,va,vc,hin,hn8,hv6,hQ,hRR⟩:=ract_at h hG ha;obtain⟨nd,hnd⟩:∃nd,nd=S.node:=⟨_,rfl⟩
 have hi0:(0:Int)≤(i:Int):=by omega
 have hi1:(i:Int)<(n:Int):=by omega
 rw[←hnd] at hQ;have HWk:=qq (fun W (hW:Below w.heap.size w W)=>rworks17_of R S (a.pa - 1) W (h.below hW) hG);have HOp:=qq (fun W=>ropen09_of a.an a.aq a.oc a.dp a.ex now hx hn W);have hpa8:0≤a.pa∧a.pa≤8:=⟨(hG.act a (List.mem_of_getElem? ha)).pa.1,by have:=(hG.act a (List.mem_of_getElem? ha)).pa.2;have:=hG.parts;omega⟩
 have hz':(a.pa==0)=false:=by simpa using hz
 rw[hw] at HWk;clear hz hw;obtain⟨an,aq,oc,dp,ex,pa,de,rs⟩:=a;unfold ActC at hQ;dsimp only at*;obtain⟨vn,hvn⟩:∃n,n=rs.length:=⟨_,rfl⟩
 rw[←hvn] at hQ hv6;have HQ:=qq hQ;clear h hG hx hn ha hnd hvn hQ hRR;go_enter Tryz.func72,Tryz.ntmps72;obtain⟨xl,gl,xn,xa,a0,a1,a2,a3,a4,a5,a6,a7⟩:=HQ.out _ (Below.refl _ _);go_wp2_with fail;clear xl gl xn xa a0 a1 a2 a3 a4 a5 a6 a7;refine(HWk.out _ (bel_alloc (Below.refl w.heap.size w) _)).mono ?_;rintro e w1 ⟨rfl,hb1⟩;have K1:=qq ((Blk.fresh _ _ _ (w.heap.size) (by simp)).below hb1)
 have HB:=qq (below_then (bel_alloc (Below.refl w.heap.size w) _) hb1);have z1:=HB.out.size;clear hb1;obtain⟨xl,gl,xn,xa,a0,a1,a2,a3,a4,a5,a6,a7⟩:=HQ.out _ HB.out;obtain⟨lK1,qK1,fK1⟩:=K1.out;go_wp2_with fail;refine bodyPost_ret (v:=.bool false) (by simp[results,Tryz.results72,go_sem]) rfl ?_;clear qK1 fK1 lK1 xl gl xn xa a0 a1 a2 a3 a4 a5 a6 a7;exact⟨rfl,HB.out⟩
theorem rtakes_zshut (R:RLoc) (S:Sto) (i:Nat) (a:SAct) (now:Nat) (w:World) (h:RStoreAt R S w) (hG:StoGood S) (hx:F64 a.ex) (hn:F64 now) (ha:S.acts[i]? =some a) (hz:a.pa=0) (ho:ctxOpen a.an a.aq a.oc a.dp a.ex now=false):Calls Tryz.prog 72 #[.pointer (some ⟨R.sb,0,none⟩),.int .i64 i,flV now] w (Makes (.bool false) w):=by
 obtain⟨g,n,cap,va,vc,hin,hn8,hv6,hQ,hRR⟩:=ract_at h hG ha;obtain⟨nd,hnd⟩:∃nd,nd=S.node:=⟨_,rfl⟩
 have hi0:(0:Int)≤(i:Int):=by omega
 have hi1:(i:Int)<(n:Int):=by omega
 rw[←hnd] at hQ;have HWk:=qq (fun W (hW:Below w.heap.size w W)=>rworks17_of R S (a.pa - 1) W (h.below hW) hG);have HOp:=qq (fun W=>ropen09_of a.an a.aq a.oc a.dp a.ex now hx hn W);have hpa8:0≤a.pa∧a.pa≤8:=⟨(hG.act a (List.mem_of_getElem? ha)).pa.1,by have:=(hG.act a (List.mem_of_getElem? ha)).pa.2;have:=hG.parts;omega⟩
 have hz':(a.pa==0)=true:=by simpa using hz
 clear hz;rw[ho] at HOp;clear ho;obtain⟨an,aq,oc,dp,ex,pa,de,rs⟩:=a;unfold ActC at hQ;dsimp only at*;obtain⟨vn,hvn⟩:∃n,n=rs.length:=⟨_,rfl⟩
 rw[←hvn] at hQ hv6;have HQ:=qq hQ;clear h hG hx hn ha hnd hvn hQ hRR;go_enter Tryz.func72,Tryz.ntmps72;obtain⟨xl,gl,xn,xa,a0,a1,a2,a3,a4,a5,a6,a7⟩:=HQ.out _ (Below.refl _ _);go_wp2_with fail;clear xl gl xn xa a0 a1 a2 a3 a4 a5 a6 a7;refine(HOp.out _).mono ?_;rintro e w1 ⟨rfl,hb1⟩;have K1:=qq ((Blk.fresh _ _ _ (w.heap.size) (by simp)).below hb1)
 have HB:=qq (below_then (bel_alloc (Below.refl w.heap.size w) _) hb1);have z1:=HB.out.size;clear hb1;obtain⟨xl,gl,xn,xa,a0,a1,a2,a3,a4,a5,a6,a7⟩:=HQ.out _ HB.out;obtain⟨lK1,qK1,fK1⟩:=K1.out;go_wp2_with fail;refine bodyPost_ret (v:=.bool false) (by simp[results,Tryz.results72,go_sem]) rfl ?_;clear qK1 fK1 lK1 xl gl xn xa a0 a1 a2 a3 a4 a5 a6 a7;exact⟨rfl,HB.out⟩
theorem rtakes_zdec (R:RLoc) (S:Sto) (i:Nat) (a:SAct) (now:Nat) (w:World) (h:RStoreAt R S w) (hG:StoGood S) (hx:F64 a.ex) (hn:F64 now) (ha:S.acts[i]? =some a) (hz:a.pa=0) (ho:ctxOpen a.an a.aq a.oc a.dp a.ex now=true) (hd:¬a.de=0):Calls Tryz.prog 72 #[.pointer (some ⟨R.sb,0,none⟩),.int .i64 i,flV now] w (Makes (.bool false) w):=by
 obtain⟨g,n,cap,va,vc,hin,hn8,hv6,hQ,hRR⟩:=ract_at h hG ha;obtain⟨nd,hnd⟩:∃nd,nd=S.node:=⟨_,rfl⟩
 have hi0:(0:Int)≤(i:Int):=by omega
 have hi1:(i:Int)<(n:Int):=by omega
 rw[←hnd] at hQ;have HWk:=qq (fun W (hW:Below w.heap.size w W)=>rworks17_of R S (a.pa - 1) W (h.below hW) hG);have HOp:=qq (fun W=>ropen09_of a.an a.aq a.oc a.dp a.ex now hx hn W);have hpa8:0≤a.pa∧a.pa≤8:=⟨(hG.act a (List.mem_of_getElem? ha)).pa.1,by have:=(hG.act a (List.mem_of_getElem? ha)).pa.2;have:=hG.parts;omega⟩
 have hz':(a.pa==0)=true:=by simpa using hz
 clear hz;rw[ho] at HOp;clear ho;have hd':(a.de==0)=false:=by simpa using hd
 clear hd;obtain⟨an,aq,oc,dp,ex,pa,de,rs⟩:=a;unfold ActC at hQ;dsimp only at*;obtain⟨vn,hvn⟩:∃n,n=rs.length:=⟨_,rfl⟩
 rw[←hvn] at hQ hv6;have HQ:=qq hQ;clear h hG hx hn ha hnd hvn hQ hRR;go_enter Tryz.func72,Tryz.ntmps72;obtain⟨xl,gl,xn,xa,a0,a1,a2,a3,a4,a5,a6,a7⟩:=HQ.out _ (Below.refl _ _);go_wp2_with fail;clear xl gl xn xa a0 a1 a2 a3 a4 a5 a6 a7;refine(HOp.out _).mono ?_;rintro e w1 ⟨rfl,hb1⟩;have K1:=qq ((Blk.fresh _ _ _ (w.heap.size) (by simp)).below hb1)
 have HB:=qq (below_then (bel_alloc (Below.refl w.heap.size w) _) hb1);have z1:=HB.out.size;clear hb1;obtain⟨xl,gl,xn,xa,a0,a1,a2,a3,a4,a5,a6,a7⟩:=HQ.out _ HB.out;obtain⟨lK1,qK1,fK1⟩:=K1.out;go_wp2_with fail;refine bodyPost_ret (v:=.bool false) (by simp[results,Tryz.results72,go_sem]) rfl ?_;clear qK1 fK1 lK1 xl gl xn xa a0 a1 a2 a3 a4 a5 a6 a7;exact⟨rfl,HB.out⟩
theorem rtakes_zfull (R:RLoc) (S:Sto) (i:Nat) (a:SAct) (now:Nat) (w:World) (h:RStoreAt R S w) (hG:StoGood S) (hx:F64 a.ex) (hn:F64 now) (ha:S.acts[i]? =some a) (hz:a.pa=0) (ho:ctxOpen a.an a.aq a.oc a.dp a.ex now=true) (hd:a.de=0) (hl:¬a.regs.length<6):Calls Tryz.prog 72 #[.pointer (some ⟨R.sb,0,none⟩),.int .i64 i,flV now] w (Makes (.bool false) w):=by
 obtain⟨g,n,cap,va,vc,hin,hn8,hv6,hQ,hRR⟩:=ract_at h hG ha;obtain⟨nd,hnd⟩:∃nd,nd=S.node:=⟨_,rfl⟩
 have hi0:(0:Int)≤(i:Int):=by omega
 have hi1:(i:Int)<(n:Int):=by omega
 rw[←hnd] at hQ;have HWk:=qq (fun W (hW:Below w.heap.size w W)=>rworks17_of R S (a.pa - 1) W (h.below hW) hG);have HOp:=qq (fun W=>ropen09_of a.an a.aq a.oc a.dp a.ex now hx hn W);have hpa8:0≤a.pa∧a.pa≤8:=⟨(hG.act a (List.mem_of_getElem? ha)).pa.1,by have:=(hG.act a (List.mem_of_getElem? ha)).pa.2;have:=hG.parts;omega⟩
 have hz':(a.pa==0)=true:=by simpa using hz
 clear hz;rw[ho] at HOp;clear ho;have hd':(a.de==0)=true:=by simpa using hd
 clear hd;obtain⟨an,aq,oc,dp,ex,pa,de,rs⟩:=a;unfold ActC at hQ;dsimp only at*;obtain⟨vn,hvn⟩:∃n,n=rs.length:=⟨_,rfl⟩
 rw[←hvn] at hQ hv6 hl;have hl':decide ((vn:Int)<6)=false:=decide_eq_false (by omega);have HQ:=qq hQ;clear h hG hx hn ha hnd hvn hQ hRR;go_enter Tryz.func72,Tryz.ntmps72;obtain⟨xl,gl,xn,xa,a0,a1,a2,a3,a4,a5,a6,a7⟩:=HQ.out _ (Below.refl _ _);go_wp2_with fail;clear xl gl xn xa a0 a1 a2 a3 a4 a5 a6 a7;refine(HOp.out _).mono ?_;rintro e w1 ⟨rfl,hb1⟩
 have K1:=qq ((Blk.fresh _ _ _ (w.heap.size) (by simp)).below hb1);have HB:=qq (below_then (bel_alloc (Below.refl w.heap.size w) _) hb1);have z1:=HB.out.size;clear hb1;obtain⟨xl,gl,xn,xa,a0,a1,a2,a3,a4,a5,a6,a7⟩:=HQ.out _ HB.out;obtain⟨lK1,qK1,fK1⟩:=K1.out;go_wp2_with fail;refine bodyPost_ret (v:=.bool false) (by simp[results,Tryz.results72,go_sem]) rfl ?_
 clear qK1 fK1 lK1 xl gl xn xa a0 a1 a2 a3 a4 a5 a6 a7;exact⟨rfl,HB.out⟩
theorem rtakes_zyes (R:RLoc) (S:Sto) (i:Nat) (a:SAct) (now:Nat) (w:World) (h:RStoreAt R S w) (hG:StoGood S) (hx:F64 a.ex) (hn:F64 now) (ha:S.acts[i]? =some a) (hz:a.pa=0) (ho:ctxOpen a.an a.aq a.oc a.dp a.ex now=true) (hd:a.de=0) (hl:a.regs.length<6):Calls Tryz.prog 72 #[.pointer (some ⟨R.sb,0,none⟩),.int .i64 i,flV now] w (Makes (.bool true) w):=by
 obtain⟨g,n,cap,va,vc,hin,hn8,hv6,hQ,hRR⟩:=ract_at h hG ha;obtain⟨nd,hnd⟩:∃nd,nd=S.node:=⟨_,rfl⟩
 have hi0:(0:Int)≤(i:Int):=by omega
 have hi1:(i:Int)<(n:Int):=by omega
 rw[←hnd] at hQ;have HWk:=qq (fun W (hW:Below w.heap.size w W)=>rworks17_of R S (a.pa - 1) W (h.below hW) hG);have HOp:=qq (fun W=>ropen09_of a.an a.aq a.oc a.dp a.ex now hx hn W);have hpa8:0≤a.pa∧a.pa≤8:=⟨(hG.act a (List.mem_of_getElem? ha)).pa.1,by have:=(hG.act a (List.mem_of_getElem? ha)).pa.2;have:=hG.parts;omega⟩
 have hz':(a.pa==0)=true:=by simpa using hz
 clear hz;rw[ho] at HOp;clear ho;have hd':(a.de==0)=true:=by simpa using hd
 clear hd;obtain⟨an,aq,oc,dp,ex,pa,de,rs⟩:=a;unfold ActC at hQ;dsimp only at*;obtain⟨vn,hvn⟩:∃n,n=rs.length:=⟨_,rfl⟩
 rw[←hvn] at hQ hv6 hl;have hl':decide ((vn:Int)<6)=true:=decide_eq_true (by omega);have HQ:=qq hQ;clear h hG hx hn ha hnd hvn hQ hRR;go_enter Tryz.func72,Tryz.ntmps72;obtain⟨xl,gl,xn,xa,a0,a1,a2,a3,a4,a5,a6,a7⟩:=HQ.out _ (Below.refl _ _);go_wp2_with fail;clear xl gl xn xa a0 a1 a2 a3 a4 a5 a6 a7;refine(HOp.out _).mono ?_;rintro e w1 ⟨rfl,hb1⟩
 have K1:=qq ((Blk.fresh _ _ _ (w.heap.size) (by simp)).below hb1);have HB:=qq (below_then (bel_alloc (Below.refl w.heap.size w) _) hb1);have z1:=HB.out.size;clear hb1;obtain⟨xl,gl,xn,xa,a0,a1,a2,a3,a4,a5,a6,a7⟩:=HQ.out _ HB.out;obtain⟨lK1,qK1,fK1⟩:=K1.out;go_wp2_with fail;refine bodyPost_ret (v:=.bool true) (by simp[results,Tryz.results72,go_sem]) rfl ?_
 clear qK1 fK1 lK1 xl gl xn xa a0 a1 a2 a3 a4 a5 a6 a7;exact⟨rfl,HB.out⟩
theorem rtakes_wshut (R:RLoc) (S:Sto) (i:Nat) (a:SAct) (now:Nat) (w:World) (h:RStoreAt R S w) (hG:StoGood S) (hx:F64 a.ex) (hn:F64 now) (ha:S.acts[i]? =some a) (hz:¬a.pa=0) (hw:rWorks S (a.pa - 1)=true) (ho:ctxOpen a.an a.aq a.oc a.dp a.ex now=false):Calls Tryz.prog 72 #[.pointer (some ⟨R.sb,0,none⟩),.int .i64 i,flV now] w (Makes (.bool false) w):=by
 obtain⟨g,n,cap,va,vc,hin,hn8,hv6,hQ,hRR⟩:=ract_at h hG ha;obtain⟨nd,hnd⟩:∃nd,nd=S.node:=⟨_,rfl⟩
 have hi0:(0:Int)≤(i:Int):=by omega
 have hi1:(i:Int)<(n:Int):=by omega
 rw[←hnd] at hQ;have HWk:=qq (fun W (hW:Below w.heap.size w W)=>rworks17_of R S (a.pa - 1) W (h.below hW) hG);have HOp:=qq (fun W=>ropen09_of a.an a.aq a.oc a.dp a.ex now hx hn W);have hpa8:0≤a.pa∧a.pa≤8:=⟨(hG.act a (List.mem_of_getElem? ha)).pa.1,by have:=(hG.act a (List.mem_of_getElem? ha)).pa.2;have:=hG.parts;omega⟩
 have hz':(a.pa==0)=false:=by simpa using hz
 rw[hw] at HWk;clear hz hw;rw[ho] at HOp;clear ho;obtain⟨an,aq,oc,dp,ex,pa,de,rs⟩:=a;unfold ActC at hQ;dsimp only at*;obtain⟨vn,hvn⟩:∃n,n=rs.length:=⟨_,rfl⟩
 rw[←hvn] at hQ hv6;have HQ:=qq hQ;clear h hG hx hn ha hnd hvn hQ hRR;go_enter Tryz.func72,Tryz.ntmps72;obtain⟨xl,gl,xn,xa,a0,a1,a2,a3,a4,a5,a6,a7⟩:=HQ.out _ (Below.refl _ _);go_wp2_with fail;clear xl gl xn xa a0 a1 a2 a3 a4 a5 a6 a7;refine(HWk.out _ (bel_alloc (Below.refl w.heap.size w) _)).mono ?_;rintro e w1 ⟨rfl,hb1⟩;have K1:=qq ((Blk.fresh _ _ _ (w.heap.size) (by simp)).below hb1)
 have HB:=qq (below_then (bel_alloc (Below.refl w.heap.size w) _) hb1);have z1:=HB.out.size;clear hb1;obtain⟨xl,gl,xn,xa,a0,a1,a2,a3,a4,a5,a6,a7⟩:=HQ.out _ HB.out;obtain⟨lK1,qK1,fK1⟩:=K1.out;go_wp2_with fail;clear qK1 fK1 lK1 xl gl xn xa a0 a1 a2 a3 a4 a5 a6 a7;refine(HOp.out _).mono ?_;rintro e w2 ⟨rfl,hb2⟩;have K1:=qq (K1.out.below hb2);have HB:=qq (below_then HB.out hb2);have z2:=HB.out.size
 clear hb2;obtain⟨xl,gl,xn,xa,a0,a1,a2,a3,a4,a5,a6,a7⟩:=HQ.out _ HB.out;obtain⟨lK1,qK1,fK1⟩:=K1.out;go_wp2_with fail;refine bodyPost_ret (v:=.bool false) (by simp[results,Tryz.results72,go_sem]) rfl ?_;clear qK1 fK1 lK1 xl gl xn xa a0 a1 a2 a3 a4 a5 a6 a7;exact⟨rfl,HB.out⟩
theorem rtakes_wdec (R:RLoc) (S:Sto) (i:Nat) (a:SAct) (now:Nat) (w:World) (h:RStoreAt R S w) (hG:StoGood S) (hx:F64 a.ex) (hn:F64 now) (ha:S.acts[i]? =some a) (hz:¬a.pa=0) (hw:rWorks S (a.pa - 1)=true) (ho:ctxOpen a.an a.aq a.oc a.dp a.ex now=true) (hd:¬a.de=0):Calls Tryz.prog 72 #[.pointer (some ⟨R.sb,0,none⟩),.int .i64 i,flV now] w (Makes (.bool false) w):=by
 obtain⟨g,n,cap,va,vc,hin,hn8,hv6,hQ,hRR⟩:=ract_at h hG ha;obtain⟨nd,hnd⟩:∃nd,nd=S.node:=⟨_,rfl⟩
 have hi0:(0:Int)≤(i:Int):=by omega
 have hi1:(i:Int)<(n:Int):=by omega
 rw[←hnd] at hQ;have HWk:=qq (fun W (hW:Below w.heap.size w W)=>rworks17_of R S (a.pa - 1) W (h.below hW) hG);have HOp:=qq (fun W=>ropen09_of a.an a.aq a.oc a.dp a.ex now hx hn W);have hpa8:0≤a.pa∧a.pa≤8:=⟨(hG.act a (List.mem_of_getElem? ha)).pa.1,by have:=(hG.act a (List.mem_of_getElem? ha)).pa.2;have:=hG.parts;omega⟩
 have hz':(a.pa==0)=false:=by simpa using hz
 rw[hw] at HWk;clear hz hw;rw[ho] at HOp;clear ho;have hd':(a.de==0)=false:=by simpa using hd
 clear hd;obtain⟨an,aq,oc,dp,ex,pa,de,rs⟩:=a;unfold ActC at hQ;dsimp only at*;obtain⟨vn,hvn⟩:∃n,n=rs.length:=⟨_,rfl⟩
 rw[←hvn] at hQ hv6;have HQ:=qq hQ;clear h hG hx hn ha hnd hvn hQ hRR;go_enter Tryz.func72,Tryz.ntmps72;obtain⟨xl,gl,xn,xa,a0,a1,a2,a3,a4,a5,a6,a7⟩:=HQ.out _ (Below.refl _ _);go_wp2_with fail;clear xl gl xn xa a0 a1 a2 a3 a4 a5 a6 a7;refine(HWk.out _ (bel_alloc (Below.refl w.heap.size w) _)).mono ?_;rintro e w1 ⟨rfl,hb1⟩;have K1:=qq ((Blk.fresh _ _ _ (w.heap.size) (by simp)).below hb1)
 have HB:=qq (below_then (bel_alloc (Below.refl w.heap.size w) _) hb1);have z1:=HB.out.size;clear hb1;obtain⟨xl,gl,xn,xa,a0,a1,a2,a3,a4,a5,a6,a7⟩:=HQ.out _ HB.out;obtain⟨lK1,qK1,fK1⟩:=K1.out;go_wp2_with fail;clear qK1 fK1 lK1 xl gl xn xa a0 a1 a2 a3 a4 a5 a6 a7;refine(HOp.out _).mono ?_;rintro e w2 ⟨rfl,hb2⟩;have K1:=qq (K1.out.below hb2);have HB:=qq (below_then HB.out hb2);have z2:=HB.out.size
 clear hb2;obtain⟨xl,gl,xn,xa,a0,a1,a2,a3,a4,a5,a6,a7⟩:=HQ.out _ HB.out;obtain⟨lK1,qK1,fK1⟩:=K1.out;go_wp2_with fail;refine bodyPost_ret (v:=.bool false) (by simp[results,Tryz.results72,go_sem]) rfl ?_;clear qK1 fK1 lK1 xl gl xn xa a0 a1 a2 a3 a4 a5 a6 a7;exact⟨rfl,HB.out⟩
theorem rtakes_wfull (R:RLoc) (S:Sto) (i:Nat) (a:SAct) (now:Nat) (w:World) (h:RStoreAt R S w) (hG:StoGood S) (hx:F64 a.ex) (hn:F64 now) (ha:S.acts[i]? =some a) (hz:¬a.pa=0) (hw:rWorks S (a.pa - 1)=true) (ho:ctxOpen a.an a.aq a.oc a.dp a.ex now=true) (hd:a.de=0) (hl:¬a.regs.length<6):Calls Tryz.prog 72 #[.pointer (some ⟨R.sb,0,none⟩),.int .i64 i,flV now] w (Makes (.bool false) w):=by
 obtain⟨g,n,cap,va,vc,hin,hn8,hv6,hQ,hRR⟩:=ract_at h hG ha;obtain⟨nd,hnd⟩:∃nd,nd=S.node:=⟨_,rfl⟩
 have hi0:(0:Int)≤(i:Int):=by omega
 have hi1:(i:Int)<(n:Int):=by omega
 rw[←hnd] at hQ;have HWk:=qq (fun W (hW:Below w.heap.size w W)=>rworks17_of R S (a.pa - 1) W (h.below hW) hG);have HOp:=qq (fun W=>ropen09_of a.an a.aq a.oc a.dp a.ex now hx hn W);have hpa8:0≤a.pa∧a.pa≤8:=⟨(hG.act a (List.mem_of_getElem? ha)).pa.1,by have:=(hG.act a (List.mem_of_getElem? ha)).pa.2;have:=hG.parts;omega⟩
 have hz':(a.pa==0)=false:=by simpa using hz
 rw[hw] at HWk;clear hz hw;rw[ho] at HOp;clear ho;have hd':(a.de==0)=true:=by simpa using hd
 clear hd;obtain⟨an,aq,oc,dp,ex,pa,de,rs⟩:=a;unfold ActC at hQ;dsimp only at*;obtain⟨vn,hvn⟩:∃n,n=rs.length:=⟨_,rfl⟩
 rw[←hvn] at hQ hv6 hl;have hl':decide ((vn:Int)<6)=false:=decide_eq_false (by omega);have HQ:=qq hQ;clear h hG hx hn ha hnd hvn hQ hRR;go_enter Tryz.func72,Tryz.ntmps72;obtain⟨xl,gl,xn,xa,a0,a1,a2,a3,a4,a5,a6,a7⟩:=HQ.out _ (Below.refl _ _);go_wp2_with fail;clear xl gl xn xa a0 a1 a2 a3 a4 a5 a6 a7;refine(HWk.out _ (bel_alloc (Below.refl w.heap.size w) _)).mono ?_;rintro e w1 ⟨rfl,hb1⟩
 have K1:=qq ((Blk.fresh _ _ _ (w.heap.size) (by simp)).below hb1);have HB:=qq (below_then (bel_alloc (Below.refl w.heap.size w) _) hb1);have z1:=HB.out.size;clear hb1;obtain⟨xl,gl,xn,xa,a0,a1,a2,a3,a4,a5,a6,a7⟩:=HQ.out _ HB.out;obtain⟨lK1,qK1,fK1⟩:=K1.out;go_wp2_with fail;clear qK1 fK1 lK1 xl gl xn xa a0 a1 a2 a3 a4 a5 a6 a7;refine(HOp.out _).mono ?_;rintro e w2 ⟨rfl,hb2⟩
 have K1:=qq (K1.out.below hb2);have HB:=qq (below_then HB.out hb2);have z2:=HB.out.size;clear hb2;obtain⟨xl,gl,xn,xa,a0,a1,a2,a3,a4,a5,a6,a7⟩:=HQ.out _ HB.out;obtain⟨lK1,qK1,fK1⟩:=K1.out;go_wp2_with fail;refine bodyPost_ret (v:=.bool false) (by simp[results,Tryz.results72,go_sem]) rfl ?_;clear qK1 fK1 lK1 xl gl xn xa a0 a1 a2 a3 a4 a5 a6 a7;exact⟨rfl,HB.out⟩
theorem rtakes_wyes (R:RLoc) (S:Sto) (i:Nat) (a:SAct) (now:Nat) (w:World) (h:RStoreAt R S w) (hG:StoGood S) (hx:F64 a.ex) (hn:F64 now) (ha:S.acts[i]? =some a) (hz:¬a.pa=0) (hw:rWorks S (a.pa - 1)=true) (ho:ctxOpen a.an a.aq a.oc a.dp a.ex now=true) (hd:a.de=0) (hl:a.regs.length<6):Calls Tryz.prog 72 #[.pointer (some ⟨R.sb,0,none⟩),.int .i64 i,flV now] w (Makes (.bool true) w):=by
 obtain⟨g,n,cap,va,vc,hin,hn8,hv6,hQ,hRR⟩:=ract_at h hG ha;obtain⟨nd,hnd⟩:∃nd,nd=S.node:=⟨_,rfl⟩
 have hi0:(0:Int)≤(i:Int):=by omega
 have hi1:(i:Int)<(n:Int):=by omega
 rw[←hnd] at hQ;have HWk:=qq (fun W (hW:Below w.heap.size w W)=>rworks17_of R S (a.pa - 1) W (h.below hW) hG);have HOp:=qq (fun W=>ropen09_of a.an a.aq a.oc a.dp a.ex now hx hn W);have hpa8:0≤a.pa∧a.pa≤8:=⟨(hG.act a (List.mem_of_getElem? ha)).pa.1,by have:=(hG.act a (List.mem_of_getElem? ha)).pa.2;have:=hG.parts;omega⟩
 have hz':(a.pa==0)=false:=by simpa using hz
 rw[hw] at HWk;clear hz hw;rw[ho] at HOp;clear ho;have hd':(a.de==0)=true:=by simpa using hd
 clear hd;obtain⟨an,aq,oc,dp,ex,pa,de,rs⟩:=a;unfold ActC at hQ;dsimp only at*;obtain⟨vn,hvn⟩:∃n,n=rs.length:=⟨_,rfl⟩
 rw[←hvn] at hQ hv6 hl;have hl':decide ((vn:Int)<6)=true:=decide_eq_true (by omega);have HQ:=qq hQ;clear h hG hx hn ha hnd hvn hQ hRR;go_enter Tryz.func72,Tryz.ntmps72;obtain⟨xl,gl,xn,xa,a0,a1,a2,a3,a4,a5,a6,a7⟩:=HQ.out _ (Below.refl _ _);go_wp2_with fail;clear xl gl xn xa a0 a1 a2 a3 a4 a5 a6 a7;refine(HWk.out _ (bel_alloc (Below.refl w.heap.size w) _)).mono ?_;rintro e w1 ⟨rfl,hb1⟩
 have K1:=qq ((Blk.fresh _ _ _ (w.heap.size) (by simp)).below hb1);have HB:=qq (below_then (bel_alloc (Below.refl w.heap.size w) _) hb1);have z1:=HB.out.size;clear hb1;obtain⟨xl,gl,xn,xa,a0,a1,a2,a3,a4,a5,a6,a7⟩:=HQ.out _ HB.out;obtain⟨lK1,qK1,fK1⟩:=K1.out;go_wp2_with fail;clear qK1 fK1 lK1 xl gl xn xa a0 a1 a2 a3 a4 a5 a6 a7;refine(HOp.out _).mono ?_;rintro e w2 ⟨rfl,hb2⟩
 have K1:=qq (K1.out.below hb2);have HB:=qq (below_then HB.out hb2);have z2:=HB.out.size;clear hb2;obtain⟨xl,gl,xn,xa,a0,a1,a2,a3,a4,a5,a6,a7⟩:=HQ.out _ HB.out;obtain⟨lK1,qK1,fK1⟩:=K1.out;go_wp2_with fail;refine bodyPost_ret (v:=.bool true) (by simp[results,Tryz.results72,go_sem]) rfl ?_;clear qK1 fK1 lK1 xl gl xn xa a0 a1 a2 a3 a4 a5 a6 a7;exact⟨rfl,HB.out⟩
theorem rtakes17_of (R:RLoc) (S:Sto) (i:Nat) (a:SAct) (now:Nat) (w:World) (h:RStoreAt R S w) (hG:StoGood S) (hx:F64 a.ex) (hn:F64 now) (ha:S.acts[i]? =some a):Calls Tryz.prog 72 #[.pointer (some ⟨R.sb,0,none⟩),.int .i64 i,flV now] w (Makes (.bool (lTakes S a now)) w):=by
 have hp0:=(hG.act a (List.mem_of_getElem? ha)).pa.1;have he:lTakes S a now=((decide (a.pa≤0) || rWorks S (a.pa - 1)) && (ctxOpen a.an a.aq a.oc a.dp a.ex now && decide (a.de=0∧a.regs.length<6))):=rfl;rw[he];by_cases hz:a.pa=0
 · rw[decide_eq_true (p:=a.pa≤0) (by omega),Bool.true_or,Bool.true_and]
   cases ho:ctxOpen a.an a.aq a.oc a.dp a.ex now with
   | false=>simpa[-Bool.decide_and] using rtakes_zshut R S i a now w h hG hx hn ha hz ho
   | true=>
    by_cases hd:a.de=0
    · by_cases hl:a.regs.length<6
      · rw[decide_eq_true (p:=a.de=0∧a.regs.length<6) ⟨hd,hl⟩];simpa[-Bool.decide_and] using rtakes_zyes R S i a now w h hG hx hn ha hz ho hd hl
      · rw[decide_eq_false (p:=a.de=0∧a.regs.length<6) (fun x=>hl x.2)];simpa[-Bool.decide_and] using rtakes_zfull R S i a now w h hG hx hn ha hz ho hd hl
    · rw[decide_eq_false (p:=a.de=0∧a.regs.length<6) (fun x=>hd x.1)];simpa[-Bool.decide_and] using rtakes_zdec R S i a now w h hG hx hn ha hz ho hd
 · rw[decide_eq_false (p:=a.pa≤0) (by omega),Bool.false_or]
   cases hw:rWorks S (a.pa - 1) with
   | false=>simpa using rtakes_idle R S i a now w h hG hx hn ha hz hw
   | true=>
    rw[Bool.true_and]
    cases ho:ctxOpen a.an a.aq a.oc a.dp a.ex now with
    | false=>simpa[-Bool.decide_and] using rtakes_wshut R S i a now w h hG hx hn ha hz hw ho
    | true=>
     by_cases hd:a.de=0
     · by_cases hl:a.regs.length<6
       · rw[decide_eq_true (p:=a.de=0∧a.regs.length<6) ⟨hd,hl⟩];simpa[-Bool.decide_and] using rtakes_wyes R S i a now w h hG hx hn ha hz hw ho hd hl
       · rw[decide_eq_false (p:=a.de=0∧a.regs.length<6) (fun x=>hl x.2)];simpa[-Bool.decide_and] using rtakes_wfull R S i a now w h hG hx hn ha hz hw ho hd hl
     · rw[decide_eq_false (p:=a.de=0∧a.regs.length<6) (fun x=>hd x.1)];simpa[-Bool.decide_and] using rtakes_wdec R S i a now w h hG hx hn ha hz hw ho hd
end Go.Proofs.YtlkajejbfojkeaaGreatDoor
