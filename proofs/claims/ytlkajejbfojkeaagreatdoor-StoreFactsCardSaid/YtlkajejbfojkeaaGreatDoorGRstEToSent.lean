/- RstE, RstQ, SaA, FcM, FcO, FlOpen, OpF, OpI, Sent -/
import Derived.Test.YtlkajejbfojkeaaGreatDoorGRstN
import Derived.Test.YtlkajejbfojkeaaGreatDoorGRstM
import Derived.Test.YtlkajejbfojkeaaGreatDoorGRstJ
import Derived.Test.YtlkajejbfojkeaaGreatDoorGRstI
import Derived.Test.YtlkajejbfojkeaaGreatDoorGRstH
import Derived.Test.YtlkajejbfojkeaaGreatDoorGRstG
import Derived.Test.YtlkajejbfojkeaaGreatDoorGRstF
import Derived.Test.YtlkajejbfojkeaaGreatDoorKTabNToRfcD
import Derived.ChangeArms
import Derived.Deep.Slices
import Derived.Laws.Cover2
import Derived.OpenShut
import Derived.ProofKit
import Derived.LaidMore
import Derived.Stop.Joined
import Derived.Carry
import Derived.SevenTiedAt
set_option linter.unusedSimpArgs false
set_option linter.unusedVariables false
set_option maxRecDepth 100000
set_option maxHeartbeats 16000000
namespace Go.Proofs.YtlkajejbfojkeaaGreatDoor
open Go.RowKit
theorem rnopart7 (R : RLoc) (S : Sto) (f : SFact) (w : World) (hx : F64 f.ex) (h : RStoreAt R S w) (hok : fok f = true) (hk : f.k = 7) (hi : (S.parts.length : Int) ≤ f.pt) :
    Calls Tryz.prog 22 #[.pointer (some ⟨R.sb,0,none⟩),factV f] w (RApplyEnds R S 9 w):=by
 have hR:=fun W=>rright14_of f hx W
 rw[hok] at hR;obtain⟨a,cap,hv,hn,hr⟩:=part_row h.parts;have HR:=qq hR;have H:=qq h;have hsb:=h.blk.lt;obtain⟨n,hnn⟩:∃n,n=S.parts.length:=⟨_,rfl⟩
 rw[←hnn] at hv hi;have HQ:=qq (fun W (hW:RStoreAt R S W)=>(show W.cell? ⟨R.sb,3,none⟩=some (.slice a n cap) by rw[←hv];exact hW.blk.cell 3));obtain⟨k,an,aq,rg,nd,pt,pr,oc,dp,pa,st,hw,de,ex⟩:=f;dsimp only at hi hk;subst hk;dsimp only[factV,factC] at*;clear hR h hok hx hnn hn hr hv;go_enter Tryz.func22,Tryz.ntmps22;go_wp2_with fail
 (with_reducible refine(HR.out _).mono ?_)
 rintro e w1 ⟨rfl,hb1⟩;have B1:Below w.heap.size w w1:=below_then (by go_grown) hb1;have HK1:=qq ((Blk.fresh w #[.int .i64 7,an,aq,rg,nd,pt,pr,oc,dp,pa,st,hw,de,.float .f64 ex] 42 _ rfl).below hb1);have hz1:=hb1.size;simp only[World.size_alloc] at hz1;have hs1:R.sb<w1.heap.size:=by omega
 have hs2:w.heap.size<w1.heap.size:=by omega
 obtain⟨q,qf⟩:=HK1.out.out;have c3:=HQ.out _ (H.out.below B1);have hi3:decide ((n:Int)≤pt)=true:=decide_eq_true hi;go_wp2_with fail;go_region
 all_goals go_wp2_with fail
 all_goals go_ret
 all_goals exact⟨rfl,RGoes.same H.out (below_then B1 (by go_grown))⟩
theorem rpart7_yes (R : RLoc) (S : Sto) (f : SFact) (i : Nat) (p : SPart) (w : World) (hx : F64 f.ex) (h : RStoreAt R S w) (hok : fok f = true) (hk : f.k = 7) (hi : f.pt = (i : Int)) (hp : S.parts[i]? = some p) (hr7 : p.rg = -1) :
    Calls Tryz.prog 22 #[.pointer (some ⟨R.sb,0,none⟩),factV f] w (RApplyEnds R {S with parts:=S.parts.set i {p with rg:=f.rg}} 0 w):=by
 have hR:=fun W=>rright14_of f hx W
 rw[hok] at hR;obtain⟨a,cap,hv,hn,hr⟩:=part_row h.parts;have hil:=(List.getElem?_eq_some_iff.1 hp).1;obtain⟨g,rfl,hg,hfz,hcell⟩:=hr (by omega);have hcl:=hcell i p hp;have HG:=qq (fun w2 (hb:Below w.heap.size w w2)=>rrg_part_goes h hb hv hp f.rg);obtain⟨n,hnn⟩:∃n,n=S.parts.length:=⟨_,rfl⟩
 rw[←hnn] at hv hil;have HR:=qq hR;have HCL:=qq hcl;have HFZ:=qq hfz;have hsb:=h.blk.lt;have HQ:=qq (show w.cell? ⟨R.sb,3,none⟩=some (.slice (some ⟨g,0,none⟩) n cap) by rw[←hv];exact h.blk.cell 3);have hi0:(0:Int)≤(i:Int):=by omega
 have hi1:(i:Int)<(n:Int):=by omega
 have hi2:¬(n:Int)≤(i:Int):=by omega
 have hi3:decide ((n:Int)≤(i:Int))=false:=decide_eq_false hi2;have hi4:¬n≤i:=by omega
 have hi5:decide (n≤i)=false:=decide_eq_false hi4;obtain⟨pan,paq,prg,⟨sp,sd,ss,sh⟩⟩:=p;obtain⟨k,an,aq,rg,nd,pt,pr,oc,dp,pa,st,hw,de,ex⟩:=f;dsimp only at hi hk;subst hk;subst hi;dsimp only[factV,factC] at*;subst hr7;clear hR h hok hx hnn hn hr hv hcl hcell hp hfz;go_enter Tryz.func22,Tryz.ntmps22;go_wp2_with fail
 (with_reducible refine(HR.out _).mono ?_)
 rintro e w1 ⟨rfl,hb1⟩;have B1:Below w.heap.size w w1:=below_then (by go_grown) hb1;have HK1:=qq ((Blk.fresh w #[.int .i64 7,an,aq,rg,nd,(i:Int),pr,oc,dp,pa,st,hw,de,.float .f64 ex] 42 _ rfl).below hb1);have hz1:=hb1.size;simp only[World.size_alloc] at hz1;have hs1:R.sb<w1.heap.size:=by omega
 have hs2:w.heap.size<w1.heap.size:=by omega
 obtain⟨q,qf⟩:=HK1.out.out;have hg1:g<w1.heap.size:=by omega
 obtain⟨pc0,pc1,pc2,pc3,pc4,pc5,pc6⟩:=PartC.below HCL.out B1 hg;have f1:∀j,w1.frozen? ⟨g,j,none⟩=false:=fun j=>(B1.frozen (p:=⟨g,j,none⟩) hg).trans (HFZ.out j)
 have c3:=(B1.cell (p:=⟨R.sb,3,none⟩) hsb).trans HQ.out;dsimp only at pc0 pc1 pc2 pc3 pc4 pc5 pc6;clear pc0 pc1 pc3 pc4 pc5 pc6;go_wp2_with fail;go_region
 all_goals go_wp2_with fail
 go_region
 all_goals go_wp2_with fail
 all_goals go_ret
 all_goals exact⟨rfl,(HG.out _ (below_then B1 (by go_grown))).then_below (by go_grown)⟩
theorem rpart7_no (R : RLoc) (S : Sto) (f : SFact) (i : Nat) (p : SPart) (w : World) (hx : F64 f.ex) (h : RStoreAt R S w) (hok : fok f = true) (hk : f.k = 7) (hi : f.pt = (i : Int)) (hp : S.parts[i]? = some p) (hr7 : 0 ≤ p.rg) :
    Calls Tryz.prog 22 #[.pointer (some ⟨R.sb,0,none⟩),factV f] w (RApplyEnds R S 9 w):=by
 have hR:=fun W=>rright14_of f hx W
 rw[hok] at hR;obtain⟨a,cap,hv,hn,hr⟩:=part_row h.parts;have hil:=(List.getElem?_eq_some_iff.1 hp).1;obtain⟨g,rfl,hg,hfz,hcell⟩:=hr (by omega);have hcl:=hcell i p hp;have HG:=qq (fun w2 (hb:Below w.heap.size w w2)=>RGoes.same h hb);obtain⟨n,hnn⟩:∃n,n=S.parts.length:=⟨_,rfl⟩
 rw[←hnn] at hv hil;have HR:=qq hR;have HCL:=qq hcl;have HFZ:=qq hfz;have hsb:=h.blk.lt;have HQ:=qq (show w.cell? ⟨R.sb,3,none⟩=some (.slice (some ⟨g,0,none⟩) n cap) by rw[←hv];exact h.blk.cell 3);have hi0:(0:Int)≤(i:Int):=by omega
 have hi1:(i:Int)<(n:Int):=by omega
 have hi2:¬(n:Int)≤(i:Int):=by omega
 have hi3:decide ((n:Int)≤(i:Int))=false:=decide_eq_false hi2;have hi4:¬n≤i:=by omega
 have hi5:decide (n≤i)=false:=decide_eq_false hi4;obtain⟨pan,paq,prg,⟨sp,sd,ss,sh⟩⟩:=p;obtain⟨k,an,aq,rg,nd,pt,pr,oc,dp,pa,st,hw,de,ex⟩:=f;dsimp only at hi hk;subst hk;subst hi;dsimp only[factV,factC] at*;have hr8:decide ((0:Int)≤prg)=true:=decide_eq_true hr7;clear hR h hok hx hnn hn hr hv hcl hcell hp hfz;go_enter Tryz.func22,Tryz.ntmps22;go_wp2_with fail
 (with_reducible refine(HR.out _).mono ?_)
 rintro e w1 ⟨rfl,hb1⟩;have B1:Below w.heap.size w w1:=below_then (by go_grown) hb1;have HK1:=qq ((Blk.fresh w #[.int .i64 7,an,aq,rg,nd,(i:Int),pr,oc,dp,pa,st,hw,de,.float .f64 ex] 42 _ rfl).below hb1);have hz1:=hb1.size;simp only[World.size_alloc] at hz1;have hs1:R.sb<w1.heap.size:=by omega
 have hs2:w.heap.size<w1.heap.size:=by omega
 obtain⟨q,qf⟩:=HK1.out.out;have hg1:g<w1.heap.size:=by omega
 obtain⟨pc0,pc1,pc2,pc3,pc4,pc5,pc6⟩:=PartC.below HCL.out B1 hg;have f1:∀j,w1.frozen? ⟨g,j,none⟩=false:=fun j=>(B1.frozen (p:=⟨g,j,none⟩) hg).trans (HFZ.out j)
 have c3:=(B1.cell (p:=⟨R.sb,3,none⟩) hsb).trans HQ.out;dsimp only at pc0 pc1 pc2 pc3 pc4 pc5 pc6;clear pc0 pc1 pc3 pc4 pc5 pc6;go_wp2_with fail;go_region
 all_goals go_wp2_with fail
 all_goals go_ret
 all_goals exact⟨rfl,HG.out _ (below_then B1 (by go_grown))⟩
theorem rapply_of (R : RLoc) (S : Sto) (f : SFact) (w : World) (hx : F64 f.ex) (h : RStoreAt R S w) (hG : StoGood S) :
    Calls Tryz.prog 22 #[.pointer (some ⟨R.sb,0,none⟩),factV f] w (RApplyEnds R (sapply S f).1 (sapply S f).2 w):=by
 cases hok:fok f with
 | false=>
  have e:sapply S f=(S,4):=by unfold sapply;rw[if_pos hok]
  rw[e];exact rapply_bad R S f w hx h hok
 | true=>
  have hs:∀T,sput S f=some T→sapply S f=(T,0):=fun T hT=>by unfold sapply;rw[if_neg (by rw[hok];simp),hT]
  have hn:sput S f=none→sapply S f=(S,9):=fun hT=>by unfold sapply;rw[if_neg (by rw[hok];simp),hT]
  have hkk:=fok_any hok;by_cases k1:f.k=1
  · obtain⟨f1,f2,f3⟩:=fok1 hok k1;have fi:=ctxOk_id f1;by_cases c1:f.an=S.node
    case neg=>
     have e:sput S f=none:=by unfold sput;rw[if_pos k1,if_pos (.inl c1)]
     rw[hn e];exact ropen_no1 R S f w hx h hok k1 c1
    by_cases c2:S.next≤f.aq
    case neg=>
     have e:sput S f=none:=by unfold sput;rw[if_pos k1,if_pos (.inr (.inl (by omega)))]
     rw[hn e];exact ropen_no2 R S f w hx h hok k1 c1 (by omega)
    by_cases c3:S.acts.length<8
    case neg=>
     have e:sput S f=none:=by unfold sput;rw[if_pos k1,if_pos (.inr (.inr (.inl (by omega))))]
     rw[hn e];exact ropen_no3 R S f w hx h hok k1 c1 c2 (by omega)
    by_cases c4:0<f.pa→f.pa≤(S.parts.length:Int)∧schild S f.pa=none
    · have e:sput S f=some {S with next:=f.aq+1,acts:=S.acts ++ [⟨f.an,f.aq,f.oc,f.dp,f.ex,f.pa,0,[]⟩]}:=by
       unfold sput;rw[if_pos k1,if_neg];rintro(e | e | e | ⟨e1,e2⟩)
       · exact e c1
       · omega
       · omega
       · obtain⟨q1,q2⟩:=c4 e1;rcases e2 with e2 | e2
         · omega
         · rw[q2] at e2;cases e2
      rw[hs _ e];by_cases c5:0<f.pa
      · exact ropen_yes2 R S f w hx h hok k1 ⟨fi.2.2.1,fi.2.2.2⟩ ⟨f2,f3⟩ c1 c2 c3 c5 (c4 c5).1 (c4 c5).2
      · exact ropen_yes1 R S f w hx h hok k1 ⟨fi.2.2.1,fi.2.2.2⟩ ⟨f2,f3⟩ c1 c2 c3 (by omega)
    · have c5:0<f.pa:=Decidable.byContradiction fun e=>c4 (fun e'=>absurd e' e)
      by_cases c6:f.pa≤(S.parts.length:Int)
      · cases hc:schild S f.pa with
        | none=>exact absurd (fun _=>⟨c6,hc⟩) c4
        | some i=>
         have e:sput S f=none:=by unfold sput;rw[if_pos k1,if_pos (.inr (.inr (.inr ⟨c5,.inr (by rw[hc];rfl)⟩)))]
         rw[hn e];exact ropen_no5 R S f w hx h hok k1 hG.acts c1 c2 c3 c5 f3 c6 i hc
      · have e:sput S f=none:=by unfold sput;rw[if_pos k1,if_pos (.inr (.inr (.inr ⟨c5,.inl (by omega)⟩)))]
        rw[hn e];exact ropen_no4 R S f w hx h hok k1 hG.acts c1 c2 c3 c5 f3 (by omega)
  by_cases k6:f.k=6
  · obtain⟨f1,f2,f3,f4,f5⟩:=fok6 hok k6;by_cases c:f.pt=(S.parts.length:Int)
    · have e:sput S f=some {S with parts:=S.parts ++ [⟨f.an,f.aq,-1,⟨f.pr,2,1,0⟩⟩]}:=by unfold sput;rw[if_neg k1,if_pos k6,if_neg (by simp[c])]
      rw[hs _ e];exact rjoin_yes R S f w hx h hok k6 hG.parts c
    · have e:sput S f=none:=by unfold sput;rw[if_neg k1,if_pos k6,if_pos c]
      rw[hn e];exact rjoin_no R S f w hx h hok k6 c
  by_cases k78:f.k=7∨f.k=8
  · have h0:0≤f.pt:=by
     rcases k78 with k | k
     · exact(fok7 hok k).1
     · exact(fok8 hok k).1
    by_cases c:f.pt<(S.parts.length:Int)
    case neg=>
     have e:sput S f=none:=by
      unfold sput;rw[if_neg k1,if_neg k6,if_pos k78,List.getElem?_eq_none (by omega)]
     rw[hn e];rcases k78 with k7 | k8
     · exact rnopart7 R S f w hx h hok k7 (by omega)
     · exact rnopart8 R S f w hx h hok k8 (by omega)
    obtain⟨i,hi⟩:∃i:Nat,f.pt=(i:Int):=⟨f.pt.toNat,by omega⟩
    have hil:i<S.parts.length:=by omega
    have hp:S.parts[i]? =some S.parts[i]:=List.getElem?_eq_getElem hil;have hit:f.pt.toNat=i:=by omega
    obtain⟨p,hpe⟩:∃p,p=S.parts[i]:=⟨_,rfl⟩
    rw[←hpe] at hp;by_cases k8:f.k=8
    · cases ht:sturn p.seat f.st f.hw with
      | none=>
       have e:sput S f=none:=by
        unfold sput;rw[if_neg k1,if_neg k6,if_pos k78,hit,hp];simp only;rw[if_pos k8,ht];rfl
       rw[hn e];exact rpart8_no R S f i p w hx h hok k8 hi hp (turnOk_none ht)
      | some t=>
       have e:sput S f=some {S with parts:=S.parts.set i {p with seat:=t}}:=by
        unfold sput;rw[if_neg k1,if_neg k6,if_pos k78,hit,hp];simp only;rw[if_pos k8,ht];rfl
       rw[hs _ e];obtain⟨q1,q2⟩:=turnOk_some ht;subst q2;exact rpart8_yes R S f i p w hx h hok k8 hi hp q1
    · have k7:=k78.resolve_right k8;by_cases hr:p.rg= -1
      · have e:sput S f=some {S with parts:=S.parts.set i {p with rg:=f.rg}}:=by
         unfold sput;rw[if_neg k1,if_neg k6,if_pos k78,hit,hp];simp only;rw[if_neg k8,if_neg (by simp[hr])]
        rw[hs _ e];exact rpart7_yes R S f i p w hx h hok k7 hi hp hr
      · have e:sput S f=none:=by
         unfold sput;rw[if_neg k1,if_neg k6,if_pos k78,hit,hp];simp only;rw[if_neg k8,if_pos hr]
        rw[hn e];exact rpart7_no R S f i p w hx h hok k7 hi hp (by have:=(hG.part p (List.mem_of_getElem? hp)).2.1;omega)
  have hk4:f.k≠1∧f.k≠6∧f.k≠7∧f.k≠8:=⟨k1,k6,fun e=>k78 (.inl e),fun e=>k78 (.inr e)⟩
  cases hi:sfind S f.an f.aq with
  | none=>
   have e:sput S f=none:=by unfold sput;rw[if_neg k1,if_neg k6,if_neg k78,hi]
   rw[hn e];exact rapply_noact R S f w hx h hG.acts hok hk4 hi
  | some i=>
   have hil:i<S.acts.length:=by unfold sfind at hi;exact(List.findIdx?_eq_some_iff_getElem.1 hi).1
   obtain⟨a,ha⟩:∃a,S.acts[i]? =some a:=⟨_,List.getElem?_eq_getElem hil⟩
   obtain⟨x,hxi⟩:∃x,R.rv[i]? =some x:=⟨_,List.getElem?_eq_getElem (by rw[h.len];exact hil)⟩
   have hA:=hG.act a (List.mem_of_getElem? ha);have hl:=hA.len;have hsp:sput S f=if f.k=5 then(if(a.regs.any fun r=>decide (r.seat.s≠14))=true then none else some {S with acts:=S.acts.take i ++S.acts.drop (i+1)}) else(sact a f).map fun b=>{S with acts:=S.acts.set i b}:=by
    unfold sput;rw[if_neg k1,if_neg k6,if_neg k78,hi];simp only;rw[ha]
   have yes:∀T,sput S f=some T→(∀W,Below w.heap.size w W→Calls Tryz.prog 93 #[.pointer (some ⟨R.sb,0,none⟩),.int .i64 (i:Int),factV f] W fun e w'=>e=.returned (.bool true)∧RGoes R T W w')→Calls Tryz.prog 22 #[.pointer (some ⟨R.sb,0,none⟩),factV f] w (RApplyEnds R (sapply S f).1 (sapply S f).2 w):=fun T hT hC=>by
    rw[hs _ hT];exact rapply_act R S T f i true w hx h hG.acts hok hk4 hi hC
   have no:sput S f=none→(∀W,Below w.heap.size w W→Calls Tryz.prog 93 #[.pointer (some ⟨R.sb,0,none⟩),.int .i64 (i:Int),factV f] W fun e w'=>e=.returned (.bool false)∧RGoes R S W w')→Calls Tryz.prog 22 #[.pointer (some ⟨R.sb,0,none⟩),factV f] w (RApplyEnds R (sapply S f).1 (sapply S f).2 w):=fun hT hC=>by
    rw[hn hT];exact rapply_act R S S f i false w hx h hG.acts hok hk4 hi hC
   have hxl:∀W,Below w.heap.size w W→RStoreAt R S W:=fun W hW=>h.below hW
   by_cases k5:f.k=5
   · rw[if_pos k5] at hsp
     cases hany:(a.regs.any fun r=>decide (r.seat.s≠14)) with
     | true=>
      rw[hany,if_pos rfl] at hsp;exact no hsp (fun W hW=>ract5_no R S f i a x W (hxl W hW) hG.acts k5 hxi ha hl hany)
     | false=>
      rw[hany,if_neg (by simp)] at hsp;exact yes _ hsp (fun W hW=>ract5_yes R S f i a x W (hxl W hW) hG.acts k5 hxi ha hl hany)
   rw[if_neg k5] at hsp;by_cases k2:f.k=2
   · obtain⟨f1,f2,f3,f4,f5,f6,f7,f8,f9⟩:=fok2 hok k2;by_cases c1:f.rg=(a.regs.length:Int)
     case neg=>
      have e:sact a f=none:=by unfold sact;rw[if_pos k2,if_pos (.inl c1)]
      rw[e] at hsp;exact no hsp (fun W hW=>ract2_no1 R S f i a x W (hxl W hW) hG.acts k2 hxi ha c1)
     by_cases c2:a.de=0
     case neg=>
      have e:sact a f=none:=by unfold sact;rw[if_pos k2,if_pos (.inr (.inl c2))]
      rw[e] at hsp;exact no hsp (fun W hW=>ract2_no2 R S f i a x W (hxl W hW) hG.acts k2 hxi ha c1 c2)
     cases hany:(a.regs.any fun r=>decide (r.n=f.nd∧r.p=f.pt)) with
     | true=>
      have e:sact a f=none:=by unfold sact;rw[if_pos k2,if_pos (.inr (.inr hany))]
      rw[e] at hsp;exact no hsp (fun W hW=>ract2_no3 R S f i a x W (hxl W hW) hG.acts k2 hxi ha hl c1 c2 hany)
     | false=>
      have e:sact a f=some {a with regs:=a.regs ++ [⟨f.nd,f.pt,⟨f.pr,1,1,0⟩⟩]}:=by
       unfold sact;rw[if_pos k2,if_neg];rintro(e | e | e)
       · exact e c1
       · exact e c2
       · rw[hany] at e;cases e
      rw[e] at hsp;exact yes _ hsp (fun W hW=>ract2_yes R S f i a x W (hxl W hW) hG.acts k2 hxi ha hl c1 c2 hany)
   by_cases k3:f.k=3
   · obtain⟨f1,f2,f3,f4⟩:=fok3 hok k3;have hsa : sact a f = match a.regs[f.rg.toNat]? with
         | none=>none
         | some r=>(sturn r.seat f.st f.hw).map fun t=>{a with regs:=a.regs.set f.rg.toNat {r with seat:=t}}:=by
      unfold sact;rw[if_neg k2,if_pos k3];cases a.regs[f.rg.toNat]? <;>rfl
     by_cases c1:f.rg<(a.regs.length:Int)
     case neg=>
      have e:sact a f=none:=by rw[hsa,List.getElem?_eq_none (by omega)]
      rw[e] at hsp;exact no hsp (fun W hW=>ract3_len R S f i a x W (hxl W hW) hG.acts k3 hxi ha (by omega))
     obtain⟨j,hj⟩:∃j:Nat,f.rg=(j:Int):=⟨f.rg.toNat,by omega⟩
     have hjt:f.rg.toNat=j:=by omega
     obtain⟨r,hr⟩:∃r,a.regs[j]? =some r:=⟨_,List.getElem?_eq_getElem (by omega)⟩
     rw[hjt,hr] at hsa;simp only at hsa
     cases ht:sturn r.seat f.st f.hw with
     | none=>
      rw[ht] at hsa;rw[hsa] at hsp;exact no hsp (fun W hW=>ract3_no R S f i a x j r W (hxl W hW) hG.acts k3 hxi ha hj hr hl (turnOk_none ht))
     | some t=>
      rw[ht] at hsa;rw[hsa] at hsp;obtain⟨q1,q2⟩:=turnOk_some ht;subst q2;exact yes _ hsp (fun W hW=>ract3_yes R S f i a x j r W (hxl W hW) hG.acts k3 hxi ha hj hr hl q1)
   have k4:f.k=4:=by omega
   have hsa:sact a f=if a.oc≠1∨a.de≠0 then none else some {a with de:=f.de}:=by
    unfold sact;rw[if_neg k2,if_neg k3]
   by_cases c:a.oc≠1∨a.de≠0
   · rw[hsa,if_pos c] at hsp;exact no hsp (fun W hW=>by
       by_cases c0:a.oc=1
       · exact ract4_no2 R S f i a x W (hxl W hW) hG.acts k4 hxi ha c0 (c.resolve_left (fun e=>e c0))
       · exact ract4_no1 R S f i a x W (hxl W hW) hG.acts k4 hxi ha c0)
   · rw[hsa,if_neg c] at hsp;exact yes _ hsp (fun W hW=>ract4_yes R S f i a x W (hxl W hW) hG.acts k4 hxi ha (Decidable.byContradiction fun e=>c (.inl e)) (Decidable.byContradiction fun e=>c (.inr e)))
attribute [local go_sem] store_float
theorem same13 (b c:Nat) (C:Array Value) (hC:∀k,k<13→∃x:Int,C[k]? =some (.int .i64 x)) (w:World) (h1:Blk w b C) (h2:Blk w c C):Calls Tryz.prog 118 #[.slice (some ⟨b,0,none⟩) 13 13,.slice (some ⟨c,0,none⟩) 13 13] w (Makes (.bool true) w):=by
 have H1:=qq h1;have H2:=qq h2;have HC:=qq hC;clear h1 h2 hC;go_enter Tryz.func118,Tryz.ntmps118;go_wp2_with fail;go_loopw [13] (fun i wr=>∃k:Nat,k≤13∧i=.int .i64 (k:Nat)∧Below w.heap.size w wr) (fun i _=>13 - (intOf i).toNat)
 case atStart=>exact⟨0,by omega,by go_num,Below.refl _ _⟩
 case round=>
  obtain⟨k,hk,rfl,hB⟩:=hrel;by_cases hlt:k<13
  · obtain⟨x,hx⟩:=HC.out k hlt;have c1:wr.cell? ⟨b,k,none⟩=some (.int .i64 x):=((H1.out.below hB).cell k).trans hx;have c2:wr.cell? ⟨c,k,none⟩=some (.int .i64 x):=((H2.out.below hB).cell k).trans hx;clear hx;have hki:(k:Int)<13:=by omega
    have hk0:(0:Int)≤(k:Int):=by omega
    go_wp2_with fail;go_quiet (fail)
    all_goals go_wp2_with fail
    all_goals (go_roundw<;>first | exact⟨k+1,by omega,by go_num,below_then hB ⟨rfl,rfl,rfl,Nat.le_refl _,fun _ _=>rfl⟩⟩ | (simp[intOf];omega))
  · obtain rfl:k=13:=by omega
    go_wp2_with fail;go_ret;exact⟨rfl,hB⟩
theorem rsame14_self (f:SFact) (hx:F64 f.ex) (w:World):Calls Tryz.prog 35 #[factV f,factV f] w (Makes (.bool true) w):=by
 have HN:=qq (fun W=>numbers_of f W);have HR:=qq (fun W=>rbits_of f.ex hx W);obtain⟨k,an,aq,rg,nd,pt,pr,oc,dp,pa,st,hw,de,ex⟩:=f;dsimp only[factV,factC] at*
 have HIL:=qq (show ∀jj,jj<13→∃x:Int,(#[.int .i64 k,.int .i64 an,.int .i64 aq,.int .i64 rg,.int .i64 nd,.int .i64 pt,.int .i64 pr,.int .i64 oc,.int .i64 dp,.int .i64 pa,.int .i64 st,.int .i64 hw,.int .i64 de]:Array Value)[jj]? =some (.int .i64 x) from fun jj hk=>by
   have h:jj=0∨jj=1∨jj=2∨jj=3∨jj=4∨jj=5∨jj=6∨jj=7∨jj=8∨jj=9∨jj=10∨jj=11∨jj=12:=by omega
   rcases h with rfl | rfl | rfl | rfl | rfl | rfl | rfl | rfl | rfl | rfl | rfl | rfl | rfl<;>exact⟨_,rfl⟩)
 clear hx;go_enter Tryz.func35,Tryz.ntmps35;go_wp2_with fail;have HB:Hid (Below w.heap.size w (World.drew ((w.alloc (.cells #[k,an,aq,rg,nd,pt,pr,oc,dp,pa,st,hw,de,.float .f64 ex] 42)).alloc (.cells #[k,an,aq,rg,nd,pt,pr,oc,dp,pa,st,hw,de,.float .f64 ex] 42)))):=qq (by go_grown)
 refine wp_region_held_drew (S:=fun w'=>Blk w' w.heap.size #[k,an,aq,rg,nd,pt,pr,oc,dp,pa,st,hw,de,.float .f64 ex]∧Blk w' (w.heap.size+1) #[k,an,aq,rg,nd,pt,pr,oc,dp,pa,st,hw,de,.float .f64 ex]) (by kernel_rfl) (⟨((Blk.fresh w #[k,an,aq,rg,nd,pt,pr,oc,dp,pa,st,hw,de,.float .f64 ex] 42 _ rfl).alloc _).drew,(Blk.fresh (w.alloc (.cells #[k,an,aq,rg,nd,pt,pr,oc,dp,pa,st,hw,de,.float .f64 ex] 42)) #[.int .i64 k,.int .i64 an,.int .i64 aq,.int .i64 rg,.int .i64 nd,.int .i64 pt,.int .i64 pr,.int .i64 oc,.int .i64 dp,.int .i64 pa,.int .i64 st,.int .i64 hw,.int .i64 de,.float .f64 ex] 42 (w.heap.size+1) (by simp)).drew⟩) (fun hHeld=> ?_)
 generalize(World.drew ((w.alloc (.cells #[k,an,aq,rg,nd,pt,pr,oc,dp,pa,st,hw,de,.float .f64 ex] 42)).alloc (.cells #[k,an,aq,rg,nd,pt,pr,oc,dp,pa,st,hw,de,.float .f64 ex] 42)))=w0 at*;refine takeU (d:=some 5) 0 rfl rfl hHeld (fun w' hS'=>by have qA:=hS'.1.cell;have qB:=hS'.2.cell;clear hS';go_simp;(try rfl)) ?_;simp only[puts]
 refine takeU (d:=some 7) 2 rfl rfl hHeld (fun w' hS'=>by have qA:=hS'.1.cell;have qB:=hS'.2.cell;clear hS';go_simp;(try rfl)) ?_;simp only[puts];refine wpAnyH_call (d:=some 6) 1 119 _ _ [.agg #[k,an,aq,rg,nd,pt,pr,oc,dp,pa,st,hw,de,.float .f64 ex]] rfl rfl (by kernel_rfl) rfl (enters_of Tryz.func119 (by kernel_rfl) rfl) (by rfl) (by rfl) ?_;refine(HN.out _).mono ?_;rintro e w5 ⟨g1,rfl,hg1,hb5⟩
 have HB:=qq (below_then HB.out hb5);have HG1:=qq hg1;have hHeld:(fun w'=>Blk w' w.heap.size #[k,an,aq,rg,nd,pt,pr,oc,dp,pa,st,hw,de,.float .f64 ex]∧Blk w' (w.heap.size+1) #[k,an,aq,rg,nd,pt,pr,oc,dp,pa,st,hw,de,.float .f64 ex]) _:=⟨hHeld.1.below hb5,hHeld.2.below hb5⟩
 refine⟨_,rfl,_,fun _ h=>h,hHeld,fun hHeld=> ?_⟩;simp only[Act.put,puts];clear hb5 hg1;refine wpAnyH_call (d:=some 8) 3 119 _ _ [.agg #[k,an,aq,rg,nd,pt,pr,oc,dp,pa,st,hw,de,.float .f64 ex]] rfl rfl (by kernel_rfl) rfl (enters_of Tryz.func119 (by kernel_rfl) rfl) (by rfl) (by rfl) ?_;refine(HN.out _).mono ?_;rintro e w6 ⟨g2,rfl,hg2,hb6⟩
 have HB:=qq (below_then HB.out hb6);have HG1:=qq (HG1.out.below hb6);have HG2:=qq hg2;have hHeld:(fun w'=>Blk w' w.heap.size #[k,an,aq,rg,nd,pt,pr,oc,dp,pa,st,hw,de,.float .f64 ex]∧Blk w' (w.heap.size+1) #[k,an,aq,rg,nd,pt,pr,oc,dp,pa,st,hw,de,.float .f64 ex]) _:=⟨hHeld.1.below hb6,hHeld.2.below hb6⟩
 refine⟨_,rfl,_,fun _ h=>h,hHeld,fun hHeld=> ?_⟩;simp only[Act.put,puts];clear hb6 hg2;refine wpAnyH_call (d:=some 9) 4 118 _ _ [.slice (some ⟨g1,0,none⟩) 13 13,.slice (some ⟨g2,0,none⟩) 13 13] rfl rfl (by kernel_rfl) rfl (enters_of Tryz.func118 (by kernel_rfl) rfl) (by rfl) (by rfl) ?_;refine(same13 g1 g2 _ HIL.out _ HG1.out HG2.out).mono ?_;rintro e w7 ⟨rfl,hb7⟩
 have HB:=qq (below_then HB.out hb7);have hHeld:(fun w'=>Blk w' w.heap.size #[k,an,aq,rg,nd,pt,pr,oc,dp,pa,st,hw,de,.float .f64 ex]∧Blk w' (w.heap.size+1) #[k,an,aq,rg,nd,pt,pr,oc,dp,pa,st,hw,de,.float .f64 ex]) _:=⟨hHeld.1.below hb7,hHeld.2.below hb7⟩
 refine⟨_,rfl,_,fun _ h=>h,hHeld,fun hHeld=> ?_⟩;simp only[Act.put,puts];clear hb7;refine takeU (d:=some 10) 5 rfl rfl hHeld (fun w' hS'=>by have qA:=hS'.1.cell;have qB:=hS'.2.cell;clear hS';go_simp;(try rfl)) ?_;simp only[puts];refine takeU (d:=some 11) 6 rfl rfl hHeld (fun w' hS'=>by have qA:=hS'.1.cell;have qB:=hS'.2.cell;clear hS';go_simp;(try rfl)) ?_;simp only[puts]
 refine takeU (d:=some 12) 7 rfl rfl hHeld (fun w' hS'=>by have qA:=hS'.1.cell;have qB:=hS'.2.cell;clear hS';go_simp;(try rfl)) ?_;simp only[puts];refine takeU (d:=some 14) 9 rfl rfl hHeld (fun w' hS'=>by have qA:=hS'.1.cell;have qB:=hS'.2.cell;clear hS';go_simp;(try rfl)) ?_;simp only[puts]
 refine takeU (d:=some 15) 10 rfl rfl hHeld (fun w' hS'=>by have qA:=hS'.1.cell;have qB:=hS'.2.cell;clear hS';go_simp;(try rfl)) ?_;simp only[puts];refine wpAnyH_call (d:=some 13) 8 120 _ _ [.float .f64 ex] rfl rfl (by kernel_rfl) rfl (enters_of Tryz.func120 (by kernel_rfl) rfl) (by rfl) (by rfl) ?_;refine(HR.out _).mono ?_;rintro e w8 ⟨rfl,rfl⟩;refine⟨_,rfl,_,fun _ h=>h,hHeld,fun hHeld=> ?_⟩
 simp only[Act.put,puts];refine wpAnyH_call (d:=some 16) 11 120 _ _ [.float .f64 ex] rfl rfl (by kernel_rfl) rfl (enters_of Tryz.func120 (by kernel_rfl) rfl) (by rfl) (by rfl) ?_;refine(HR.out _).mono ?_;rintro e w8 ⟨rfl,rfl⟩;refine⟨_,rfl,_,fun _ h=>h,hHeld,fun hHeld=> ?_⟩;simp only[Act.put,puts]
 refine takeU (d:=some 17) 12 rfl rfl hHeld (fun w' hS'=>by have qA:=hS'.1.cell;have qB:=hS'.2.cell;clear hS';go_simp;(try rfl)) ?_;simp only[puts];refine takeU (d:=some 18) 13 rfl rfl hHeld (fun w' hS'=>by have qA:=hS'.1.cell;have qB:=hS'.2.cell;clear hS';go_simp;(try rfl)) ?_;simp only[puts]
 refine takeU (d:=some 4) 14 rfl rfl hHeld (fun w' hS'=>by have qA:=hS'.1.cell;have qB:=hS'.2.cell;clear hS';go_simp;(try rfl)) ?_;simp only[puts];refine wpAnyH_done (by kernel_rfl) ?_ _;clear hHeld;go_wp2_with fail;go_ret;exact⟨ret_bool (by simp),HB.out⟩
open Go.RowKit Go.Shelf
theorem sapply_numZ (S:Sto) (f:SFact):0≤(sapply S f).2∧(sapply S f).2≤14:=by
 unfold sapply;split
 · simp
 · split<;>simp
theorem read_rowR {w:World} {B:Nat} {v:Value} {fs:List SFact} (h:w.ownsRow B 42 14 v fs.length (factsL fs)):ReadFacts w v fs∧∀k,sliceBlock v=some k→v.ownBlock=some k:=by
 obtain⟨a,cap,hv⟩:=row_slice h;subst hv;by_cases hn:fs=[]
 · subst hn;rcases h.2 with⟨hv,_⟩ | ⟨g,cap',cur,hv,_⟩
   · cases hv
     exact⟨⟨none,0,rfl,fun h=>absurd rfl h⟩,by simp[sliceBlock]⟩
   · simp only[Value.slice.injEq] at hv;obtain⟨rfl,_,rfl⟩:=hv;exact⟨⟨_,_,rfl,fun h=>absurd rfl h⟩,fun k hk=>by simpa[sliceBlock,Value.ownBlock] using hk⟩
 · obtain⟨g,cap',hv,_,_,hg,hc,_⟩:=row_form h (List.length_pos_iff.2 hn);simp only[Value.slice.injEq,true_and] at hv;obtain⟨rfl,rfl⟩:=hv;refine⟨⟨_,_,rfl,fun _=>⟨g,0,rfl,hg,fun j hj=> ?_⟩⟩,fun k hk=>by simpa[sliceBlock,Value.ownBlock] using hk⟩;have hat:=fun i hi=>flat_at factL 14 factL_len fs j i hj hi
   rw[Nat.zero_add]
   exact⟨hc _ _ (hat 0 (by decide)),hc _ _ (hat 1 (by decide)),hc _ _ (hat 2 (by decide)),hc _ _ (hat 3 (by decide)),hc _ _ (hat 4 (by decide)),hc _ _ (hat 5 (by decide)),hc _ _ (hat 6 (by decide)),hc _ _ (hat 7 (by decide)),hc _ _ (hat 8 (by decide)),hc _ _ (hat 9 (by decide)),hc _ _ (hat 10 (by decide)),hc _ _ (hat 11 (by decide)),hc _ _ (hat 12 (by decide)),hc _ _ (hat 13 (by decide))⟩
structure Both (node:Int) (sb:Nat) (w1:World) (S:Sto) (L:SLoc) (R:RLoc) (wr:World):Prop where
 lb:L.sb=sb
 rb:R.sb=sb+1
 node:S.node=node
 good:StoGood S
 room:SRoom S
 ex:SEx S
 bu:Built L R S w1 wr
theorem Both.below {node:Int} {sb:Nat} {w1 wr W:World} {S:Sto} {L:SLoc} {R:RLoc} (h:Both node sb w1 S L R wr) (hb:Below wr.heap.size wr W):Both node sb w1 S L R W:=⟨h.lb,h.rb,h.node,h.good,h.room,h.ex,h.bu.below hb⟩
theorem law_sfacts_go (node:Int) (a:Option Addr) (cap N:Nat) (fs:List SFact) (km anm aqm rgm ndm ptm prm ocm dpm pam stm hwm dem:Int) (exm:Nat) (ea:Int→Addr) (w:World) (hE:EnvS ea w) (hN:N=fs.length) (hR:ReadFacts w (.slice a N cap) fs) (hF:∀f∈fs,F64 f.ex) (hxm:F64 exm) (hn:N≤100) (hnd:0≤node∧node≤3):Calls Tryz.prog 7 #[.int .i64 node,.slice a N cap,.agg #[km,anm,aqm,rgm,ndm,ptm,prm,ocm,dpm,pam,stm,hwm,dem,.float .f64 exm]] w (Makes (.bool true) w):=by
 have HAL:=qq (fun W (hW:Below w.heap.size w W)=>alive15_of ea W (hE.below hW));have HEN:=qq (fun W (hW:Below w.heap.size w W)=>hE.below hW);have HNW:=qq (fun W=>snew_yes node W hnd);have HG0:Hid (StoGood ⟨node,0,[],[]⟩):=qq (StoGood.new hnd.1 hnd.2);have HND:=qq hnd;have HXM:=qq hxm;obtain⟨a2,cap2,hv,hrf⟩:=hR;simp only[Value.slice.injEq] at hv;obtain⟨rfl,-,rfl⟩:=hv
 have HRF:=qq hrf;have HNN:=qq hN;have HF:=qq hF;have d1:¬(100:Int)<(N:Int):=by omega
 have KM0:=qq (Blk.fresh w #[km,anm,aqm,rgm,ndm,ptm,prm,ocm,dpm,pam,stm,hwm,dem,.float .f64 exm] 39 _ rfl);have HBM:Hid (Below w.heap.size w (w.alloc (.cells #[km,anm,aqm,rgm,ndm,ptm,prm,ocm,dpm,pam,stm,hwm,dem,.float .f64 exm] 39))):=qq ((Below.refl _ _).alloc (Nat.le_refl _) _);clear hE hrf hN hF hnd hxm;go_enter Tryz.func7,Tryz.ntmps7;go_wp2_with fail;refine(HAL.out _ HBM.out).mono ?_
 rintro e w1 ⟨rfl,hb1⟩;have HB1:=qq (below_then HBM.out hb1);have KM1:=qq (KM0.out.below hb1);have hz1:=hb1.size;rw[World.size_alloc] at hz1;clear hb1 KM0 HBM;go_wp2_with fail;refine(HNW.out _).mono ?_;rintro e w2 ⟨rfl,rfl⟩
 have HB0:=qq (built_start (w:=w1) (W:=w1.alloc (.cells #[node,.int .i64 0,.slice none 0 0,.slice none 0 0] 154)) (node:=node) (x:=w1.heap.size) (by go_grown) (Blk.fresh w1 _ _ _ rfl) (Nat.le_refl _) 34);rw[show(w1.alloc (.cells #[node,.int .i64 0,.slice none 0 0,.slice none 0 0] 154)).heap.size=w1.heap.size+1 by simp] at HB0
 have HK0:Hid (Both node w1.heap.size w1 ⟨node,0,[],[]⟩ _ _ _):=qq ⟨rfl,rfl,rfl,HG0.out,room_new node,(fun a h=>by cases h),HB0.out⟩;clear HB0;go_wp2_with fail;go_loopw [37] (fun cc wr=>∃k:Nat,k≤N∧cc=.int .i64 (k:Int)∧Hid (∃S L R,Both node w1.heap.size w1 S L R wr)) (fun cc _=>N - (intOf cc).toNat)
 case atStart=>exact⟨0,by omega,by first | rfl | go_num,qq ⟨_,_,_,HK0.out⟩⟩
 case round=>
  obtain⟨k,hk,rfl,⟨S,L,R,hKP⟩⟩:=hrel;have HK:=qq hKP;have hk0:(0:Int)≤(k:Int):=by omega
  have HBW:=qq (below_then HB1.out hKP.bu.be);have hwr:=HBW.out.size;have hwr1:=hKP.bu.be.size;have HSB:=qq hKP.lb;have HRB:=qq hKP.rb;clear hKP;by_cases hlt:k<N
  · as_aux_lemma=>
    have hk1:(k:Int)<(N:Int):=by omega
    have hil:k<fs.length:=by have:=HNN.out;omega
    obtain⟨f,hf⟩:∃f,f=fs[k]:=⟨_,rfl⟩
    have hmem:f∈fs:=by rw[hf];exact List.getElem_mem hil
    obtain⟨b,off,rfl,hbl,hcs⟩:=HRF.out (by intro e;rw[e] at hil;cases hil);have hfa:=(hcs k hil).below HBW.out hbl;rw[←hf] at hfa;have HX:=qq (HF.out f hmem);obtain⟨k',an,aq,rg,nd,pt,pr,oc,dp,pa,st,hw,de,ex⟩:=f;unfold FactAt at hfa;obtain⟨c0,c1,c2,c3,c4,c5,c6,c7,c8,c9,c10,c11,c12,c13⟩:=hfa;dsimp only at c0 c1 c2 c3 c4 c5 c6 c7 c8 c9 c10 c11 c12 c13
    have hb2:=(Below.refl wr.heap.size wr).alloc (Nat.le_refl _) (.cells #[k',an,aq,rg,nd,pt,pr,oc,dp,pa,st,hw,de,.float .f64 ex] 39);have HK2:=qq (HK.out.below hb2);have KF2:=qq (Blk.fresh wr #[k',an,aq,rg,nd,pt,pr,oc,dp,pa,st,hw,de,.float .f64 ex] 39 _ rfl);have hbw:b<wr.heap.size:=by omega
    have HLF:Hid (∀j∈L.foot,j<wr.heap.size):=qq HK.out.bu.st.lt;have HRFT:Hid (∀j∈R.foot,j<wr.heap.size):=qq HK.out.bu.rs.lt;clear hf hmem hcs hil hlt hb2;rw[←HRB.out,←HSB.out];go_wp2_with fail;obtain⟨w2,hw2⟩:∃x,x=wr.alloc (.cells #[k',an,aq,rg,nd,pt,pr,oc,dp,pa,st,hw,de,.float .f64 ex] 39):=⟨_,rfl⟩
    obtain⟨fb,hfb⟩:∃x,x=wr.heap.size:=⟨_,rfl⟩
    have hz2:w2.heap.size=fb+1:=by rw[hw2,hfb];simp
    simp only[←hw2,←hfb] at*;clear c0 c1 c2 c3 c4 c5 c6 c7 c8 c9 c10 c11 c12 c13;have hap:=apply_of L S ⟨k',an,aq,rg,nd,pt,pr,oc,dp,pa,st,hw,de,ex⟩ ea w2 HX.out (envG_of (HEN.out w (Below.refl _ _)) (below_then HB1.out HK2.out.bu.be) (fun j hj=>by have:=HK2.out.bu.nl j hj;omega)) HK2.out.bu.st HK2.out.good;simp only[factV,factC,ApplyEnds] at hap;refine hap.mono ?_;clear hap;rintro e w3 ⟨rfl,hsg⟩
    obtain⟨L3,hL3,hHalf,hz3,hkp⟩:=HK2.out.bu.first hsg;have HH:=qq hHalf;have HL3:=qq hL3;have KF3:=qq (KF2.out.same hz3 (hkp _ KF2.out.lt (fun hjl=>by have h2:=HLF.out _ hjl;omega)));clear hsg hL3 hHalf hkp KF2;obtain⟨lf,qf,ff⟩:=KF3.out;go_wp2_with fail;have hap:=rapply_of R S ⟨k',an,aq,rg,nd,pt,pr,oc,dp,pa,st,hw,de,ex⟩ w3 HX.out HH.out.rs HK2.out.good;simp only[factV,factC,RApplyEnds] at hap
    refine hap.mono ?_;clear hap;rintro e w4 ⟨rfl,hsg⟩;obtain⟨R4,hR4,hbu⟩:=HH.out.second hsg;have HK4:Hid (Both node w1.heap.size w1 (sapply S ⟨k',an,aq,rg,nd,pt,pr,oc,dp,pa,st,hw,de,ex⟩).1 L3 R4 w4):=qq ⟨HL3.out.trans HK2.out.lb,hR4.trans HK2.out.rb,(sapply_node _ _).trans HK2.out.node,sapply_good HK2.out.good,room_apply HK2.out.good HK2.out.room,ex_apply HK2.out.ex HX.out,hbu⟩
    clear hsg hR4 hbu qf ff lf;go_wp2_with fail;go_roundw
    case rel=>exact⟨k+1,by omega,by go_num,qq ⟨_,_,_,by have h:=HK4.out;rw[←HSB.out] at h;exact h⟩⟩
    case measure=>simp[intOf];omega
  · obtain rfl:N=k:=by omega
    have KMW:=qq (KM1.out.below HK.out.bu.be);have HLF:Hid (∀j∈L.foot,j<wr.heap.size):=qq HK.out.bu.st.lt;rw[←HRB.out,←HSB.out];clear hlt;go_wp2_with fail;refine(facts_of L S wr HK.out.bu.st HK.out.good).mono ?_;rintro e w3 ⟨fa,fc,rfl,hrow,hb3⟩;have HK3:=qq (HK.out.below hb3);have KM3:=qq (KMW.out.below hb3);have HR3:=qq (read_row hrow).1;have hlen:(sfacts S).length≤200:=sfacts_len HK.out.good
    have hz3:=hb3.size;obtain⟨nf,hnf⟩:∃x,x=(sfacts S).length:=⟨_,rfl⟩
    have HNF:=qq hnf;rw[←hnf] at HR3 hlen⊢;clear hrow hb3 hnf HK KMW;go_wp2_with fail;refine(rfacts_of R S w3 HK3.out.bu.rs HK3.out.good).mono ?_;rintro e w4 ⟨ga,gc,rfl,hrow,hb4⟩;have HK4:=qq (HK3.out.below hb4);have KM4:=qq (KM3.out.below hb4);have HR4:=qq (rf_be HR3.out hb4);have HQ4:=qq (read_rowR hrow).1;have hz4:=hb4.size;rw[←HNF.out] at HQ4⊢
    have HXF:=qq (sfacts_ok HK4.out.good HK4.out.room HK4.out.ex);have hnn:((nf:Int) !=(nf:Int))=false:=by simp
    clear hrow hb4 HK3 KM3 HR3;go_wp2_with fail;go_loopw [59] (fun cc wr=>∃j:Nat,j≤nf∧cc=.int .i64 (j:Int)∧Hid (Below w4.heap.size w4 wr)) (fun cc _=>nf - (intOf cc).toNat)
    case atStart=>exact⟨0,by omega,by first | rfl | go_num,qq (Below.refl _ _)⟩
    case round=>
     obtain⟨j,hj,rfl,HBP⟩:=hrel;have hj0:(0:Int)≤(j:Int):=by omega
     by_cases hjt:j<nf
     · as_aux_lemma=>
       have hj1:(j:Int)<(nf:Int):=by omega
       have hil:j<(sfacts S).length:=by have:=HNF.out;omega
       have hne:sfacts S≠[]:=by intro e;rw[e] at hil;cases hil
       obtain⟨f,hf⟩:∃f,f=(sfacts S)[j]:=⟨_,rfl⟩
       have hmem:f∈sfacts S:=by rw[hf];exact List.getElem_mem hil
       obtain⟨a3,c3,hv3,hcs3⟩:=HR4.out;obtain⟨a4,c4,hv4,hcs4⟩:=HQ4.out;simp only[Value.slice.injEq] at hv3 hv4;obtain⟨rfl,-,rfl⟩:=hv3;obtain⟨rfl,-,rfl⟩:=hv4;obtain⟨b3,o3,rfl,hl3,hc3⟩:=hcs3 hne;obtain⟨b4,o4,rfl,hl4,hc4⟩:=hcs4 hne;have h3:=hc3 j hil;have h4:=hc4 j hil;rw[←hf] at h3 h4;have HX:=qq (HXF.out f hmem).2;have HSA:=qq (fun W=>rsame14_self f HX.out W);have h3':=h3.below HBP.out hl3
       have HWT:=qq (fun W (hW:Below w4.heap.size w4 W)=>h4.below hW hl4);obtain⟨k',an,aq,rg,nd,pt,pr,oc,dp,pa,st,hw,de,ex⟩:=f;simp only[factV,factC] at HSA;unfold FactAt at h3' HWT;obtain⟨c0,c1,c2,c3',c4',c5,c6,c7,c8,c9,c10,c11,c12,c13⟩:=h3';dsimp only at c0 c1 c2 c3' c4' c5 c6 c7 c8 c9 c10 c11 c12 c13 HWT;have hz3':b3<wr.heap.size:=Nat.lt_of_lt_of_le hl3 HBP.out.size
       have KV:=qq (Blk.fresh wr #[k',an,aq,rg,nd,pt,pr,oc,dp,pa,st,hw,de,.float .f64 ex] 39 _ rfl);have HBV:=qq (bel_alloc HBP.out (.cells #[k',an,aq,rg,nd,pt,pr,oc,dp,pa,st,hw,de,.float .f64 ex] 39));clear hf hmem hcs3 hcs4 hc3 hc4 h3 h4 hil hne hjt;go_wp2_with fail
       refine reg_startZ (fun w'=>Blk w' wr.heap.size #[k',an,aq,rg,nd,pt,pr,oc,dp,pa,st,hw,de,.float .f64 ex]∧Below w4.heap.size w4 w') (fun _=>True) (by kernel_rfl) ⟨KV.out.drew,bel_drew HBV.out⟩ True.intro (fun _=>false) ?_;rintro w7 hHeld -;clear c0 c1 c2 c3' c4' c5 c6 c7 c8 c9 c10 c11 c12 c13
       refine takeX (d:=some 64) 0 rfl rfl hHeld (fun w' hS'=>by have qA:=hS'.1.cell;clear hS';go_simp;(try rfl)) ?_;simp only[puts];refine takeX (d:=some 65) 1 rfl rfl hHeld (fun w' hS'=>by clear hS';go_simp;(try rfl)) ?_;simp only[puts];refine takeX (d:=some 66) 2 rfl rfl hHeld (fun w' hS'=>by clear hS';go_simp;(try rfl)) ?_;simp only[puts]
       refine takeX (d:=some 67) 3 rfl rfl hHeld (fun w' hS'=>by clear hS';go_simp;(try rfl)) ?_;simp only[puts];refine takeX (d:=some 68) 4 rfl rfl hHeld (fun w' hS'=>by obtain⟨x0,x1,x2,x3,x4,x5,x6,x7,x8,x9,x10,x11,x12,x13⟩:=HWT.out _ hS'.2;clear hS';go_simp;(try rfl)) ?_;simp only[puts]
       refine call_Z (d:=some 69) 5 35 _ _ [.agg #[k',an,aq,rg,nd,pt,pr,oc,dp,pa,st,hw,de,.float .f64 ex],.agg #[k',an,aq,rg,nd,pt,pr,oc,dp,pa,st,hw,de,.float .f64 ex]] rfl rfl rfl (enters_of Tryz.func35 (by kernel_rfl) rfl) (by rfl) (by rfl) ?_;refine(HSA.out _).mono ?_;rintro e w8 ⟨rfl,hb8⟩
       replace hHeld:Blk w8 wr.heap.size #[k',an,aq,rg,nd,pt,pr,oc,dp,pa,st,hw,de,.float .f64 ex]∧Below w4.heap.size w4 w8:=⟨hHeld.1.below hb8,below_then hHeld.2 hb8⟩
       clear hb8;refine⟨_,rfl,.inr hHeld,?_⟩;simp only[puts];refine takeX (d:=some 70) 6 rfl rfl hHeld (fun w' hS'=>by clear hS';go_simp;(try rfl)) ?_;simp only[puts];refine doneX (by kernel_rfl) ?_ _;have HBE:=qq hHeld.2;clear hHeld;go_wp2_with fail;go_roundw
       case rel=>exact⟨j+1,by omega,by go_num,HBE⟩
       case measure=>simp[intOf];omega
     · obtain rfl:nf=j:=by omega
       have HK5:=qq (HK4.out.below HBP.out);have KM5:=qq (KM4.out.below HBP.out);have HR5:=qq (rf_be HR4.out HBP.out);have hz5:=HBP.out.size;clear hjt HK4 KM4 HR4 HQ4;go_wp2_with fail;refine(rows_of fa nf fc (sfacts S) ea wr (HEN.out _ (below_then HB1.out HK5.out.bu.be)) HNF.out HR5.out HXF.out (by omega)).mono ?_;rintro e w6 ⟨ra,rc,rfl,hrows,hb6⟩;have HK6:=qq (HK5.out.below hb6)
       have KM6:=qq (KM5.out.below hb6);have hz6:=hb6.size;have HRP:=qq (replay_of node ra ((sfacts S).map bytesF) rc ea w6 (HEN.out _ (below_then HB1.out HK6.out.bu.be)) HND.out hrows (fun r hr=>by
         obtain⟨f,hf,rfl⟩:=List.mem_map.1 hr;exact bytesF_len (HXF.out f hf).1 (HXF.out f hf).2) (by rw[List.length_map,←HNF.out];omega))
       rw[List.length_map,←HNF.out] at HRP;have HSR:Hid (sreplay ⟨node,0,[],[]⟩ ((sfacts S).map bytesF)=some S):=qq (by have h:=sreplay_rows HK6.out.good HK6.out.room HK6.out.ex;rw[HK6.out.node] at h;exact h);clear hrows hb6 HK5 KM5 HR5 HBP;go_wp2_with fail;refine HRP.out.mono ?_;rintro e w7 ⟨hyes,-⟩;obtain⟨L2,rfl,hS2,hf2,hb7⟩:=hyes S HSR.out;have HK7:=qq (HK6.out.below hb7)
       have KM7:=qq (KM6.out.below hb7);have HS2:=qq hS2;have HF2:=qq hf2;have hz7:=hb7.size;clear hyes hS2 hf2 hb7 HK6 KM6 HRP;go_wp2_with fail;refine(ssame_of L L2 S w7 HK7.out.bu.st HS2.out HK7.out.good HK7.out.ex).mono ?_;rintro e w8 ⟨rfl,hb8⟩;have HK8:=qq (HK7.out.below hb8);have KM8:=qq (KM7.out.below hb8);have HS8:=qq (HS2.out.below hb8);have hz8:=hb8.size;have HLT2:=qq HS2.out.lt
       clear hb8 HK7 KM7;go_wp2_with fail;refine(same15_of L2 R S w8 HS8.out HK8.out.bu.rs HK8.out.good).mono ?_;rintro e w9 ⟨rfl,hb9⟩;have HK9:=qq (HK8.out.below hb9);have KM9:=qq (KM8.out.below hb9);have HS9:=qq (HS8.out.below hb9);have hz9:=hb9.size;have HW9:=qq (below_then HB1.out HK9.out.bu.be);clear hb9 HK8 KM8 HS8
       have HNM:=qq (sapply_numZ S ⟨km,anm,aqm,rgm,ndm,ptm,prm,ocm,dpm,pam,stm,hwm,dem,exm⟩);have HG9:=qq HK9.out.good;have HX9:=qq HK9.out.ex;have HLF9:=qq HK9.out.bu.nl;go_wp2_with fail
       refine reg_startZ (fun w'=>Blk w' w.heap.size #[km,anm,aqm,rgm,ndm,ptm,prm,ocm,dpm,pam,stm,hwm,dem,.float .f64 exm]∧Below w.heap.size w w') (fun w'=>StoreAt L S w'∧StoreAt L2 S w'∧w9.heap.size≤w'.heap.size) (by kernel_rfl) ⟨KM9.out.drew,bel_drew HW9.out⟩ ⟨HK9.out.bu.st.below (bel_drew (Below.refl _ _)),HS9.out.below (bel_drew (Below.refl _ _)),Nat.le_refl _⟩ (fun _=>false) ?_
       rintro w10 hHeld ⟨hst,hs2,hz10⟩;have HST:=qq hst;have HS10:=qq hs2;clear hst hs2;refine takeX (d:=some 99) 0 rfl rfl hHeld (fun w' hS'=>by clear hS';go_simp;(try rfl)) ?_;simp only[puts];refine takeX (d:=some 100) 1 rfl rfl hHeld (fun w' hS'=>by have qA:=hS'.1.cell;clear hS';go_simp;(try rfl)) ?_;simp only[puts]
       refine takeX (d:=some 102) 3 rfl rfl hHeld (fun w' hS'=>by clear hS';go_simp;(try rfl)) ?_;simp only[puts];refine takeX (d:=some 103) 4 rfl rfl hHeld (fun w' hS'=>by have qA:=hS'.1.cell;clear hS';go_simp;(try rfl)) ?_;simp only[puts]
       refine call_Z (d:=some 101) 2 21 _ _ [.pointer (some ⟨L.sb,0,none⟩),.agg #[km,anm,aqm,rgm,ndm,ptm,prm,ocm,dpm,pam,stm,hwm,dem,.float .f64 exm]] rfl rfl rfl (enters_of Tryz.func21 (by kernel_rfl) rfl) (by rfl) (by rfl) ?_
       have hap:=apply_of L S ⟨km,anm,aqm,rgm,ndm,ptm,prm,ocm,dpm,pam,stm,hwm,dem,exm⟩ ea w10 HXM.out (envG_of (HEN.out w (Below.refl _ _)) hHeld.2 (fun j hj=>by have:=HLF9.out j hj;omega)) HST.out HG9.out;simp only[factV,factC,ApplyEnds] at hap;refine hap.mono ?_;clear hap;rintro e w11 ⟨rfl,L3,hL3,hS3,hgo⟩;have HS3:=qq hS3;have HL3:=qq hL3
       have HS11:Hid (StoreAt L2 S w11):=qq (HS10.out.keep hgo.size (fun j hj=>hgo.block j (HS10.out.lt j hj) (fun hjl=>by have h1:=HF2.out j hj;have h2:=HLF.out j hjl;omega)));have HAP3:Hid (∀j∈L3.foot,j∉L2.foot):=qq (fun j hj hj2=>(hgo.new j hj).elim (fun h=>by have h1:=HF2.out j hj2;have h2:=HLF.out j h;omega) (fun h=>by have h1:=HS10.out.lt j hj2;omega));have hz11:=hgo.size
       replace hHeld:Blk w11 w.heap.size #[km,anm,aqm,rgm,ndm,ptm,prm,ocm,dpm,pam,stm,hwm,dem,.float .f64 exm]∧Below w.heap.size w w11:=⟨hHeld.1.same hgo.size (hgo.block _ hHeld.1.lt (fun hjl=>by have h2:=HLF9.out _ hjl;omega)),hHeld.2.trans (hgo.below (fun j hj=>by have h2:=HLF9.out _ hj;omega) hHeld.2.size)⟩
       clear hgo hS3 hL3 HST HS10;refine⟨_,rfl,.inr hHeld,?_⟩;simp only[puts];refine call_Z (d:=some 104) 5 21 _ _ [.pointer (some ⟨L2.sb,0,none⟩),.agg #[km,anm,aqm,rgm,ndm,ptm,prm,ocm,dpm,pam,stm,hwm,dem,.float .f64 exm]] rfl rfl rfl (enters_of Tryz.func21 (by kernel_rfl) rfl) (by rfl) (by rfl) ?_
       have hap:=apply_of L2 S ⟨km,anm,aqm,rgm,ndm,ptm,prm,ocm,dpm,pam,stm,hwm,dem,exm⟩ ea w11 HXM.out (envG_of (HEN.out w (Below.refl _ _)) hHeld.2 (fun j hj=>by have:=HF2.out j hj;omega)) HS11.out HG9.out;simp only[factV,factC,ApplyEnds] at hap;refine hap.mono ?_;clear hap;rintro e w12 ⟨rfl,L4,hL4,hS4,hgo⟩;have HS4:=qq hS4;have HL4:=qq hL4
       have HS12:Hid (StoreAt L3 (sapply S ⟨km,anm,aqm,rgm,ndm,ptm,prm,ocm,dpm,pam,stm,hwm,dem,exm⟩).1 w12):=qq (HS3.out.keep hgo.size (fun j hj=>hgo.block j (HS3.out.lt j hj) (fun hjl=>HAP3.out j hj hjl)))
       replace hHeld:Blk w12 w.heap.size #[km,anm,aqm,rgm,ndm,ptm,prm,ocm,dpm,pam,stm,hwm,dem,.float .f64 exm]∧Below w.heap.size w w12:=⟨hHeld.1.same hgo.size (hgo.block _ hHeld.1.lt (fun hjl=>by have h2:=HF2.out _ hjl;omega)),hHeld.2.trans (hgo.below (fun j hj=>by have h2:=HF2.out _ hj;omega) hHeld.2.size)⟩
       clear hgo hS4 hL4 HS3 HS11;refine⟨_,rfl,.inr hHeld,?_⟩;simp only[puts];refine takeX (d:=some 18) 6 rfl rfl hHeld (fun w' hS'=>by clear hS';go_simp;(try rfl)) ?_;simp only[puts];refine takeX (d:=some 19) 7 rfl rfl hHeld (fun w' hS'=>by clear hS';go_simp;(try rfl)) ?_;simp only[puts];refine doneX (by kernel_rfl) ?_ _;have HBE:=qq hHeld.2;clear hHeld
       have HGT:=qq (sapply_good (f:=⟨km,anm,aqm,rgm,ndm,ptm,prm,ocm,dpm,pam,stm,hwm,dem,exm⟩) HG9.out);have HXT:=qq (ex_apply (f:=⟨km,anm,aqm,rgm,ndm,ptm,prm,ocm,dpm,pam,stm,hwm,dem,exm⟩) HX9.out HXM.out);obtain⟨T,hT⟩:∃T,T=(sapply S ⟨km,anm,aqm,rgm,ndm,ptm,prm,ocm,dpm,pam,stm,hwm,dem,exm⟩).1:=⟨_,rfl⟩
       obtain⟨en,hen⟩:∃en,en=(sapply S ⟨km,anm,aqm,rgm,ndm,ptm,prm,ocm,dpm,pam,stm,hwm,dem,exm⟩).2:=⟨_,rfl⟩
       simp only[←hT] at HS4 HS12 HGT HXT;simp only[←hen] at HNM⊢;clear hT hen;have hee:(en==en)=true:=by simp
       go_wp2_with fail;refine(num_of en HNM.out ea w12 (HEN.out _ HBE.out)).mono ?_;rintro e w13 ⟨rfl,hb13⟩;have HB13:=qq (below_then HBE.out hb13);have HS13:=qq (HS12.out.below hb13);have HT13:=qq (HS4.out.below hb13);clear hb13 HS12 HS4;go_wp2_with fail;refine(num_of en HNM.out ea w13 (HEN.out _ HB13.out)).mono ?_;rintro e w14 ⟨rfl,hb14⟩;have HB14:=qq (below_then HB13.out hb14)
       have HSM:=qq (ssame_of L3 L4 T w14 (HS13.out.below hb14) (HT13.out.below hb14) HGT.out HXT.out);rw[HL3.out,HL4.out] at HSM;clear hb14;go_wp2_with fail;refine HSM.out.mono ?_;rintro e w15 ⟨rfl,hb15⟩;go_wp2_with fail;go_ret;exact⟨rfl,below_then HB14.out hb15⟩
theorem law_sfacts (node:Int) (v:Value) (fs:List SFact) (km anm aqm rgm ndm ptm prm ocm dpm pam stm hwm dem:Int) (exm:Nat) (ea:Int→Addr) (w:World) (hE:EnvS ea w) (hR:ReadFacts w v fs) (hF:∀f∈fs,F64 f.ex) (hxm:F64 exm):Calls Tryz.prog 7 #[.int .i64 node,v,.agg #[km,anm,aqm,rgm,ndm,ptm,prm,ocm,dpm,pam,stm,hwm,dem,.float .f64 exm]] w (Makes (.bool true) w):=by
 have hR':=hR;obtain⟨a,cap,rfl,-⟩:=hR';by_cases hn:fs.length≤100
 · by_cases hnd:0≤node∧node≤3
   · exact law_sfacts_go node a cap _ fs km anm aqm rgm ndm ptm prm ocm dpm pam stm hwm dem exm ea w hE rfl hR hF hxm hn hnd
   · have HB0:Hid (Below w.heap.size w (w.alloc (.cells #[km,anm,aqm,rgm,ndm,ptm,prm,ocm,dpm,pam,stm,hwm,dem,.float .f64 exm] 39))):=qq ((Below.refl _ _).alloc (Nat.le_refl _) _);have HAL:=qq (fun W (hW:Below w.heap.size w W)=>alive15_of ea W (hE.below hW));have HN:=qq (fun W (hW:Below w.heap.size w W)=>snew_no node ea W (hE.below hW) hnd);obtain⟨N,hN⟩:∃n,n=fs.length:=⟨_,rfl⟩
     rw[←hN] at hn⊢;have d1:¬(100:Int)<(N:Int):=by omega
     clear hE hR hF hxm hN hnd;go_enter Tryz.func7,Tryz.ntmps7;go_wp2_with fail;refine(HAL.out _ HB0.out).mono ?_;rintro e w1 ⟨rfl,hb1⟩;replace hb1:=below_then HB0.out hb1;go_wp2_with fail;refine(HN.out _ hb1).mono ?_;rintro e w2 ⟨rfl,hb2⟩;have B2:=below_then hb1 hb2;go_wp2_with fail;go_ret;exact⟨rfl,B2⟩
 · have HB0:Hid (Below w.heap.size w (w.alloc (.cells #[km,anm,aqm,rgm,ndm,ptm,prm,ocm,dpm,pam,stm,hwm,dem,.float .f64 exm] 39))):=qq ((Below.refl _ _).alloc (Nat.le_refl _) _);have HAL:=qq (fun W (hW:Below w.heap.size w W)=>alive15_of ea W (hE.below hW));obtain⟨N,hN⟩:∃n,n=fs.length:=⟨_,rfl⟩
   rw[←hN] at hn⊢;have d1:(100:Int)<(N:Int):=by omega
   clear hE hR hF hxm hN hn;go_enter Tryz.func7,Tryz.ntmps7;go_wp2_with fail;refine(HAL.out _ HB0.out).mono ?_;rintro e w1 ⟨rfl,hb1⟩;replace hb1:=below_then HB0.out hb1;go_wp2_with fail;go_ret;exact⟨rfl,hb1⟩
open Go.ChangeShapes Go.WideShapes Go.ChangeAt Go.WideMaps Go.WideElems Go.RowKit Go.Joins
theorem trod_f64 {H:Type} {P:Program} {w:World} {t:TypeId} {fuel:Nat} {base:Nat} {enc:TypeId×Value→H} {spare:Nat→Bool} {held:Bool} {v:Value} {x:DataW H×List MemPlace} (ht:P.underlying t=some (.float .f64)) (h:DataW.trod enc P w base spare held fuel t [v]=some x):∃b,v=.float .f64 b∧F64 b:=by
 cases fuel with
 | zero=>simp[DataW.trod] at h
 | succ n=>
  unfold DataW.trod at h;rw[ht] at h;split at h<;>simp_all
  rename_i k k' b he
  subst he;simpa[Lit.wf,F64] using h.1.2
open Go.RowKit Go.Deep Go.ChangeShapes Go.WideShapes Go.ChangeAt Go.WideMaps Go.WideElems
theorem fact_list_of {α:Type} {C:Nat→α→Prop}:∀n,(∀i,i<n→∃o,C i o)→∃l:List α,l.length=n∧∀i (h:i<l.length),C i l[i]
 | 0,_=>⟨[],rfl,fun i h=>absurd h (by simp)⟩
 | n+1,h=>by
  obtain⟨l,hl,hc⟩:=fact_list_of n (fun i hi=>h i (by omega));obtain⟨o,ho⟩:=h n (by omega);refine⟨l ++ [o],by simp[hl],fun i hi=> ?_⟩;by_cases hlt:i<l.length
  · rw[List.getElem_append_left hlt];exact hc i hlt
  · have:i=n:=by simp at hi;omega
    subst this;rw[List.getElem_append_right (by omega)];simpa[hl] using ho
theorem open_facts {H:Type} {enc:TypeId×Value→H} {W:World} {a0:Option Addr} {len cap:Nat} {d:DataW H} {p:List MemPlace} {sp:Nat→Bool} (h:DataW.Trod enc Tryz.prog W 0 sp true 22 (.slice a0 len cap) d p):∃fs,ReadFacts W (.slice a0 len cap) fs∧∀f∈fs,F64 f.ex:=by
 obtain⟨fuel,hf⟩:=h;rcases open_slice Tryz.underlying22 hf with⟨hcs,hx⟩ | ⟨a,len',cap',m,n,D,Pl,hcs,hb,hl,hm,hmm,hx,hall⟩
 · simp[Value.cells] at hcs;obtain⟨rfl,rfl,rfl⟩:=hcs;exact⟨[],⟨none,0,rfl,fun h=>absurd rfl h⟩,by simp⟩
 · simp[Value.cells] at hcs;obtain⟨rfl,rfl,rfl⟩:=hcs;have hlm:len≤m:=by rw[hmm];split<;>omega
   have each:∀i,i<len→∃o:SFact,W.cell? (a.add (i*14))=some (.int .i64 o.k)∧W.cell? (a.add (i*14+1))=some (.int .i64 o.an)∧W.cell? (a.add (i*14+2))=some (.int .i64 o.aq)∧W.cell? (a.add (i*14+3))=some (.int .i64 o.rg)∧W.cell? (a.add (i*14+4))=some (.int .i64 o.nd)∧W.cell? (a.add (i*14+5))=some (.int .i64 o.pt)∧W.cell? (a.add (i*14+6))=some (.int .i64 o.pr)∧W.cell? (a.add (i*14+7))=some (.int .i64 o.oc)∧W.cell? (a.add (i*14+8))=some (.int .i64 o.dp)∧W.cell? (a.add (i*14+9))=some (.int .i64 o.pa)∧W.cell? (a.add (i*14+10))=some (.int .i64 o.st)∧W.cell? (a.add (i*14+11))=some (.int .i64 o.hw)∧W.cell? (a.add (i*14+12))=some (.int .i64 o.de)∧W.cell? (a.add (i*14+13))=some (.float .f64 o.ex)∧F64 o.ex:=by
    intro i hi;obtain⟨cs',h1,h2⟩:=hall i (by omega);rw[show Tryz.prog.cellsOf 39=14 by kernel_rfl] at h1;obtain⟨_,hlen,hcell⟩:=World.cells?_some h1;obtain⟨xs,k,hk,hxy,_,hxl,hfs⟩:=DataW.trod_struct Tryz.underlying39 h2
    match xs,hxl,cs',hlen with
    | [y0,y1,y2,y3,y4,y5,y6,y7,y8,y9,y10,y11,y12],_,[v0,v1,v2,v3,v4,v5,v6,v7,v8,v9,v10,v11,v12,v13],_=>
     have g0:=hfs 0 _ rfl;have g1:=hfs 1 _ rfl;have g2:=hfs 2 _ rfl;have g3:=hfs 3 _ rfl;have g4:=hfs 4 _ rfl;have g5:=hfs 5 _ rfl;have g6:=hfs 6 _ rfl;have g7:=hfs 7 _ rfl;have g8:=hfs 8 _ rfl;have g9:=hfs 9 _ rfl;have g10:=hfs 10 _ rfl;have g11:=hfs 11 _ rfl;have g12:=hfs 12 _ rfl
     simp[show Tryz.prog.cellsOf 3=1 by kernel_rfl,show Tryz.prog.cellsOf 37=1 by kernel_rfl,show Tryz.prog.cellsOf 36=2 by kernel_rfl] at g0 g1 g2 g3 g4 g5 g6 g7 g8 g9 g10 g11 g12;obtain⟨zs,k2,hk2,_,_,hzl,hgs⟩:=DataW.trod_struct Tryz.underlying36 g1
     match zs,hzl with
     | [z0,z1],_=>
      have ga:=hgs 0 _ rfl;have gb:=hgs 1 _ rfl;simp[show Tryz.prog.cellsOf 3=1 by kernel_rfl] at ga gb;obtain⟨n0,e0,_⟩:=DataW.trod_int Tryz.underlying3 g0;obtain⟨n1,e1,_⟩:=DataW.trod_int Tryz.underlying3 ga;obtain⟨n2,e2,_⟩:=DataW.trod_int Tryz.underlying3 gb;obtain⟨n3,e3,_⟩:=DataW.trod_int Tryz.underlying3 g2;obtain⟨n4,e4,_⟩:=DataW.trod_int Tryz.underlying3 g3
      obtain⟨n5,e5,_⟩:=DataW.trod_int Tryz.underlying3 g4;obtain⟨n6,e6,_⟩:=DataW.trod_int Tryz.underlying3 g5;obtain⟨n7,e7,_⟩:=DataW.trod_int Tryz.underlying3 g6;obtain⟨n8,e8,_⟩:=DataW.trod_int Tryz.underlying3 g7;obtain⟨n9,e9,_⟩:=DataW.trod_int Tryz.underlying3 g8;obtain⟨n10,e10,_⟩:=DataW.trod_int Tryz.underlying3 g9;obtain⟨n11,e11,_⟩:=DataW.trod_int Tryz.underlying3 g10
      obtain⟨n12,e12,_⟩:=DataW.trod_int Tryz.underlying3 g11;obtain⟨n13,e13,hf13⟩:=trod_f64 Tryz.underlying37 g12;simp only[List.cons.injEq,and_true] at e0;simp only[List.cons.injEq,and_true] at e1;simp only[List.cons.injEq,and_true] at e2;simp only[List.cons.injEq,and_true] at e3;simp only[List.cons.injEq,and_true] at e4;simp only[List.cons.injEq,and_true] at e5
      simp only[List.cons.injEq,and_true] at e6;simp only[List.cons.injEq,and_true] at e7;simp only[List.cons.injEq,and_true] at e8;simp only[List.cons.injEq,and_true] at e9;simp only[List.cons.injEq,and_true] at e10;simp only[List.cons.injEq,and_true] at e11;simp only[List.cons.injEq,and_true] at e12
      (try simp only[List.cons.injEq,and_true] at e13)
      subst e0 e1 e2 e3 e4 e5 e6 e7 e8 e9 e10 e11 e12 e13;have c0:=hcell 0 (by omega);have c1:=hcell 1 (by omega);have c2:=hcell 2 (by omega);have c3:=hcell 3 (by omega);have c4:=hcell 4 (by omega);have c5:=hcell 5 (by omega);have c6:=hcell 6 (by omega);have c7:=hcell 7 (by omega);have c8:=hcell 8 (by omega);have c9:=hcell 9 (by omega);have c10:=hcell 10 (by omega);have c11:=hcell 11 (by omega)
      have c12:=hcell 12 (by omega);have c13:=hcell 13 (by omega);rw[add_add] at c0 c1 c2 c3 c4 c5 c6 c7 c8 c9 c10 c11 c12 c13
      exact⟨⟨n0,n1,n2,n3,n4,n5,n6,n7,n8,n9,n10,n11,n12,n13⟩,by simpa using c0,by simpa using c1,by simpa using c2,by simpa using c3,by simpa using c4,by simpa using c5,by simpa using c6,by simpa using c7,by simpa using c8,by simpa using c9,by simpa using c10,by simpa using c11,by simpa using c12,by simpa using c13,hf13⟩
   obtain⟨fs,hlen,hc⟩:=fact_list_of len each;subst hlen;refine⟨fs,⟨some a,cap,rfl,fun hne=> ?_⟩,fun f hf=> ?_⟩
   · have h0:0<fs.length:=List.length_pos_iff.2 hne;have hs0:a.spot=none:=by simpa[Addr.add] using World.cell?_spot (hc 0 h0).1
     obtain⟨b,off,spot⟩:=a;have hsp:spot=none:=hs0;subst hsp;have hlt:=World.block_lt_of_cell? W _ (hc 0 h0).1;refine⟨b,off,rfl,by simpa[Addr.add] using hlt,fun i hi=> ?_⟩;obtain⟨c0,c1,c2,c3,c4,c5,c6,c7,c8,c9,c10,c11,c12,c13,_⟩:=hc i hi;simp only[Addr.add_lit] at c0 c1 c2 c3 c4 c5 c6 c7 c8 c9 c10 c11 c12 c13;exact⟨c0,c1,c2,c3,c4,c5,c6,c7,c8,c9,c10,c11,c12,c13⟩
   · obtain⟨j,hj,rfl⟩:=List.getElem_of_mem hf;exact(hc j hj).2.2.2.2.2.2.2.2.2.2.2.2.2.2
theorem open_fact {H:Type} {enc:TypeId×Value→H} {W:World} {v:Value} {r:Reach} {b0:Nat} {d:DataW H} {p:List MemPlace} {sp:Nat→Bool} (hv:Value.okWide Tryz.prog W r b0 39 v) (h:DataW.Trod enc Tryz.prog W 0 sp true 39 v d p):∃(n0:Int) (n1:Int) (n2:Int) (n3:Int) (n4:Int) (n5:Int) (n6:Int) (n7:Int) (n8:Int) (n9:Int) (n10:Int) (n11:Int) (n12:Int) (x13:Nat),v=.agg #[n0,n1,n2,n3,n4,n5,n6,n7,n8,n9,n10,n11,n12,.float .f64 x13]∧F64 x13:=by
 obtain⟨cs,rfl,hsz⟩:=okWide_struct Tryz.underlying39 hv;obtain⟨l⟩:=cs
 match l,hsz.trans (show Tryz.prog.cellsOf 39=14 by kernel_rfl) with
 | [v0,v1,v2,v3,v4,v5,v6,v7,v8,v9,v10,v11,v12,v13],_=>
  obtain⟨fuel,hf⟩:=h;obtain⟨xs0,k0,hk0,hxy0,_,hxl0,hfs0⟩:=DataW.trod_struct Tryz.underlying39 hf
  match xs0,hxl0 with
  | [y0_0,y0_1,y0_2,y0_3,y0_4,y0_5,y0_6,y0_7,y0_8,y0_9,y0_10,y0_11,y0_12],_=>
   have g0_0:=hfs0 0 _ rfl;have g0_1:=hfs0 1 _ rfl;have g0_2:=hfs0 2 _ rfl;have g0_3:=hfs0 3 _ rfl;have g0_4:=hfs0 4 _ rfl;have g0_5:=hfs0 5 _ rfl;have g0_6:=hfs0 6 _ rfl;have g0_7:=hfs0 7 _ rfl;have g0_8:=hfs0 8 _ rfl;have g0_9:=hfs0 9 _ rfl;have g0_10:=hfs0 10 _ rfl;have g0_11:=hfs0 11 _ rfl;have g0_12:=hfs0 12 _ rfl
   simp[Value.cells,show Tryz.prog.cellsOf 36=2 by kernel_rfl,show Tryz.prog.cellsOf 37=1 by kernel_rfl,show Tryz.prog.cellsOf 3=1 by kernel_rfl] at g0_0 g0_1 g0_2 g0_3 g0_4 g0_5 g0_6 g0_7 g0_8 g0_9 g0_10 g0_11 g0_12;obtain⟨xs1,k1,hk1,hxy1,_,hxl1,hfs1⟩:=DataW.trod_struct Tryz.underlying36 g0_1
   match xs1,hxl1 with
   | [y1_0,y1_1],_=>
    have g1_0:=hfs1 0 _ rfl;have g1_1:=hfs1 1 _ rfl;simp[Value.cells,show Tryz.prog.cellsOf 3=1 by kernel_rfl] at g1_0 g1_1;obtain⟨z0,e0,_⟩:=DataW.trod_int Tryz.underlying3 g0_0
    (try simp only[List.cons.injEq,and_true] at e0)
    obtain⟨z1,e1,_⟩:=DataW.trod_int Tryz.underlying3 g1_0
    (try simp only[List.cons.injEq,and_true] at e1)
    obtain⟨z2,e2,_⟩:=DataW.trod_int Tryz.underlying3 g1_1
    (try simp only[List.cons.injEq,and_true] at e2)
    obtain⟨z3,e3,_⟩:=DataW.trod_int Tryz.underlying3 g0_2
    (try simp only[List.cons.injEq,and_true] at e3)
    obtain⟨z4,e4,_⟩:=DataW.trod_int Tryz.underlying3 g0_3
    (try simp only[List.cons.injEq,and_true] at e4)
    obtain⟨z5,e5,_⟩:=DataW.trod_int Tryz.underlying3 g0_4
    (try simp only[List.cons.injEq,and_true] at e5)
    obtain⟨z6,e6,_⟩:=DataW.trod_int Tryz.underlying3 g0_5
    (try simp only[List.cons.injEq,and_true] at e6)
    obtain⟨z7,e7,_⟩:=DataW.trod_int Tryz.underlying3 g0_6
    (try simp only[List.cons.injEq,and_true] at e7)
    obtain⟨z8,e8,_⟩:=DataW.trod_int Tryz.underlying3 g0_7
    (try simp only[List.cons.injEq,and_true] at e8)
    obtain⟨z9,e9,_⟩:=DataW.trod_int Tryz.underlying3 g0_8
    (try simp only[List.cons.injEq,and_true] at e9)
    obtain⟨z10,e10,_⟩:=DataW.trod_int Tryz.underlying3 g0_9
    (try simp only[List.cons.injEq,and_true] at e10)
    obtain⟨z11,e11,_⟩:=DataW.trod_int Tryz.underlying3 g0_10
    (try simp only[List.cons.injEq,and_true] at e11)
    obtain⟨z12,e12,_⟩:=DataW.trod_int Tryz.underlying3 g0_11
    (try simp only[List.cons.injEq,and_true] at e12)
    obtain⟨z13,e13,w13⟩:=trod_f64 Tryz.underlying37 g0_12
    (try simp only[List.cons.injEq,and_true] at e13)
    subst e0 e1 e2 e3 e4 e5 e6 e7 e8 e9 e10 e11 e12 e13;exact⟨z0,z1,z2,z3,z4,z5,z6,z7,z8,z9,z10,z11,z12,z13,rfl,w13⟩
open Go.ChangeShapes Go.WideShapes Go.ChangeAt Go.WideMaps Go.WideElems Go.RowKit
theorem Tryz.own:ownKnob Tryz.prog.godebug=none:=by kernel_rfl
theorem Tryz.laidOut:laidOutB Tryz.prog=true:=by kernel_rfl
theorem starE : "*" ++ "errors.errorString" = "*errors.errorString" := by decide
theorem rowE (u : TypeId) (h : Tryz.prog.typeName? 3 u = some "*errors.errorString") : u = 387 :=
 typeName_ptr_named (nm := "errors.errorString") (by rw [starE]; kernel_rfl) (by kernel_rfl) (by decide) u (by rw [starE]; exact h)
theorem cellsE:Tryz.prog.cellsOf 410=1:=by kernel_rfl
theorem cellsS:Tryz.prog.cellsOf 9=1:=by kernel_rfl
structure LaidE where
 num:Int
 name:String
 g:Nat
 text:List UInt8
def LaidE.datum (x : LaidE) : String × DataW Unit := (x.name, .iface "*errors.errorString" (.ptr (.agg [.lit (.string x.text)])))
def LaidE.ok (x:LaidE):Prop:=Tryz.prog.globalNamed x.name=some x.g∧(Tryz.prog.globals[x.g]?).map (·.type)=some 26
theorem sentinels {W : World} : ∀ (L : List LaidE) (ps : List MemPlace), (L.map (·.num)).Nodup → (∀ x ∈ L, x.ok) → DataW.LaidVars Tryz.prog W (L.map LaidE.datum) ps → ps.Nodup →
    (∀b off,MemPlace.cell b off∈ps→(∃c t,W.heap[b]? =some (.cells c t (0,0)))∧∀u v,W.cell? ⟨b,off,none⟩=some (.iface u v)→Value.okWide Tryz.prog W .any 0 u v)→
    ∃ea:Int→Addr,(∀x∈L,ErrIs W x.g (ea x.num)∧MemPlace.cell (ea x.num).block (ea x.num).off∈ps)∧(∀x∈L,∀y∈L,ea x.num=ea y.num→x.num=y.num):=by
 intro L
 induction L with
 | nil=>intro ps _ _ _ _ _;exact⟨fun _=>⟨0,0,none⟩,fun x hx=>by simp at hx,fun x hx=>by simp at hx⟩
 | cons x L ih=>
  intro ps hnum hok h hnd hrows;obtain⟨g0,t0,cs0,f0,p0,q0,hg0,ht0,hv0,hd0,hrest,e0⟩:=h;have hx:=hok x (by simp);obtain rfl:=Option.some.inj (hx.1.symm.trans hg0);obtain rfl:=Option.some.inj (hx.2.symm.trans ht0);subst e0;obtain⟨l0⟩:=cs0;have ok0:∀u v,l0=[.iface u v]→Value.okWide Tryz.prog W .any 0 u v:=fun u v e=>by
   subst e;exact(hrows x.g 0 (by simp[MemPlace.row])).2 u v (by simpa using World.var?_cell hg0 hv0 0)
  obtain⟨a0,s0,rfl,hc0,hs0,hz0,rfl⟩:=errorString_of_trod Tryz.underlying26 rowE Tryz.underlying387 Tryz.underlying410 rfl rfl Tryz.underlying9 cellsE cellsS hd0 ok0;have hn2:=List.nodup_append.1 hnd;obtain⟨ea,h1,h2⟩:=ih q0 (by simpa using(List.nodup_cons.1 hnum).2) (fun y hy=>hok y (by simp[hy])) hrest hn2.2.1 (fun b off hb=>hrows b off (by simp[hb]))
  have hne:∀y∈L,y.num≠x.num:=fun y hy he=>(List.nodup_cons.1 hnum).1 (by
    have:=List.mem_map_of_mem (f:=LaidE.num) hy;rw[he] at this;exact this)
  have hin:MemPlace.cell a0.block a0.off∈MemPlace.row ⟨x.g,0,none⟩ #[Value.iface 387 (.pointer (some a0))].size ++MemPlace.row a0 1:=by simp[MemPlace.row]
  have hcx:ErrIs W x.g a0:=by
   have:=World.var?_cell hg0 hv0 0;simpa[ErrIs] using this
  refine⟨fun m=>if m=x.num then a0 else ea m,fun y hy=> ?_,fun y hy z hz he=> ?_⟩
  · rcases List.mem_cons.1 hy with e | hy'
    · subst e;simp only[if_true];exact⟨hcx,List.mem_append_left _ hin⟩
    · simp only[if_neg (hne y hy')];exact⟨(h1 y hy').1,List.mem_append_right _ (h1 y hy').2⟩
  · rcases List.mem_cons.1 hy with e | hy'<;>rcases List.mem_cons.1 hz with e' | hz'
    · rw[e,e']
    · simp only[e,if_true,if_neg (hne z hz')] at he;have hz2:=(h1 z hz').2;rw[←he] at hz2;exact absurd rfl (hn2.2.2 _ hin _ hz2)
    · simp only[e',if_true,if_neg (hne y hy')] at he;have hy2:=(h1 y hy').2;rw[he] at hy2;exact absurd rfl (hn2.2.2 _ hin _ hy2)
    · simp only[if_neg (hne y hy'),if_neg (hne z hz')] at he;exact h2 y hy' z hz' he
section frame
variable {H:Type} {enc:TypeId×Value→H}
theorem trodAll_below {W W' : World} (hb : Below W.heap.size W W') : ∀ (ts : List TypeId) (vs : List Value) (ds : List (DataW H)) (ps : List MemPlace), (∀ t ∈ ts, Tryz.prog.readableRec t = true ∧ t < Tryz.prog.types.size) →
    DataW.TrodAll enc Tryz.prog W 0 (fun _=>true) true ts vs ds ps→(∀x∈ps,x.block<W.heap.size)→DataW.TrodAll enc Tryz.prog W' 0 (fun b=>decide (b<W.heap.size)) true ts vs ds ps:=by
 intro ts
 induction ts with
 | nil=>
  intro vs ds ps _ h _;obtain⟨rfl,rfl,rfl⟩:=trodAll_nil h;exact trodAll_mk0
 | cons t ts ih=>
  intro vs ds ps hts h hlt;obtain⟨v,vs',d,ds',p,q,rfl,rfl,rfl,hd,hrest⟩:=trodAll_cons h;have h1:=Below.trod Tryz.laidOut (hts t (by simp)).1 (hts t (by simp)).2 hd hb (fun x hx=>hlt x (by simp[hx]));exact trodAll_cons_mk h1 (ih vs' ds' q (fun u hu=>hts u (by simp[hu])) hrest (fun x hx=>hlt x (by simp[hx])))
theorem trodAll_len {W:World} {base:Nat} {sp:Nat→Bool} {held:Bool}:∀{ts:List TypeId} {vs:List Value} {ds:List (DataW H)} {ps:List MemPlace},DataW.TrodAll enc Tryz.prog W base sp held ts vs ds ps→ds.length=ts.length:=by
 intro ts
 induction ts with
 | nil=>
  intro vs ds ps h;obtain⟨rfl,rfl,rfl⟩:=trodAll_nil h;rfl
 | cons t ts ih=>
  intro vs ds ps h;obtain⟨v,vs',d,ds',p,q,rfl,rfl,rfl,hd,hrest⟩:=trodAll_cons h;simp[ih hrest]
theorem frame_post {fn : Func} {s : ChangeSpec} {W W' : World} {args : Array Value} {ds gs : List (DataW H)} {before : List MemPlace}
    (hts:∀t∈fn.params.toList,Tryz.prog.readableRec t=true∧t<Tryz.prog.types.size) (hres:fn.resultTypes= #[4]) (hvars:s.vars=[])
    (hspec:∀ds:List (DataW H),ds.length=fn.params.toList.length→(s.fn H ds).results=[.lit (.bool true)]∧(s.fn H ds).args=ds∧(s.fn H ds).vars=[])
    (hW:DataW.Whole enc Tryz.prog fn.params.toList s.vars false W args.toList ds gs before) (hb:Below W.heap.size W W'):
    s.post enc Tryz.prog fn false true false false W args (.bool true) W':=by
 have hW':=hW;have hlt:=hW.lt;obtain⟨p,q,hA,hV,rfl,hfz,hnd⟩:=hW;rw[hvars] at hV;obtain⟨rfl,rfl⟩:gs=[]∧q=[]:=by
  cases gs with
  | nil=>exact⟨rfl,hV⟩
  | cons g r=>exact absurd hV (by intro h;cases h)
 have hlen:ds.length=fn.params.toList.length:=trodAll_len hA;obtain⟨e1,e2,e3⟩:=hspec ds hlen;refine⟨ds,[],p ++ [],[],p,[],hW',?_,?_,?_,hb.frame _,fun h=>by cases h⟩
 · rw[List.append_nil,e1,hres];exact trodAll_mk1 (shut_bool Tryz.underlying4 true)
 · rw[List.append_nil,e2];exact trodAll_below hb _ _ _ _ hts hA (fun x hx=>hlt x (by simp[hx]))
 · rw[List.append_nil,e3,hvars];rfl
end frame
end Go.Proofs.YtlkajejbfojkeaaGreatDoor
