/- RstE, RstQ, Bu18, FlOpen, OpF, Sent, Errs, WrapS, LaidS, OpG, JoinS -/
import Derived.Test.YtlkajejbfojkeaaGreatDoorPRstN
import Derived.Test.YtlkajejbfojkeaaGreatDoorPRstM
import Derived.Test.YtlkajejbfojkeaaGreatDoorPRstJ
import Derived.Test.YtlkajejbfojkeaaGreatDoorPRstI
import Derived.Test.YtlkajejbfojkeaaGreatDoorPRstH
import Derived.Test.YtlkajejbfojkeaaGreatDoorPRstG
import Derived.Test.YtlkajejbfojkeaaGreatDoorPRstF
import Derived.ChangeArms
import Derived.Deep.Slices
import Derived.ProofKit
import Derived.LaidMore
import Derived.OpenShut
import Derived.Stop.Joined
import Derived.Carry
import Derived.SevenTiedAt
import Derived.HandedShaped
import Derived.Shelf.Vars
import Derived.Lib.LaidTab
import Derived.JoinedOf
set_option linter.unusedSimpArgs false
set_option linter.unusedVariables false
set_option maxRecDepth 100000
set_option maxHeartbeats 16000000
namespace Go.Proofs.YtlkajejbfojkeaaGreatDoor
open Go.RowKit
theorem rnopart7 (R : RLoc) (S : Sto) (f : SFact) (w : World) (hx : F64 f.ex) (h : RStoreAt R S w) (hok : fok f = true) (hk : f.k = 7) (hi : (S.parts.length : Int) ≤ f.pt) :
    Calls Tryz.prog 22 #[.pointer (some ⟨R.sb,0,none⟩),factV f] w (RApplyEnds R S 9 w):=by
 have hR:=fun W=>rright14_of f hx W
 rw[hok] at hR;obtain⟨a,cap,hv,hn,hr⟩:=part_row h.parts;have HR:=qq hR;have H:=qq h;have hsb:=h.blk.lt;obtain⟨n,hnn⟩:∃n,n=S.parts.length:=⟨_,rfl⟩
 rw[←hnn] at hv hi;have HQ:=qq (fun W (hW:RStoreAt R S W)=>(show W.cell? ⟨R.sb,3,none⟩=some (.slice a n cap) by rw[←hv];exact hW.blk.cell 3));obtain⟨k,an,aq,rg,nd,pt,pr,oc,dp,pa,st,hw,de,ex⟩:=f;dsimp only at hi hk;subst hk;dsimp only[factV,factC] at*;clear hR h hok hx hnn hn hr hv;go_enter Tryz.func22,Tryz.ntmps22;go_wp2_with fail
 (with_reducible refine(HR.out _).mono ?_)
 rintro e w1 ⟨rfl,hb1⟩;have B1:Below w.heap.size w w1:=below_then (by go_grown) hb1;have HK1:=qq ((Blk.fresh w #[.int .i64 7,an,aq,rg,nd,pt,pr,oc,dp,pa,st,hw,de,.float .f64 ex] 42 _ rfl).below hb1);have hz1:=hb1.size;simp only[World.size_alloc] at hz1;have hs1:R.sb<w1.heap.size:=by omega
 have hs2:w.heap.size<w1.heap.size:=by omega
 obtain⟨q,qf⟩:=HK1.out.out;have c3:=HQ.out _ (H.out.below B1);have hi3:decide ((n:Int)≤pt)=true:=decide_eq_true hi;go_wp2_with fail;go_region
 all_goals go_wp2_with fail
 all_goals go_ret
 all_goals exact⟨rfl,RGoes.same H.out (below_then B1 (by go_grown))⟩
theorem rpart7_yes (R : RLoc) (S : Sto) (f : SFact) (i : Nat) (p : SPart) (w : World) (hx : F64 f.ex) (h : RStoreAt R S w) (hok : fok f = true) (hk : f.k = 7) (hi : f.pt = (i : Int)) (hp : S.parts[i]? = some p) (hr7 : p.rg = -1) :
    Calls Tryz.prog 22 #[.pointer (some ⟨R.sb,0,none⟩),factV f] w (RApplyEnds R {S with parts:=S.parts.set i {p with rg:=f.rg}} 0 w):=by
 have hR:=fun W=>rright14_of f hx W
 rw[hok] at hR;obtain⟨a,cap,hv,hn,hr⟩:=part_row h.parts;have hil:=(List.getElem?_eq_some_iff.1 hp).1;obtain⟨g,rfl,hg,hfz,hcell⟩:=hr (by omega);have hcl:=hcell i p hp;have HG:=qq (fun w2 (hb:Below w.heap.size w w2)=>rrg_part_goes h hb hv hp f.rg);obtain⟨n,hnn⟩:∃n,n=S.parts.length:=⟨_,rfl⟩
 rw[←hnn] at hv hil;have HR:=qq hR;have HCL:=qq hcl;have HFZ:=qq hfz;have hsb:=h.blk.lt;have HQ:=qq (show w.cell? ⟨R.sb,3,none⟩=some (.slice (some ⟨g,0,none⟩) n cap) by rw[←hv];exact h.blk.cell 3);have hi0:(0:Int)≤(i:Int):=by omega
 have hi1:(i:Int)<(n:Int):=by omega
 have hi2:¬(n:Int)≤(i:Int):=by omega
 have hi3:decide ((n:Int)≤(i:Int))=false:=decide_eq_false hi2;have hi4:¬n≤i:=by omega
 have hi5:decide (n≤i)=false:=decide_eq_false hi4;obtain⟨pan,paq,prg,⟨sp,sd,ss,sh⟩⟩:=p;obtain⟨k,an,aq,rg,nd,pt,pr,oc,dp,pa,st,hw,de,ex⟩:=f;dsimp only at hi hk;subst hk;subst hi;dsimp only[factV,factC] at*;subst hr7;clear hR h hok hx hnn hn hr hv hcl hcell hp hfz;go_enter Tryz.func22,Tryz.ntmps22;go_wp2_with fail
 (with_reducible refine(HR.out _).mono ?_)
 rintro e w1 ⟨rfl,hb1⟩;have B1:Below w.heap.size w w1:=below_then (by go_grown) hb1;have HK1:=qq ((Blk.fresh w #[.int .i64 7,an,aq,rg,nd,(i:Int),pr,oc,dp,pa,st,hw,de,.float .f64 ex] 42 _ rfl).below hb1);have hz1:=hb1.size;simp only[World.size_alloc] at hz1;have hs1:R.sb<w1.heap.size:=by omega
 have hs2:w.heap.size<w1.heap.size:=by omega
 obtain⟨q,qf⟩:=HK1.out.out;have hg1:g<w1.heap.size:=by omega
 obtain⟨pc0,pc1,pc2,pc3,pc4,pc5,pc6⟩:=PartC.below HCL.out B1 hg;have f1:∀j,w1.frozen? ⟨g,j,none⟩=false:=fun j=>(B1.frozen (p:=⟨g,j,none⟩) hg).trans (HFZ.out j)
 have c3:=(B1.cell (p:=⟨R.sb,3,none⟩) hsb).trans HQ.out;dsimp only at pc0 pc1 pc2 pc3 pc4 pc5 pc6;clear pc0 pc1 pc3 pc4 pc5 pc6;go_wp2_with fail;go_region
 all_goals go_wp2_with fail
 go_region
 all_goals go_wp2_with fail
 all_goals go_ret
 all_goals exact⟨rfl,(HG.out _ (below_then B1 (by go_grown))).then_below (by go_grown)⟩
theorem rpart7_no (R : RLoc) (S : Sto) (f : SFact) (i : Nat) (p : SPart) (w : World) (hx : F64 f.ex) (h : RStoreAt R S w) (hok : fok f = true) (hk : f.k = 7) (hi : f.pt = (i : Int)) (hp : S.parts[i]? = some p) (hr7 : 0 ≤ p.rg) :
    Calls Tryz.prog 22 #[.pointer (some ⟨R.sb,0,none⟩),factV f] w (RApplyEnds R S 9 w):=by
 have hR:=fun W=>rright14_of f hx W
 rw[hok] at hR;obtain⟨a,cap,hv,hn,hr⟩:=part_row h.parts;have hil:=(List.getElem?_eq_some_iff.1 hp).1;obtain⟨g,rfl,hg,hfz,hcell⟩:=hr (by omega);have hcl:=hcell i p hp;have HG:=qq (fun w2 (hb:Below w.heap.size w w2)=>RGoes.same h hb);obtain⟨n,hnn⟩:∃n,n=S.parts.length:=⟨_,rfl⟩
 rw[←hnn] at hv hil;have HR:=qq hR;have HCL:=qq hcl;have HFZ:=qq hfz;have hsb:=h.blk.lt;have HQ:=qq (show w.cell? ⟨R.sb,3,none⟩=some (.slice (some ⟨g,0,none⟩) n cap) by rw[←hv];exact h.blk.cell 3);have hi0:(0:Int)≤(i:Int):=by omega
 have hi1:(i:Int)<(n:Int):=by omega
 have hi2:¬(n:Int)≤(i:Int):=by omega
 have hi3:decide ((n:Int)≤(i:Int))=false:=decide_eq_false hi2;have hi4:¬n≤i:=by omega
 have hi5:decide (n≤i)=false:=decide_eq_false hi4;obtain⟨pan,paq,prg,⟨sp,sd,ss,sh⟩⟩:=p;obtain⟨k,an,aq,rg,nd,pt,pr,oc,dp,pa,st,hw,de,ex⟩:=f;dsimp only at hi hk;subst hk;subst hi;dsimp only[factV,factC] at*;have hr8:decide ((0:Int)≤prg)=true:=decide_eq_true hr7;clear hR h hok hx hnn hn hr hv hcl hcell hp hfz;go_enter Tryz.func22,Tryz.ntmps22;go_wp2_with fail
 (with_reducible refine(HR.out _).mono ?_)
 rintro e w1 ⟨rfl,hb1⟩;have B1:Below w.heap.size w w1:=below_then (by go_grown) hb1;have HK1:=qq ((Blk.fresh w #[.int .i64 7,an,aq,rg,nd,(i:Int),pr,oc,dp,pa,st,hw,de,.float .f64 ex] 42 _ rfl).below hb1);have hz1:=hb1.size;simp only[World.size_alloc] at hz1;have hs1:R.sb<w1.heap.size:=by omega
 have hs2:w.heap.size<w1.heap.size:=by omega
 obtain⟨q,qf⟩:=HK1.out.out;have hg1:g<w1.heap.size:=by omega
 obtain⟨pc0,pc1,pc2,pc3,pc4,pc5,pc6⟩:=PartC.below HCL.out B1 hg;have f1:∀j,w1.frozen? ⟨g,j,none⟩=false:=fun j=>(B1.frozen (p:=⟨g,j,none⟩) hg).trans (HFZ.out j)
 have c3:=(B1.cell (p:=⟨R.sb,3,none⟩) hsb).trans HQ.out;dsimp only at pc0 pc1 pc2 pc3 pc4 pc5 pc6;clear pc0 pc1 pc3 pc4 pc5 pc6;go_wp2_with fail;go_region
 all_goals go_wp2_with fail
 all_goals go_ret
 all_goals exact⟨rfl,HG.out _ (below_then B1 (by go_grown))⟩
theorem rapply_of (R : RLoc) (S : Sto) (f : SFact) (w : World) (hx : F64 f.ex) (h : RStoreAt R S w) (hG : StoGood S) :
    Calls Tryz.prog 22 #[.pointer (some ⟨R.sb,0,none⟩),factV f] w (RApplyEnds R (sapply S f).1 (sapply S f).2 w):=by
 cases hok:fok f with
 | false=>
  have e:sapply S f=(S,4):=by unfold sapply;rw[if_pos hok]
  rw[e];exact rapply_bad R S f w hx h hok
 | true=>
  have hs:∀T,sput S f=some T→sapply S f=(T,0):=fun T hT=>by unfold sapply;rw[if_neg (by rw[hok];simp),hT]
  have hn:sput S f=none→sapply S f=(S,9):=fun hT=>by unfold sapply;rw[if_neg (by rw[hok];simp),hT]
  have hkk:=fok_any hok;by_cases k1:f.k=1
  · obtain⟨f1,f2,f3⟩:=fok1 hok k1;have fi:=ctxOk_id f1;by_cases c1:f.an=S.node
    case neg=>
     have e:sput S f=none:=by unfold sput;rw[if_pos k1,if_pos (.inl c1)]
     rw[hn e];exact ropen_no1 R S f w hx h hok k1 c1
    by_cases c2:S.next≤f.aq
    case neg=>
     have e:sput S f=none:=by unfold sput;rw[if_pos k1,if_pos (.inr (.inl (by omega)))]
     rw[hn e];exact ropen_no2 R S f w hx h hok k1 c1 (by omega)
    by_cases c3:S.acts.length<8
    case neg=>
     have e:sput S f=none:=by unfold sput;rw[if_pos k1,if_pos (.inr (.inr (.inl (by omega))))]
     rw[hn e];exact ropen_no3 R S f w hx h hok k1 c1 c2 (by omega)
    by_cases c4:0<f.pa→f.pa≤(S.parts.length:Int)∧schild S f.pa=none
    · have e:sput S f=some {S with next:=f.aq+1,acts:=S.acts ++ [⟨f.an,f.aq,f.oc,f.dp,f.ex,f.pa,0,[]⟩]}:=by
       unfold sput;rw[if_pos k1,if_neg];rintro(e | e | e | ⟨e1,e2⟩)
       · exact e c1
       · omega
       · omega
       · obtain⟨q1,q2⟩:=c4 e1;rcases e2 with e2 | e2
         · omega
         · rw[q2] at e2;cases e2
      rw[hs _ e];by_cases c5:0<f.pa
      · exact ropen_yes2 R S f w hx h hok k1 ⟨fi.2.2.1,fi.2.2.2⟩ ⟨f2,f3⟩ c1 c2 c3 c5 (c4 c5).1 (c4 c5).2
      · exact ropen_yes1 R S f w hx h hok k1 ⟨fi.2.2.1,fi.2.2.2⟩ ⟨f2,f3⟩ c1 c2 c3 (by omega)
    · have c5:0<f.pa:=Decidable.byContradiction fun e=>c4 (fun e'=>absurd e' e)
      by_cases c6:f.pa≤(S.parts.length:Int)
      · cases hc:schild S f.pa with
        | none=>exact absurd (fun _=>⟨c6,hc⟩) c4
        | some i=>
         have e:sput S f=none:=by unfold sput;rw[if_pos k1,if_pos (.inr (.inr (.inr ⟨c5,.inr (by rw[hc];rfl)⟩)))]
         rw[hn e];exact ropen_no5 R S f w hx h hok k1 hG.acts c1 c2 c3 c5 f3 c6 i hc
      · have e:sput S f=none:=by unfold sput;rw[if_pos k1,if_pos (.inr (.inr (.inr ⟨c5,.inl (by omega)⟩)))]
        rw[hn e];exact ropen_no4 R S f w hx h hok k1 hG.acts c1 c2 c3 c5 f3 (by omega)
  by_cases k6:f.k=6
  · obtain⟨f1,f2,f3,f4,f5⟩:=fok6 hok k6;by_cases c:f.pt=(S.parts.length:Int)
    · have e:sput S f=some {S with parts:=S.parts ++ [⟨f.an,f.aq,-1,⟨f.pr,2,1,0⟩⟩]}:=by unfold sput;rw[if_neg k1,if_pos k6,if_neg (by simp[c])]
      rw[hs _ e];exact rjoin_yes R S f w hx h hok k6 hG.parts c
    · have e:sput S f=none:=by unfold sput;rw[if_neg k1,if_pos k6,if_pos c]
      rw[hn e];exact rjoin_no R S f w hx h hok k6 c
  by_cases k78:f.k=7∨f.k=8
  · have h0:0≤f.pt:=by
     rcases k78 with k | k
     · exact(fok7 hok k).1
     · exact(fok8 hok k).1
    by_cases c:f.pt<(S.parts.length:Int)
    case neg=>
     have e:sput S f=none:=by
      unfold sput;rw[if_neg k1,if_neg k6,if_pos k78,List.getElem?_eq_none (by omega)]
     rw[hn e];rcases k78 with k7 | k8
     · exact rnopart7 R S f w hx h hok k7 (by omega)
     · exact rnopart8 R S f w hx h hok k8 (by omega)
    obtain⟨i,hi⟩:∃i:Nat,f.pt=(i:Int):=⟨f.pt.toNat,by omega⟩
    have hil:i<S.parts.length:=by omega
    have hp:S.parts[i]? =some S.parts[i]:=List.getElem?_eq_getElem hil;have hit:f.pt.toNat=i:=by omega
    obtain⟨p,hpe⟩:∃p,p=S.parts[i]:=⟨_,rfl⟩
    rw[←hpe] at hp;by_cases k8:f.k=8
    · cases ht:sturn p.seat f.st f.hw with
      | none=>
       have e:sput S f=none:=by
        unfold sput;rw[if_neg k1,if_neg k6,if_pos k78,hit,hp];simp only;rw[if_pos k8,ht];rfl
       rw[hn e];exact rpart8_no R S f i p w hx h hok k8 hi hp (turnOk_none ht)
      | some t=>
       have e:sput S f=some {S with parts:=S.parts.set i {p with seat:=t}}:=by
        unfold sput;rw[if_neg k1,if_neg k6,if_pos k78,hit,hp];simp only;rw[if_pos k8,ht];rfl
       rw[hs _ e];obtain⟨q1,q2⟩:=turnOk_some ht;subst q2;exact rpart8_yes R S f i p w hx h hok k8 hi hp q1
    · have k7:=k78.resolve_right k8;by_cases hr:p.rg= -1
      · have e:sput S f=some {S with parts:=S.parts.set i {p with rg:=f.rg}}:=by
         unfold sput;rw[if_neg k1,if_neg k6,if_pos k78,hit,hp];simp only;rw[if_neg k8,if_neg (by simp[hr])]
        rw[hs _ e];exact rpart7_yes R S f i p w hx h hok k7 hi hp hr
      · have e:sput S f=none:=by
         unfold sput;rw[if_neg k1,if_neg k6,if_pos k78,hit,hp];simp only;rw[if_neg k8,if_pos hr]
        rw[hn e];exact rpart7_no R S f i p w hx h hok k7 hi hp (by have:=(hG.part p (List.mem_of_getElem? hp)).2.1;omega)
  have hk4:f.k≠1∧f.k≠6∧f.k≠7∧f.k≠8:=⟨k1,k6,fun e=>k78 (.inl e),fun e=>k78 (.inr e)⟩
  cases hi:sfind S f.an f.aq with
  | none=>
   have e:sput S f=none:=by unfold sput;rw[if_neg k1,if_neg k6,if_neg k78,hi]
   rw[hn e];exact rapply_noact R S f w hx h hG.acts hok hk4 hi
  | some i=>
   have hil:i<S.acts.length:=by unfold sfind at hi;exact(List.findIdx?_eq_some_iff_getElem.1 hi).1
   obtain⟨a,ha⟩:∃a,S.acts[i]? =some a:=⟨_,List.getElem?_eq_getElem hil⟩
   obtain⟨x,hxi⟩:∃x,R.rv[i]? =some x:=⟨_,List.getElem?_eq_getElem (by rw[h.len];exact hil)⟩
   have hA:=hG.act a (List.mem_of_getElem? ha);have hl:=hA.len;have hsp:sput S f=if f.k=5 then(if(a.regs.any fun r=>decide (r.seat.s≠14))=true then none else some {S with acts:=S.acts.take i ++S.acts.drop (i+1)}) else(sact a f).map fun b=>{S with acts:=S.acts.set i b}:=by
    unfold sput;rw[if_neg k1,if_neg k6,if_neg k78,hi];simp only;rw[ha]
   have yes:∀T,sput S f=some T→(∀W,Below w.heap.size w W→Calls Tryz.prog 93 #[.pointer (some ⟨R.sb,0,none⟩),.int .i64 (i:Int),factV f] W fun e w'=>e=.returned (.bool true)∧RGoes R T W w')→Calls Tryz.prog 22 #[.pointer (some ⟨R.sb,0,none⟩),factV f] w (RApplyEnds R (sapply S f).1 (sapply S f).2 w):=fun T hT hC=>by
    rw[hs _ hT];exact rapply_act R S T f i true w hx h hG.acts hok hk4 hi hC
   have no:sput S f=none→(∀W,Below w.heap.size w W→Calls Tryz.prog 93 #[.pointer (some ⟨R.sb,0,none⟩),.int .i64 (i:Int),factV f] W fun e w'=>e=.returned (.bool false)∧RGoes R S W w')→Calls Tryz.prog 22 #[.pointer (some ⟨R.sb,0,none⟩),factV f] w (RApplyEnds R (sapply S f).1 (sapply S f).2 w):=fun hT hC=>by
    rw[hn hT];exact rapply_act R S S f i false w hx h hG.acts hok hk4 hi hC
   have hxl:∀W,Below w.heap.size w W→RStoreAt R S W:=fun W hW=>h.below hW
   by_cases k5:f.k=5
   · rw[if_pos k5] at hsp
     cases hany:(a.regs.any fun r=>decide (r.seat.s≠14)) with
     | true=>
      rw[hany,if_pos rfl] at hsp;exact no hsp (fun W hW=>ract5_no R S f i a x W (hxl W hW) hG.acts k5 hxi ha hl hany)
     | false=>
      rw[hany,if_neg (by simp)] at hsp;exact yes _ hsp (fun W hW=>ract5_yes R S f i a x W (hxl W hW) hG.acts k5 hxi ha hl hany)
   rw[if_neg k5] at hsp;by_cases k2:f.k=2
   · obtain⟨f1,f2,f3,f4,f5,f6,f7,f8,f9⟩:=fok2 hok k2;by_cases c1:f.rg=(a.regs.length:Int)
     case neg=>
      have e:sact a f=none:=by unfold sact;rw[if_pos k2,if_pos (.inl c1)]
      rw[e] at hsp;exact no hsp (fun W hW=>ract2_no1 R S f i a x W (hxl W hW) hG.acts k2 hxi ha c1)
     by_cases c2:a.de=0
     case neg=>
      have e:sact a f=none:=by unfold sact;rw[if_pos k2,if_pos (.inr (.inl c2))]
      rw[e] at hsp;exact no hsp (fun W hW=>ract2_no2 R S f i a x W (hxl W hW) hG.acts k2 hxi ha c1 c2)
     cases hany:(a.regs.any fun r=>decide (r.n=f.nd∧r.p=f.pt)) with
     | true=>
      have e:sact a f=none:=by unfold sact;rw[if_pos k2,if_pos (.inr (.inr hany))]
      rw[e] at hsp;exact no hsp (fun W hW=>ract2_no3 R S f i a x W (hxl W hW) hG.acts k2 hxi ha hl c1 c2 hany)
     | false=>
      have e:sact a f=some {a with regs:=a.regs ++ [⟨f.nd,f.pt,⟨f.pr,1,1,0⟩⟩]}:=by
       unfold sact;rw[if_pos k2,if_neg];rintro(e | e | e)
       · exact e c1
       · exact e c2
       · rw[hany] at e;cases e
      rw[e] at hsp;exact yes _ hsp (fun W hW=>ract2_yes R S f i a x W (hxl W hW) hG.acts k2 hxi ha hl c1 c2 hany)
   by_cases k3:f.k=3
   · obtain⟨f1,f2,f3,f4⟩:=fok3 hok k3;have hsa : sact a f = match a.regs[f.rg.toNat]? with
         | none=>none
         | some r=>(sturn r.seat f.st f.hw).map fun t=>{a with regs:=a.regs.set f.rg.toNat {r with seat:=t}}:=by
      unfold sact;rw[if_neg k2,if_pos k3];cases a.regs[f.rg.toNat]? <;>rfl
     by_cases c1:f.rg<(a.regs.length:Int)
     case neg=>
      have e:sact a f=none:=by rw[hsa,List.getElem?_eq_none (by omega)]
      rw[e] at hsp;exact no hsp (fun W hW=>ract3_len R S f i a x W (hxl W hW) hG.acts k3 hxi ha (by omega))
     obtain⟨j,hj⟩:∃j:Nat,f.rg=(j:Int):=⟨f.rg.toNat,by omega⟩
     have hjt:f.rg.toNat=j:=by omega
     obtain⟨r,hr⟩:∃r,a.regs[j]? =some r:=⟨_,List.getElem?_eq_getElem (by omega)⟩
     rw[hjt,hr] at hsa;simp only at hsa
     cases ht:sturn r.seat f.st f.hw with
     | none=>
      rw[ht] at hsa;rw[hsa] at hsp;exact no hsp (fun W hW=>ract3_no R S f i a x j r W (hxl W hW) hG.acts k3 hxi ha hj hr hl (turnOk_none ht))
     | some t=>
      rw[ht] at hsa;rw[hsa] at hsp;obtain⟨q1,q2⟩:=turnOk_some ht;subst q2;exact yes _ hsp (fun W hW=>ract3_yes R S f i a x j r W (hxl W hW) hG.acts k3 hxi ha hj hr hl q1)
   have k4:f.k=4:=by omega
   have hsa:sact a f=if a.oc≠1∨a.de≠0 then none else some {a with de:=f.de}:=by
    unfold sact;rw[if_neg k2,if_neg k3]
   by_cases c:a.oc≠1∨a.de≠0
   · rw[hsa,if_pos c] at hsp;exact no hsp (fun W hW=>by
       by_cases c0:a.oc=1
       · exact ract4_no2 R S f i a x W (hxl W hW) hG.acts k4 hxi ha c0 (c.resolve_left (fun e=>e c0))
       · exact ract4_no1 R S f i a x W (hxl W hW) hG.acts k4 hxi ha c0)
   · rw[hsa,if_neg c] at hsp;exact yes _ hsp (fun W hW=>ract4_yes R S f i a x W (hxl W hW) hG.acts k4 hxi ha (Decidable.byContradiction fun e=>c (.inl e)) (Decidable.byContradiction fun e=>c (.inr e)))
attribute [local go_sem] store_float
def BuiltYes18 (S:Sto) (w:World) (e:Ending) (w':World):Prop:=∃L R,e=.returned (.tuple #[.pointer (some ⟨L.sb,0,none⟩),.pointer (some ⟨R.sb,0,none⟩),.bool true])∧Built L R S w w'
theorem built18_no (node:Int) (v:Value) (fs:List SFact) (ea:Int→Addr) (w:World) (hE:EnvS ea w) (hR:ReadFacts w v fs) (h:¬((0≤node∧node≤3)∧fs.length≤60)):Calls Tryz.prog 50 #[.int .i64 node,v] w (Makes (.tuple #[.pointer none,.pointer none,.bool false]) w):=by
 obtain⟨a,cap,rfl,_⟩:=hR;obtain⟨n,hn⟩:∃n,n=fs.length:=⟨_,rfl⟩
 rw[←hn] at h⊢;clear hn;by_cases hnd:0≤node∧node≤3
 · have HN:=qq (snew_yes node w hnd);have hl:(60:Int)<(n:Int):=by have:¬n≤60:=fun e=>h ⟨hnd,e⟩;omega
   have d1:decide ((60:Int)<(n:Int))=true:=decide_eq_true hl;have d2:decide (60<n)=true:=decide_eq_true (by omega);clear hE h hnd hl;go_enter Tryz.func50,Tryz.ntmps50;go_wp2_with fail;refine HN.out.mono ?_;rintro e w1 ⟨rfl,rfl⟩;go_wp2_with fail;go_ret3;exact⟨rfl,by go_grown⟩
 · have HN:=qq (snew_no node ea w hE hnd);clear hE h hnd;go_enter Tryz.func50,Tryz.ntmps50;go_wp2_with fail;refine HN.out.mono ?_;rintro e w1 ⟨rfl,hb1⟩;go_wp2_with fail;go_ret3;exact⟨rfl,below_then hb1 (by go_grown)⟩
theorem built18_yes (node:Int) (v:Value) (fs:List SFact) (ea:Int→Addr) (w:World) (hE:EnvS ea w) (hR:ReadFacts w v fs) (hF:∀f∈fs,F64 f.ex) (hnd:0≤node∧node≤3) (hl:fs.length≤60):Calls Tryz.prog 50 #[.int .i64 node,v] w (BuiltYes18 (splay node fs) w):=by
 obtain⟨a,cap,rfl,hcells⟩:=hR;obtain⟨n,hn⟩:∃n,n=fs.length:=⟨_,rfl⟩
 rw[←hn] at hl⊢;have HC:=qq hcells;have HN0:=qq hn;have HE:=qq hE;have HF:=qq hF;have HN:=qq (snew_yes node w hnd);have HG:=qq (fun gs=>splay_good hnd gs);have d1:decide ((60:Int)<(n:Int))=false:=decide_eq_false (by omega);have d2:decide (60<n)=false:=decide_eq_false (by omega);clear hcells hn hE hF hnd;go_enter Tryz.func50,Tryz.ntmps50;go_wp2_with fail;refine HN.out.mono ?_;rintro e w1 ⟨rfl,rfl⟩
 have HB0:=qq (built_start (w:=w) (W:=w.alloc (.cells #[node,.int .i64 0,.slice none 0 0,.slice none 0 0] 154)) (node:=node) (x:=w.heap.size) (by go_grown) (Blk.fresh w _ _ _ rfl) (Nat.le_refl _) 34);rw[show(w.alloc (.cells #[node,.int .i64 0,.slice none 0 0,.slice none 0 0] 154)).heap.size=w.heap.size+1 by simp] at HB0;go_wp2_with fail;clear d1 d2
 go_loopw [29] (fun i wr=>∃k:Nat,k≤n∧i=.int .i64 (k:Nat)∧Hid (∃L R,L.sb=w.heap.size∧R.sb=w.heap.size+1∧Built L R (splay node (fs.take k)) w wr)) (fun i _=>n - (intOf i).toNat)
 case atStart=>exact⟨0,by omega,by first | rfl | go_num,qq ⟨_,_,rfl,rfl,HB0.out⟩⟩
 case round=>
  obtain⟨k,hk,rfl,HBU⟩:=hrel;obtain⟨L,R,hLb,hRb,hB⟩:=HBU.out;by_cases hlt:k<n
  · have hks:k<fs.length:=by rw[←HN0.out];exact hlt
    obtain⟨b,off,rfl,hbl,hfact⟩:=HC.out (by intro e;rw[e] at hks;simp at hks);obtain⟨f,hf⟩:∃f,f=fs[k]:=⟨_,rfl⟩
    have hat:=(hfact k hks).below hB.be hbl;rw[←hf] at hat;have hx:F64 f.ex:=HF.out f (by rw[hf];exact List.getElem_mem hks);have hsn:splay node (fs.take (k+1))=(sapply (splay node (fs.take k)) f).1:=by
     rw[List.take_succ_eq_append_getElem hks,splay_snoc,hf]
    have HSN:=qq hsn;have HG1:=qq (HG.out (fs.take k));obtain⟨S,hS⟩:∃S,S=splay node (fs.take k):=⟨_,rfl⟩
    rw[←hS] at hB HSN HG1;obtain⟨T,hT⟩:∃T,T=(sapply S f).1:=⟨_,rfl⟩
    rw[←hT] at HSN;have hwr:=hB.be.size;have hLz:w.heap.size<wr.heap.size:=by have:=hB.st.blk.lt;omega
    have HA:=qq (fun L W (hW:EnvG L ea W) (hs:StoreAt L S W)=>apply_of L S f ea W hx hW hs HG1.out);have HRA:=qq (fun R W (hs:RStoreAt R S W)=>rapply_of R S f W hx hs HG1.out);rw[←hT] at HA HRA;obtain⟨en,hen⟩:∃en,en=(sapply S f).2:=⟨_,rfl⟩
    rw[←hen] at HA HRA;have HB:=qq hB;obtain⟨c0,c1,c2,c3,c4,c5,c6,c7,c8,c9,c10,c11,c12,c13⟩:=hat;have hki:(k:Int)<(n:Int):=by omega
    have hk0:(0:Int)≤(k:Int):=by omega
    have hbw:b<wr.heap.size:=by omega
    clear hB hfact hf hsn hS hT hen HBU hx;obtain⟨k',an,aq,rg,nd,pt,pr,oc,dp,pa,st,hw,de,ex⟩:=f;dsimp only[factV,factC,ApplyEnds,RApplyEnds] at*;go_wp2_with fail;rw[←hLb];refine(HA.out L _ (envG_of HE.out (below_then HB.out.be (by go_grown)) HB.out.nl) (HB.out.st.below (by go_grown))).mono ?_;rintro e w2 ⟨rfl,hs⟩
    obtain⟨L2,hL2,hH,hz2,hbk⟩:=(HB.out.below (w2:=wr.alloc (.cells #[k',an,aq,rg,nd,pt,pr,oc,dp,pa,st,hw,de,.float .f64 ex] 39)) (by go_grown)).first hs;have HX:=qq (((Blk.fresh wr #[k',an,aq,rg,nd,pt,pr,oc,dp,pa,st,hw,de,.float .f64 ex] 39 _ rfl)).same hz2 (hbk _ (by simp) (fun h=>by have:=HB.out.st.lt _ h;omega)));have HH:=qq hH;have q:=HX.out.cell;have hzz:=HX.out.lt;clear hs hH hbk
    go_wp2_with fail;rw[←hRb];refine(HRA.out R _ HH.out.rs).mono ?_;rintro e w3 ⟨rfl,hs⟩;obtain⟨R2,hR2,hB3⟩:=HH.out.second hs;have HB3:=qq hB3;clear hs hB3 q;go_wp2_with fail;go_roundw
    case rel=>exact⟨k+1,by omega,by go_num,qq ⟨L2,R2,by rw[hL2,hLb],by rw[hR2,hRb],by rw[HSN.out];exact HB3.out⟩⟩
    case measure=>(simp[intOf];omega)
  · obtain rfl:k=n:=by omega
    rw[show fs.take k=fs from List.take_of_length_le (by rw[←HN0.out];exact Nat.le_refl _)] at hB;have HB:=qq hB;clear hB;go_wp2_with fail;go_ret3;refine⟨L,R,?_,HB.out⟩;rw[hLb,hRb];rfl
theorem fit18_of (L:SLoc) (S:Sto) (v:Value) (fs:List SFact) (ea:Int→Addr) (w0 w:World) (hE:EnvS ea w0) (hb0:Below w0.heap.size w0 w) (hnl:∀k∈L.foot,w0.heap.size≤k) (h:StoreAt L S w) (hG:StoGood S) (hR:ReadFacts w v fs) (hap:∀k,sliceBlock v=some k→k∉L.foot) (hF:∀f∈fs,F64 f.ex) (hl:fs.length≤1000):Calls Tryz.prog 59 #[.pointer (some ⟨L.sb,0,none⟩),v] w (fun e w'=>e=.returned (.bool (sfit S fs).2)∧SGoes L (sfit S fs).1 w w'):=by
 obtain⟨a,cap,rfl,hcells⟩:=hR;obtain⟨n,hn⟩:∃n,n=fs.length:=⟨_,rfl⟩
 rw[←hn] at hl hap⊢;have HC:=qq hcells;have HN0:=qq hn;have HE:=qq hE;have HF:=qq hF;have HB0:=qq hb0;have HNL:=qq hnl;have HAP:=qq hap;have H:=qq h;have HG:=qq hG;have hlt0:=h.lt;have HLT:=qq hlt0;clear hcells hn hE hF hb0 hnl hap h hG hlt0;go_enter Tryz.func59,Tryz.ntmps59;go_wp2_with fail
 go_loopw [9] (fun i wr=>∃k:Nat,k≤n∧i=.int .i64 (k:Nat)∧Hid (∃U,sfit S fs=sfit U (fs.drop k)∧StoGood U∧SGoes L U w wr)) (fun i _=>n - (intOf i).toNat)
 case atStart=>exact⟨0,by omega,by first | rfl | go_num,qq ⟨S,rfl,HG.out,SGoes.same H.out (by go_grown)⟩⟩
 case round=>
  obtain⟨k,hk,rfl,HU⟩:=hrel;obtain⟨U,hU,hGU,hgo⟩:=HU.out;by_cases hlt:k<n
  · have hks:k<fs.length:=by rw[←HN0.out];exact hlt
    obtain⟨b,off,rfl,hbl,hfact⟩:=HC.out (by intro e;rw[e] at hks;simp at hks);obtain⟨f,hf⟩:∃f,f=fs[k]:=⟨_,rfl⟩
    obtain⟨L1,hL1,hS1,hg1⟩:=hgo;have hbn:b∉L.foot:=HAP.out b rfl;have hat:=(hfact k hks).heap (hg1.block b hbl hbn);rw[←hf] at hat;have hx:F64 f.ex:=HF.out f (by rw[hf];exact List.getElem_mem hks);have hst:sfit S fs=if(sapply U f).2=0 then sfit (sapply U f).1 (fs.drop (k+1)) else((sapply U f).1,false):=by
     rw[hU,List.drop_eq_getElem_cons hks,←hf];rfl
    have hgood:StoGood (sapply U f).1:=sapply_good hGU;have HST:=qq hst;have HGD:=qq hgood;have hz:=hg1.size;have HA:=qq (fun W (hW:EnvG L1 ea W) (hs:StoreAt L1 U W)=>apply_of L1 U f ea W hx hW hs hGU);obtain⟨T,hT⟩:∃T,T=(sapply U f).1:=⟨_,rfl⟩
    obtain⟨en,hen⟩:∃en,en=(sapply U f).2:=⟨_,rfl⟩
    rw[←hT,←hen] at HA HST;simp only[hL1] at HA;rw[←hT] at HGD;have hbe:Below w0.heap.size w0 wr:=HB0.out.trans (hg1.below HNL.out HB0.out.size);have hnl1:∀k∈L1.foot,w0.heap.size≤k:=fun k hk=>by
     rcases hg1.new k hk with e | e
     · exact HNL.out k e
     · exact Nat.le_trans HB0.out.size e
    have HBE:=qq hbe;have HNL1:=qq hnl1;have HS1:=qq hS1;have HG1:=qq hg1;obtain⟨c0,c1,c2,c3,c4,c5,c6,c7,c8,c9,c10,c11,c12,c13⟩:=hat;have hki:(k:Int)<(n:Int):=by omega
    have hk0:(0:Int)≤(k:Int):=by omega
    have hbw:b<wr.heap.size:=by omega
    clear hfact hf hst hgood hT hen hx hU hGU hS1 hg1 hbe hnl1 HU hbn;obtain⟨k',an,aq,rg,nd,pt,pr,oc,dp,pa,st,hw,de,ex⟩:=f;dsimp only[factV,factC,ApplyEnds] at*;go_wp2_with fail;refine(HA.out _ (envG_of HE.out (below_then HBE.out (by go_grown)) HNL1.out) (HS1.out.below (by go_grown))).mono ?_;rintro e w2 ⟨rfl,hs⟩;have HSG:=qq (show SGoes L T w w2 by
      obtain⟨L2,hL2,hS2,hg2⟩:=hs;exact⟨L2,by rw[hL2,hL1],hS2,(HG1.out.then_below (w2:=wr.alloc (.cells #[k',an,aq,rg,nd,pt,pr,oc,dp,pa,st,hw,de,.float .f64 ex] 39)) (by go_grown)).trans hg2⟩)
    clear hs;by_cases h0:en=0
    · subst h0;rw[if_pos rfl] at HST;have he0:errOf ea 0=.nilIface:=rfl;simp only[he0];go_wp2_with fail;go_roundw
      case rel=>exact⟨k+1,by omega,by go_num,qq ⟨T,HST.out,HGD.out,HSG.out⟩⟩
      case measure=>(simp[intOf];omega)
    · rw[if_neg h0] at HST;have he0:errOf ea en=errV (ea en):=by unfold errOf;rw[if_neg h0]
      simp only[he0];go_wp2_with fail;go_ret;exact⟨by rw[HST.out];rfl,by rw[HST.out];exact HSG.out⟩
  · obtain rfl:k=n:=by omega
    rw[show fs.drop k=[] from List.drop_of_length_le (by rw[←HN0.out];exact Nat.le_refl _)] at hU;have HU2:=qq hU;have HGO:=qq hgo;clear hU hgo hGU HU;go_wp2_with fail;go_ret;exact⟨by rw[HU2.out];rfl,by rw[HU2.out];exact HGO.out⟩
open Go.ChangeShapes Go.WideShapes Go.ChangeAt Go.WideMaps Go.WideElems Go.RowKit Go.Joins
theorem trod_f64 {H:Type} {P:Program} {w:World} {t:TypeId} {fuel:Nat} {base:Nat} {enc:TypeId×Value→H} {spare:Nat→Bool} {held:Bool} {v:Value} {x:DataW H×List MemPlace} (ht:P.underlying t=some (.float .f64)) (h:DataW.trod enc P w base spare held fuel t [v]=some x):∃b,v=.float .f64 b∧F64 b:=by
 cases fuel with
 | zero=>simp[DataW.trod] at h
 | succ n=>
  unfold DataW.trod at h;rw[ht] at h;split at h<;>simp_all
  rename_i k k' b he
  subst he;simpa[Lit.wf,F64] using h.1.2
open Go.RowKit Go.Deep Go.ChangeShapes Go.WideShapes Go.ChangeAt Go.WideMaps Go.WideElems
theorem fact_list_of {α:Type} {C:Nat→α→Prop}:∀n,(∀i,i<n→∃o,C i o)→∃l:List α,l.length=n∧∀i (h:i<l.length),C i l[i]
 | 0,_=>⟨[],rfl,fun i h=>absurd h (by simp)⟩
 | n+1,h=>by
  obtain⟨l,hl,hc⟩:=fact_list_of n (fun i hi=>h i (by omega));obtain⟨o,ho⟩:=h n (by omega);refine⟨l ++ [o],by simp[hl],fun i hi=> ?_⟩;by_cases hlt:i<l.length
  · rw[List.getElem_append_left hlt];exact hc i hlt
  · have:i=n:=by simp at hi;omega
    subst this;rw[List.getElem_append_right (by omega)];simpa[hl] using ho
theorem open_facts {H:Type} {enc:TypeId×Value→H} {W:World} {a0:Option Addr} {len cap:Nat} {d:DataW H} {p:List MemPlace} {sp:Nat→Bool} (h:DataW.Trod enc Tryz.prog W 0 sp true 22 (.slice a0 len cap) d p):∃fs,ReadFacts W (.slice a0 len cap) fs∧∀f∈fs,F64 f.ex:=by
 obtain⟨fuel,hf⟩:=h;rcases open_slice Tryz.underlying22 hf with⟨hcs,hx⟩ | ⟨a,len',cap',m,n,D,Pl,hcs,hb,hl,hm,hmm,hx,hall⟩
 · simp[Value.cells] at hcs;obtain⟨rfl,rfl,rfl⟩:=hcs;exact⟨[],⟨none,0,rfl,fun h=>absurd rfl h⟩,by simp⟩
 · simp[Value.cells] at hcs;obtain⟨rfl,rfl,rfl⟩:=hcs;have hlm:len≤m:=by rw[hmm];split<;>omega
   have each:∀i,i<len→∃o:SFact,W.cell? (a.add (i*14))=some (.int .i64 o.k)∧W.cell? (a.add (i*14+1))=some (.int .i64 o.an)∧W.cell? (a.add (i*14+2))=some (.int .i64 o.aq)∧W.cell? (a.add (i*14+3))=some (.int .i64 o.rg)∧W.cell? (a.add (i*14+4))=some (.int .i64 o.nd)∧W.cell? (a.add (i*14+5))=some (.int .i64 o.pt)∧W.cell? (a.add (i*14+6))=some (.int .i64 o.pr)∧W.cell? (a.add (i*14+7))=some (.int .i64 o.oc)∧W.cell? (a.add (i*14+8))=some (.int .i64 o.dp)∧W.cell? (a.add (i*14+9))=some (.int .i64 o.pa)∧W.cell? (a.add (i*14+10))=some (.int .i64 o.st)∧W.cell? (a.add (i*14+11))=some (.int .i64 o.hw)∧W.cell? (a.add (i*14+12))=some (.int .i64 o.de)∧W.cell? (a.add (i*14+13))=some (.float .f64 o.ex)∧F64 o.ex:=by
    intro i hi;obtain⟨cs',h1,h2⟩:=hall i (by omega);rw[show Tryz.prog.cellsOf 39=14 by kernel_rfl] at h1;obtain⟨_,hlen,hcell⟩:=World.cells?_some h1;obtain⟨xs,k,hk,hxy,_,hxl,hfs⟩:=DataW.trod_struct Tryz.underlying39 h2
    match xs,hxl,cs',hlen with
    | [y0,y1,y2,y3,y4,y5,y6,y7,y8,y9,y10,y11,y12],_,[v0,v1,v2,v3,v4,v5,v6,v7,v8,v9,v10,v11,v12,v13],_=>
     have g0:=hfs 0 _ rfl;have g1:=hfs 1 _ rfl;have g2:=hfs 2 _ rfl;have g3:=hfs 3 _ rfl;have g4:=hfs 4 _ rfl;have g5:=hfs 5 _ rfl;have g6:=hfs 6 _ rfl;have g7:=hfs 7 _ rfl;have g8:=hfs 8 _ rfl;have g9:=hfs 9 _ rfl;have g10:=hfs 10 _ rfl;have g11:=hfs 11 _ rfl;have g12:=hfs 12 _ rfl
     simp[show Tryz.prog.cellsOf 3=1 by kernel_rfl,show Tryz.prog.cellsOf 37=1 by kernel_rfl,show Tryz.prog.cellsOf 36=2 by kernel_rfl] at g0 g1 g2 g3 g4 g5 g6 g7 g8 g9 g10 g11 g12;obtain⟨zs,k2,hk2,_,_,hzl,hgs⟩:=DataW.trod_struct Tryz.underlying36 g1
     match zs,hzl with
     | [z0,z1],_=>
      have ga:=hgs 0 _ rfl;have gb:=hgs 1 _ rfl;simp[show Tryz.prog.cellsOf 3=1 by kernel_rfl] at ga gb;obtain⟨n0,e0,_⟩:=DataW.trod_int Tryz.underlying3 g0;obtain⟨n1,e1,_⟩:=DataW.trod_int Tryz.underlying3 ga;obtain⟨n2,e2,_⟩:=DataW.trod_int Tryz.underlying3 gb;obtain⟨n3,e3,_⟩:=DataW.trod_int Tryz.underlying3 g2;obtain⟨n4,e4,_⟩:=DataW.trod_int Tryz.underlying3 g3
      obtain⟨n5,e5,_⟩:=DataW.trod_int Tryz.underlying3 g4;obtain⟨n6,e6,_⟩:=DataW.trod_int Tryz.underlying3 g5;obtain⟨n7,e7,_⟩:=DataW.trod_int Tryz.underlying3 g6;obtain⟨n8,e8,_⟩:=DataW.trod_int Tryz.underlying3 g7;obtain⟨n9,e9,_⟩:=DataW.trod_int Tryz.underlying3 g8;obtain⟨n10,e10,_⟩:=DataW.trod_int Tryz.underlying3 g9;obtain⟨n11,e11,_⟩:=DataW.trod_int Tryz.underlying3 g10
      obtain⟨n12,e12,_⟩:=DataW.trod_int Tryz.underlying3 g11;obtain⟨n13,e13,hf13⟩:=trod_f64 Tryz.underlying37 g12;simp only[List.cons.injEq,and_true] at e0;simp only[List.cons.injEq,and_true] at e1;simp only[List.cons.injEq,and_true] at e2;simp only[List.cons.injEq,and_true] at e3;simp only[List.cons.injEq,and_true] at e4;simp only[List.cons.injEq,and_true] at e5
      simp only[List.cons.injEq,and_true] at e6;simp only[List.cons.injEq,and_true] at e7;simp only[List.cons.injEq,and_true] at e8;simp only[List.cons.injEq,and_true] at e9;simp only[List.cons.injEq,and_true] at e10;simp only[List.cons.injEq,and_true] at e11;simp only[List.cons.injEq,and_true] at e12
      (try simp only[List.cons.injEq,and_true] at e13)
      subst e0 e1 e2 e3 e4 e5 e6 e7 e8 e9 e10 e11 e12 e13;have c0:=hcell 0 (by omega);have c1:=hcell 1 (by omega);have c2:=hcell 2 (by omega);have c3:=hcell 3 (by omega);have c4:=hcell 4 (by omega);have c5:=hcell 5 (by omega);have c6:=hcell 6 (by omega);have c7:=hcell 7 (by omega);have c8:=hcell 8 (by omega);have c9:=hcell 9 (by omega);have c10:=hcell 10 (by omega);have c11:=hcell 11 (by omega)
      have c12:=hcell 12 (by omega);have c13:=hcell 13 (by omega);rw[add_add] at c0 c1 c2 c3 c4 c5 c6 c7 c8 c9 c10 c11 c12 c13
      exact⟨⟨n0,n1,n2,n3,n4,n5,n6,n7,n8,n9,n10,n11,n12,n13⟩,by simpa using c0,by simpa using c1,by simpa using c2,by simpa using c3,by simpa using c4,by simpa using c5,by simpa using c6,by simpa using c7,by simpa using c8,by simpa using c9,by simpa using c10,by simpa using c11,by simpa using c12,by simpa using c13,hf13⟩
   obtain⟨fs,hlen,hc⟩:=fact_list_of len each;subst hlen;refine⟨fs,⟨some a,cap,rfl,fun hne=> ?_⟩,fun f hf=> ?_⟩
   · have h0:0<fs.length:=List.length_pos_iff.2 hne;have hs0:a.spot=none:=by simpa[Addr.add] using World.cell?_spot (hc 0 h0).1
     obtain⟨b,off,spot⟩:=a;have hsp:spot=none:=hs0;subst hsp;have hlt:=World.block_lt_of_cell? W _ (hc 0 h0).1;refine⟨b,off,rfl,by simpa[Addr.add] using hlt,fun i hi=> ?_⟩;obtain⟨c0,c1,c2,c3,c4,c5,c6,c7,c8,c9,c10,c11,c12,c13,_⟩:=hc i hi;simp only[Addr.add_lit] at c0 c1 c2 c3 c4 c5 c6 c7 c8 c9 c10 c11 c12 c13;exact⟨c0,c1,c2,c3,c4,c5,c6,c7,c8,c9,c10,c11,c12,c13⟩
   · obtain⟨j,hj,rfl⟩:=List.getElem_of_mem hf;exact(hc j hj).2.2.2.2.2.2.2.2.2.2.2.2.2.2
open Go.ChangeShapes Go.WideShapes Go.ChangeAt Go.WideMaps Go.WideElems Go.RowKit
theorem Tryz.own:ownKnob Tryz.prog.godebug=none:=by kernel_rfl
theorem Tryz.laidOut:laidOutB Tryz.prog=true:=by kernel_rfl
theorem starE : "*" ++ "errors.errorString" = "*errors.errorString" := by decide
theorem rowE (u : TypeId) (h : Tryz.prog.typeName? 3 u = some "*errors.errorString") : u = 387 :=
 typeName_ptr_named (nm := "errors.errorString") (by rw [starE]; kernel_rfl) (by kernel_rfl) (by decide) u (by rw [starE]; exact h)
theorem cellsE:Tryz.prog.cellsOf 410=1:=by kernel_rfl
theorem cellsS:Tryz.prog.cellsOf 9=1:=by kernel_rfl
structure LaidE where
 num:Int
 name:String
 g:Nat
 text:List UInt8
def LaidE.datum (x : LaidE) : String × DataW Unit := (x.name, .iface "*errors.errorString" (.ptr (.agg [.lit (.string x.text)])))
def LaidE.ok (x:LaidE):Prop:=Tryz.prog.globalNamed x.name=some x.g∧(Tryz.prog.globals[x.g]?).map (·.type)=some 26
theorem sentinels {W : World} : ∀ (L : List LaidE) (ps : List MemPlace), (L.map (·.num)).Nodup → (∀ x ∈ L, x.ok) → DataW.LaidVars Tryz.prog W (L.map LaidE.datum) ps → ps.Nodup →
    (∀b off,MemPlace.cell b off∈ps→(∃c t,W.heap[b]? =some (.cells c t (0,0)))∧∀u v,W.cell? ⟨b,off,none⟩=some (.iface u v)→Value.okWide Tryz.prog W .any 0 u v)→
    ∃ea:Int→Addr,(∀x∈L,ErrIs W x.g (ea x.num)∧MemPlace.cell (ea x.num).block (ea x.num).off∈ps)∧(∀x∈L,∀y∈L,ea x.num=ea y.num→x.num=y.num):=by
 intro L
 induction L with
 | nil=>intro ps _ _ _ _ _;exact⟨fun _=>⟨0,0,none⟩,fun x hx=>by simp at hx,fun x hx=>by simp at hx⟩
 | cons x L ih=>
  intro ps hnum hok h hnd hrows;obtain⟨g0,t0,cs0,f0,p0,q0,hg0,ht0,hv0,hd0,hrest,e0⟩:=h;have hx:=hok x (by simp);obtain rfl:=Option.some.inj (hx.1.symm.trans hg0);obtain rfl:=Option.some.inj (hx.2.symm.trans ht0);subst e0;obtain⟨l0⟩:=cs0;have ok0:∀u v,l0=[.iface u v]→Value.okWide Tryz.prog W .any 0 u v:=fun u v e=>by
   subst e;exact(hrows x.g 0 (by simp[MemPlace.row])).2 u v (by simpa using World.var?_cell hg0 hv0 0)
  obtain⟨a0,s0,rfl,hc0,hs0,hz0,rfl⟩:=errorString_of_trod Tryz.underlying26 rowE Tryz.underlying387 Tryz.underlying410 rfl rfl Tryz.underlying9 cellsE cellsS hd0 ok0;have hn2:=List.nodup_append.1 hnd;obtain⟨ea,h1,h2⟩:=ih q0 (by simpa using(List.nodup_cons.1 hnum).2) (fun y hy=>hok y (by simp[hy])) hrest hn2.2.1 (fun b off hb=>hrows b off (by simp[hb]))
  have hne:∀y∈L,y.num≠x.num:=fun y hy he=>(List.nodup_cons.1 hnum).1 (by
    have:=List.mem_map_of_mem (f:=LaidE.num) hy;rw[he] at this;exact this)
  have hin:MemPlace.cell a0.block a0.off∈MemPlace.row ⟨x.g,0,none⟩ #[Value.iface 387 (.pointer (some a0))].size ++MemPlace.row a0 1:=by simp[MemPlace.row]
  have hcx:ErrIs W x.g a0:=by
   have:=World.var?_cell hg0 hv0 0;simpa[ErrIs] using this
  refine⟨fun m=>if m=x.num then a0 else ea m,fun y hy=> ?_,fun y hy z hz he=> ?_⟩
  · rcases List.mem_cons.1 hy with e | hy'
    · subst e;simp only[if_true];exact⟨hcx,List.mem_append_left _ hin⟩
    · simp only[if_neg (hne y hy')];exact⟨(h1 y hy').1,List.mem_append_right _ (h1 y hy').2⟩
  · rcases List.mem_cons.1 hy with e | hy'<;>rcases List.mem_cons.1 hz with e' | hz'
    · rw[e,e']
    · simp only[e,if_true,if_neg (hne z hz')] at he;have hz2:=(h1 z hz').2;rw[←he] at hz2;exact absurd rfl (hn2.2.2 _ hin _ hz2)
    · simp only[e',if_true,if_neg (hne y hy')] at he;have hy2:=(h1 y hy').2;rw[he] at hy2;exact absurd rfl (hn2.2.2 _ hin _ hy2)
    · simp only[if_neg (hne y hy'),if_neg (hne z hz')] at he;exact h2 y hy' z hz' he
section frame
variable {H:Type} {enc:TypeId×Value→H}
theorem trodAll_below {W W' : World} (hb : Below W.heap.size W W') : ∀ (ts : List TypeId) (vs : List Value) (ds : List (DataW H)) (ps : List MemPlace), (∀ t ∈ ts, Tryz.prog.readableRec t = true ∧ t < Tryz.prog.types.size) →
    DataW.TrodAll enc Tryz.prog W 0 (fun _=>true) true ts vs ds ps→(∀x∈ps,x.block<W.heap.size)→DataW.TrodAll enc Tryz.prog W' 0 (fun b=>decide (b<W.heap.size)) true ts vs ds ps:=by
 intro ts
 induction ts with
 | nil=>
  intro vs ds ps _ h _;obtain⟨rfl,rfl,rfl⟩:=trodAll_nil h;exact trodAll_mk0
 | cons t ts ih=>
  intro vs ds ps hts h hlt;obtain⟨v,vs',d,ds',p,q,rfl,rfl,rfl,hd,hrest⟩:=trodAll_cons h;have h1:=Below.trod Tryz.laidOut (hts t (by simp)).1 (hts t (by simp)).2 hd hb (fun x hx=>hlt x (by simp[hx]));exact trodAll_cons_mk h1 (ih vs' ds' q (fun u hu=>hts u (by simp[hu])) hrest (fun x hx=>hlt x (by simp[hx])))
theorem trodAll_len {W:World} {base:Nat} {sp:Nat→Bool} {held:Bool}:∀{ts:List TypeId} {vs:List Value} {ds:List (DataW H)} {ps:List MemPlace},DataW.TrodAll enc Tryz.prog W base sp held ts vs ds ps→ds.length=ts.length:=by
 intro ts
 induction ts with
 | nil=>
  intro vs ds ps h;obtain⟨rfl,rfl,rfl⟩:=trodAll_nil h;rfl
 | cons t ts ih=>
  intro vs ds ps h;obtain⟨v,vs',d,ds',p,q,rfl,rfl,rfl,hd,hrest⟩:=trodAll_cons h;simp[ih hrest]
theorem frame_post {fn : Func} {s : ChangeSpec} {W W' : World} {args : Array Value} {ds gs : List (DataW H)} {before : List MemPlace}
    (hts:∀t∈fn.params.toList,Tryz.prog.readableRec t=true∧t<Tryz.prog.types.size) (hres:fn.resultTypes= #[4]) (hvars:s.vars=[])
    (hspec:∀ds:List (DataW H),ds.length=fn.params.toList.length→(s.fn H ds).results=[.lit (.bool true)]∧(s.fn H ds).args=ds∧(s.fn H ds).vars=[])
    (hW:DataW.Whole enc Tryz.prog fn.params.toList s.vars false W args.toList ds gs before) (hb:Below W.heap.size W W'):
    s.post enc Tryz.prog fn false true false false W args (.bool true) W':=by
 have hW':=hW;have hlt:=hW.lt;obtain⟨p,q,hA,hV,rfl,hfz,hnd⟩:=hW;rw[hvars] at hV;obtain⟨rfl,rfl⟩:gs=[]∧q=[]:=by
  cases gs with
  | nil=>exact⟨rfl,hV⟩
  | cons g r=>exact absurd hV (by intro h;cases h)
 have hlen:ds.length=fn.params.toList.length:=trodAll_len hA;obtain⟨e1,e2,e3⟩:=hspec ds hlen;refine⟨ds,[],p ++ [],[],p,[],hW',?_,?_,?_,hb.frame _,fun h=>by cases h⟩
 · rw[List.append_nil,e1,hres];exact trodAll_mk1 (shut_bool Tryz.underlying4 true)
 · rw[List.append_nil,e2];exact trodAll_below hb _ _ _ _ hts hA (fun x hx=>hlt x (by simp[hx]))
 · rw[List.append_nil,e3,hvars];rfl
end frame
def err1 : LaidE := ⟨1, "liaison/api.ErrRange", 0, [108, 105, 97, 105, 115, 111, 110, 58, 32, 114, 97, 110, 103, 101]⟩
theorem ok_err1:err1.ok:=⟨by kernel_rfl,by kernel_rfl⟩
def err2 : LaidE := ⟨2, "liaison/api.ErrShort", 1, [108, 105, 97, 105, 115, 111, 110, 58, 32, 115, 104, 111, 114, 116]⟩
theorem ok_err2:err2.ok:=⟨by kernel_rfl,by kernel_rfl⟩
def err3 : LaidE := ⟨3, "liaison/api.ErrLong", 2, [108, 105, 97, 105, 115, 111, 110, 58, 32, 108, 111, 110, 103]⟩
theorem ok_err3:err3.ok:=⟨by kernel_rfl,by kernel_rfl⟩
def err4 : LaidE := ⟨4, "liaison/api.ErrForm", 3, [108, 105, 97, 105, 115, 111, 110, 58, 32, 102, 111, 114, 109]⟩
theorem ok_err4:err4.ok:=⟨by kernel_rfl,by kernel_rfl⟩
def err5 : LaidE := ⟨5, "liaison/api.ErrCheck", 4, [108, 105, 97, 105, 115, 111, 110, 58, 32, 99, 104, 101, 99, 107]⟩
theorem ok_err5:err5.ok:=⟨by kernel_rfl,by kernel_rfl⟩
def err6 : LaidE := ⟨6, "liaison/api.ErrFull", 5, [108, 105, 97, 105, 115, 111, 110, 58, 32, 102, 117, 108, 108]⟩
theorem ok_err6:err6.ok:=⟨by kernel_rfl,by kernel_rfl⟩
def err7 : LaidE := ⟨7, "liaison/api.ErrPower", 6, [108, 105, 97, 105, 115, 111, 110, 58, 32, 112, 111, 119, 101, 114]⟩
theorem ok_err7:err7.ok:=⟨by kernel_rfl,by kernel_rfl⟩
def err8 : LaidE := ⟨8, "liaison/api.ErrNone", 7, [108, 105, 97, 105, 115, 111, 110, 58, 32, 110, 111, 110, 101]⟩
theorem ok_err8:err8.ok:=⟨by kernel_rfl,by kernel_rfl⟩
def err9 : LaidE := ⟨9, "liaison/api.ErrState", 8, [108, 105, 97, 105, 115, 111, 110, 58, 32, 115, 116, 97, 116, 101]⟩
theorem ok_err9:err9.ok:=⟨by kernel_rfl,by kernel_rfl⟩
def err10 : LaidE := ⟨10, "liaison/api.ErrTwice", 9, [108, 105, 97, 105, 115, 111, 110, 58, 32, 116, 119, 105, 99, 101]⟩
theorem ok_err10:err10.ok:=⟨by kernel_rfl,by kernel_rfl⟩
def err11 : LaidE := ⟨11, "liaison/api.ErrDepth", 10, [108, 105, 97, 105, 115, 111, 110, 58, 32, 100, 101, 112, 116, 104]⟩
theorem ok_err11:err11.ok:=⟨by kernel_rfl,by kernel_rfl⟩
def err12 : LaidE := ⟨12, "liaison/api.ErrExpired", 11, [108, 105, 97, 105, 115, 111, 110, 58, 32, 101, 120, 112, 105, 114, 101, 100]⟩
theorem ok_err12:err12.ok:=⟨by kernel_rfl,by kernel_rfl⟩
def err13 : LaidE := ⟨13, "liaison/api.ErrPanic", 12, [108, 105, 97, 105, 115, 111, 110, 58, 32, 112, 97, 110, 105, 99]⟩
theorem ok_err13:err13.ok:=⟨by kernel_rfl,by kernel_rfl⟩
def err14 : LaidE := ⟨14, "liaison/api.ErrProtocol", 13, [108, 105, 97, 105, 115, 111, 110, 58, 32, 112, 114, 111, 116, 111, 99, 111, 108]⟩
theorem ok_err14:err14.ok:=⟨by kernel_rfl,by kernel_rfl⟩
def errs14:List LaidE:=[err1,err2,err3,err4,err5,err6,err7,err8,err9,err10,err11,err12,err13,err14]
theorem num14 (i:Int) (h1:1≤i) (h2:i≤14):∃x∈errs14,x.num=i:=by
 obtain⟨n,rfl⟩:=nat14 ⟨h1,h2⟩;have h0:n≠0:=fun h=>by rw[h] at h1;exact absurd h1 (by decide)
 revert n;decide
theorem ok14:∀x∈errs14,x.ok:=by
 intro x hx;simp only[errs14,List.mem_cons,List.not_mem_nil,or_false] at hx;rcases hx with rfl | rfl | rfl | rfl | rfl | rfl | rfl | rfl | rfl | rfl | rfl | rfl | rfl | rfl
 · exact ok_err1
 · exact ok_err2
 · exact ok_err3
 · exact ok_err4
 · exact ok_err5
 · exact ok_err6
 · exact ok_err7
 · exact ok_err8
 · exact ok_err9
 · exact ok_err10
 · exact ok_err11
 · exact ok_err12
 · exact ok_err13
 · exact ok_err14
theorem errs_of_laid {W:World} {l:List (String×DataW Unit)} (hl:l=errs14.map LaidE.datum) (h:laidMetH Tryz.prog l W):∃ea,Errs ea W:=by
 rw[MakeChecks.laidMetH_plain _ _ _ (by rw[hl];rfl)] at h;obtain⟨ps,h,hnd,hrows⟩:=h;rw[hl] at h;obtain⟨ea,h1,h2⟩:=sentinels errs14 ps (by decide) ok14 h hnd hrows;have hm:∀i:Int,1≤i→i≤14→∃x∈errs14,x.num=i:=num14
 refine⟨ea,(h1 err1 (by simp[errs14])).1,(h1 err2 (by simp[errs14])).1,(h1 err3 (by simp[errs14])).1,(h1 err4 (by simp[errs14])).1,(h1 err5 (by simp[errs14])).1,(h1 err6 (by simp[errs14])).1,(h1 err7 (by simp[errs14])).1,(h1 err8 (by simp[errs14])).1,(h1 err9 (by simp[errs14])).1,(h1 err10 (by simp[errs14])).1,(h1 err11 (by simp[errs14])).1,(h1 err12 (by simp[errs14])).1,(h1 err13 (by simp[errs14])).1,(h1 err14 (by simp[errs14])).1,?_,?_⟩
 · intro i j a b c d he;obtain⟨x,hx,rfl⟩:=hm i a b;obtain⟨y,hy,rfl⟩:=hm j c d;exact h2 x hx y hy he
 · intro i a b;obtain⟨x,hx,rfl⟩:=hm i a b;exact(hrows _ _ (h1 x hx).2).1
section wrap
variable {H:Type} {enc:TypeId×Value→H}
theorem handed_and_shaped {a : Assume} {C : Checked} {os : Os} {f : FuncId} {fn : Func} {s : ChangeSpec} {conds : List PathCond} {apart fresh handsOn again : Bool} {X : World → Array Value → Prop}
    (hX:∀(w w':World) (args:Array Value),w.heap=w'.heap→X w args→X w' args)
    (own:ownKnob C.prog.godebug=none) (started:os.Started) (noInit:C.prog.inits.idxOf? f=none) (hfn:C.prog.funcs[f]? =some fn)
    (witness:∃(w:World) (tape:Tape) (i:Input),w.os=os∧(w.forCall tape i).Shaped C.prog∧i.vars=[]∧Input.okWide C.prog (w.forCall tape i) .any w.heap.size f i∧
      ((s.pre enc C.prog fn conds apart (w.forCall tape i).memory i.args∧X (w.forCall tape i).memory i.args)∧sizedMet enc C.prog fn (OpenSpec.ofChange s) apart (w.forCall tape i).memory i.args)∧a.holds C.prog (lone (Frame.enter C.prog f i.args .normal) [] (w.forCall tape i)))
    (contract:∀(W:World) (base:Nat) (args:Array Value) (ds gs:List (DataW H)) (before:List MemPlace),
      (∀(j:Nat) t v,fn.params[j]? =some t→args[j]? =some v→Value.okWide C.prog W .any base t v)→
      DataW.Whole enc C.prog fn.params.toList s.vars apart W args.toList ds gs before→
      conds.all (PathCond.test C.prog ⟨fn.params.toList,ds,s.plain.varTypes C.prog,gs⟩)=true→
      (DataW.weightsEach C.prog (fn.params.toList ++s.plain.varTypes C.prog) (ds ++gs)).all (·≤reachBytes)=true→X W args→W.ShapedOpen C.prog→
      a.holds C.prog (lone (Frame.enter C.prog f args .normal) [] W)→
      Calls C.prog f args W fun e W'=>∃v,e=.returned v∧s.post enc C.prog fn apart fresh handsOn again W args v W'):
    ReturnsInHanded a C os f .any (fun w args=>(s.pre enc C.prog fn conds apart w args∧X w args)∧sizedMet enc C.prog fn (OpenSpec.ofChange s) apart w args) (s.post enc C.prog fn apart fresh handsOn again):=by
 refine returnsInHanded_of_calls own started noInit witness ?_;intro w tape i _ hsh _ hok hpre hholds;obtain⟨_,_,_,fn',hfn',_,_,_,_,hval⟩:=hok;have e:fn'=fn:=Option.some.inj (hfn'.symm.trans hfn);subst e;obtain⟨⟨⟨ds,gs,before,hw,hc⟩,hx⟩,hz⟩:=hpre;have hw':=DataW.Whole.of_heap (w':=w.forCall tape i) (by rfl) hw
 refine(contract (w.forCall tape i) w.heap.size i.args ds gs before hval hw' hc (hz.weights hw) (hX _ _ _ (by rfl) hx) hsh hholds).mono fun e W' ⟨v,he,hp⟩=> ?_
 subst he;exact ChangeSpec.post_blind hp
end wrap
theorem laidVars_parts {P:Program} {W:World}:∀(A B:List (String×DataW Unit)) (ps:List MemPlace),DataW.LaidVars P W (A ++B) ps→∃p q,ps=p ++q∧DataW.LaidVars P W A p∧DataW.LaidVars P W B q
 | [],_,ps,h=>⟨[],ps,rfl,rfl,h⟩
 | (n,d)::A,B,ps,h=>by
  obtain⟨g0,t0,cs0,f0,p0,q0,hg0,ht0,hv0,hd0,hrest,e0⟩:=h;obtain⟨p,q,rfl,h1,h2⟩:=laidVars_parts A B q0 hrest;exact⟨MemPlace.row ⟨g0,0,none⟩ cs0.size ++p0 ++p,q,by rw[e0];simp[List.append_assoc],⟨g0,t0,cs0,f0,p0,p,hg0,ht0,hv0,hd0,h1,rfl⟩,h2⟩
theorem laidMet_parts {P:Program} {W:World} {A B:List (String×DataW Unit)} (h:laidMet P (A ++B) W):laidMet P A W∧laidMet P B W:=by
 obtain⟨ps,h,hnd,hrows⟩:=h;obtain⟨p,q,rfl,h1,h2⟩:=laidVars_parts A B ps h;have hn:=List.nodup_append.1 hnd;exact⟨⟨p,h1,hn.1,fun b off hb=>hrows b off (List.mem_append_left _ hb)⟩,⟨q,h2,hn.2.1,fun b off hb=>hrows b off (List.mem_append_right _ hb)⟩⟩
theorem pow10_dataS:(Lib.tabData .u64 Lib.pow10Tab:DataW Unit)=Rows.laid_internal_strconv_uint64pow10:=by kernel_rfl
theorem errsS_of_met {W:World} (h:laidMet Tryz.prog (errs14.map LaidE.datum) W):∃ea,Errs ea W:=
 errs_of_laid rfl (by rw[MakeChecks.laidMetH_plain _ _ _ (by rfl)];exact h)
theorem envS_of_laid {W : World} {A : List (String × DataW Unit)} {B : List (String × DataW Unit)} {l : List (String × DataW Unit)}
    (hl : l = A ++ (("internal/strconv.uint64pow10", Lib.tabData .u64 Lib.pow10Tab) :: B) ∧ ∃ D, B = errs14.map LaidE.datum ++ D) (hp : (l.all fun x => x.2.handleName?.isNone) = true) (h : laidMetH Tryz.prog l W) : ∃ ea, EnvS ea W := by
 rw[MakeChecks.laidMetH_plain _ _ _ hp] at h;obtain⟨rfl,D,rfl⟩:=hl;have h2:=(laidMet_parts h).2
 have h3 := (laidMet_parts (A := [("internal/strconv.uint64pow10", Lib.tabData .u64 Lib.pow10Tab)]) (B := errs14.map LaidE.datum ++ D) h2).2
 have h4:=(laidMet_parts h3).1;obtain⟨ea,he⟩:=errsS_of_met h4;exact⟨ea,he,Lib.tabIs_of_head (g:=15) (t:=380) (e:=202) (n:=20) (by kernel_rfl) (by kernel_rfl) Tryz.underlying380 Tryz.underlying202 (by kernel_rfl) (by kernel_rfl) h2⟩
theorem open_dec {H:Type} {enc:TypeId×Value→H} {W:World} {v:Value} {r:Reach} {b0:Nat} {d:DataW H} {p:List MemPlace} {sp:Nat→Bool} (hv:Value.okWide Tryz.prog W r b0 110 v) (h:DataW.Trod enc Tryz.prog W 0 sp true 110 v d p):∃(n0:Int) (n1:Int) (b2:Bool) (b3:Bool),v=.agg #[n0,n1,.bool b2,.bool b3]:=by
 obtain⟨cs,rfl,hsz⟩:=okWide_struct Tryz.underlying110 hv;obtain⟨l⟩:=cs
 match l,hsz.trans (show Tryz.prog.cellsOf 110=4 by kernel_rfl) with
 | [v0,v1,v2,v3],_=>
  obtain⟨fuel,hf⟩:=h;obtain⟨xs0,k0,hk0,hxy0,_,hxl0,hfs0⟩:=DataW.trod_struct Tryz.underlying110 hf
  match xs0,hxl0 with
  | [y0_0,y0_1,y0_2],_=>
   have g0_0:=hfs0 0 _ rfl;have g0_1:=hfs0 1 _ rfl;have g0_2:=hfs0 2 _ rfl;simp[Value.cells,show Tryz.prog.cellsOf 36=2 by kernel_rfl,show Tryz.prog.cellsOf 4=1 by kernel_rfl] at g0_0 g0_1 g0_2;obtain⟨xs1,k1,hk1,hxy1,_,hxl1,hfs1⟩:=DataW.trod_struct Tryz.underlying36 g0_0
   match xs1,hxl1 with
   | [y1_0,y1_1],_=>
    have g1_0:=hfs1 0 _ rfl;have g1_1:=hfs1 1 _ rfl;simp[Value.cells,show Tryz.prog.cellsOf 3=1 by kernel_rfl] at g1_0 g1_1;obtain⟨z0,e0,_⟩:=DataW.trod_int Tryz.underlying3 g1_0
    (try simp only[List.cons.injEq,and_true] at e0)
    obtain⟨z1,e1,_⟩:=DataW.trod_int Tryz.underlying3 g1_1
    (try simp only[List.cons.injEq,and_true] at e1)
    obtain⟨z2,e2,_⟩:=DataW.trod_bool Tryz.underlying4 g0_1
    (try simp only[List.cons.injEq,and_true] at e2)
    obtain⟨z3,e3,_⟩:=DataW.trod_bool Tryz.underlying4 g0_2
    (try simp only[List.cons.injEq,and_true] at e3)
    subst e0 e1 e2 e3;exact⟨z0,z1,z2,z3,rfl⟩
theorem js_laid:laidOutB Tryz.pinned.checked.prog=true:=by kernel_rfl
theorem js_maps:mapsRowed Tryz.pinned.checked.prog=true:=by kernel_rfl
theorem js_heard:Tryz.pinned.checked.prog.stopsHeard=true:=by kernel_rfl
theorem js_enter:Tryz.pinned.checked.prog.mayEnter=true:=by kernel_rfl
theorem js_plain:(Rows.partnerOnceRow.plainKeys==Tryz.pinned.checked.prog.plainKeys)=true:=by kernel_rfl
theorem js_lift:(Rows.partnerOnceRow.lifted==Tryz.pinned.checked.prog.liftsFinal)=true:=by kernel_rfl
theorem js_make:(Tryz.pinned.checked.prog.make==some Rows.partnerOnceRow.make)=true:=by kernel_rfl
end Go.Proofs.YtlkajejbfojkeaaGreatDoor
