/- RstE, RstQ, FbL, OpF, OpH, Sent, Errs, WrapS, LaidS, StoreReplaysL, JoinS, StoreReplaysJ -/
import Derived.Test.YtlkajejbfojkeaaGreatDoorKRstN
import Derived.Test.YtlkajejbfojkeaaGreatDoorKRstM
import Derived.Test.YtlkajejbfojkeaaGreatDoorKRstJ
import Derived.Test.YtlkajejbfojkeaaGreatDoorKRstI
import Derived.Test.YtlkajejbfojkeaaGreatDoorKRstH
import Derived.Test.YtlkajejbfojkeaaGreatDoorKRstG
import Derived.Test.YtlkajejbfojkeaaGreatDoorKRstF
import Derived.ChangeArms
import Derived.Deep.Slices
import Derived.Deep.Matrix
import Derived.ProofKit
import Derived.LaidMore
import Derived.OpenShut
import Derived.Stop.Joined
import Derived.Carry
import Derived.SevenTiedAt
import Derived.HandedShaped
import Derived.Shelf.Vars
import Derived.Lib.LaidTab
import Derived.Lay
import Derived.JoinedOf
set_option linter.unusedSimpArgs false
set_option linter.unusedVariables false
set_option maxRecDepth 100000
set_option maxHeartbeats 16000000
namespace Go.Proofs.YtlkajejbfojkeaaGreatDoor
open Go.RowKit
theorem rnopart7 (R : RLoc) (S : Sto) (f : SFact) (w : World) (hx : F64 f.ex) (h : RStoreAt R S w) (hok : fok f = true) (hk : f.k = 7) (hi : (S.parts.length : Int) ≤ f.pt) :
    Calls Tryz.prog 22 #[.pointer (some ⟨R.sb,0,none⟩),factV f] w (RApplyEnds R S 9 w):=by
 have hR:=fun W=>rright14_of f hx W
 rw[hok] at hR;obtain⟨a,cap,hv,hn,hr⟩:=part_row h.parts;have HR:=qq hR;have H:=qq h;have hsb:=h.blk.lt;obtain⟨n,hnn⟩:∃n,n=S.parts.length:=⟨_,rfl⟩
 rw[←hnn] at hv hi;have HQ:=qq (fun W (hW:RStoreAt R S W)=>(show W.cell? ⟨R.sb,3,none⟩=some (.slice a n cap) by rw[←hv];exact hW.blk.cell 3));obtain⟨k,an,aq,rg,nd,pt,pr,oc,dp,pa,st,hw,de,ex⟩:=f;dsimp only at hi hk;subst hk;dsimp only[factV,factC] at*;clear hR h hok hx hnn hn hr hv;go_enter Tryz.func22,Tryz.ntmps22;go_wp2_with fail
 (with_reducible refine(HR.out _).mono ?_)
 rintro e w1 ⟨rfl,hb1⟩;have B1:Below w.heap.size w w1:=below_then (by go_grown) hb1;have HK1:=qq ((Blk.fresh w #[.int .i64 7,an,aq,rg,nd,pt,pr,oc,dp,pa,st,hw,de,.float .f64 ex] 42 _ rfl).below hb1);have hz1:=hb1.size;simp only[World.size_alloc] at hz1;have hs1:R.sb<w1.heap.size:=by omega
 have hs2:w.heap.size<w1.heap.size:=by omega
 obtain⟨q,qf⟩:=HK1.out.out;have c3:=HQ.out _ (H.out.below B1);have hi3:decide ((n:Int)≤pt)=true:=decide_eq_true hi;go_wp2_with fail;go_region
 all_goals go_wp2_with fail
 all_goals go_ret
 all_goals exact⟨rfl,RGoes.same H.out (below_then B1 (by go_grown))⟩
theorem rpart7_yes (R : RLoc) (S : Sto) (f : SFact) (i : Nat) (p : SPart) (w : World) (hx : F64 f.ex) (h : RStoreAt R S w) (hok : fok f = true) (hk : f.k = 7) (hi : f.pt = (i : Int)) (hp : S.parts[i]? = some p) (hr7 : p.rg = -1) :
    Calls Tryz.prog 22 #[.pointer (some ⟨R.sb,0,none⟩),factV f] w (RApplyEnds R {S with parts:=S.parts.set i {p with rg:=f.rg}} 0 w):=by
 have hR:=fun W=>rright14_of f hx W
 rw[hok] at hR;obtain⟨a,cap,hv,hn,hr⟩:=part_row h.parts;have hil:=(List.getElem?_eq_some_iff.1 hp).1;obtain⟨g,rfl,hg,hfz,hcell⟩:=hr (by omega);have hcl:=hcell i p hp;have HG:=qq (fun w2 (hb:Below w.heap.size w w2)=>rrg_part_goes h hb hv hp f.rg);obtain⟨n,hnn⟩:∃n,n=S.parts.length:=⟨_,rfl⟩
 rw[←hnn] at hv hil;have HR:=qq hR;have HCL:=qq hcl;have HFZ:=qq hfz;have hsb:=h.blk.lt;have HQ:=qq (show w.cell? ⟨R.sb,3,none⟩=some (.slice (some ⟨g,0,none⟩) n cap) by rw[←hv];exact h.blk.cell 3);have hi0:(0:Int)≤(i:Int):=by omega
 have hi1:(i:Int)<(n:Int):=by omega
 have hi2:¬(n:Int)≤(i:Int):=by omega
 have hi3:decide ((n:Int)≤(i:Int))=false:=decide_eq_false hi2;have hi4:¬n≤i:=by omega
 have hi5:decide (n≤i)=false:=decide_eq_false hi4;obtain⟨pan,paq,prg,⟨sp,sd,ss,sh⟩⟩:=p;obtain⟨k,an,aq,rg,nd,pt,pr,oc,dp,pa,st,hw,de,ex⟩:=f;dsimp only at hi hk;subst hk;subst hi;dsimp only[factV,factC] at*;subst hr7;clear hR h hok hx hnn hn hr hv hcl hcell hp hfz;go_enter Tryz.func22,Tryz.ntmps22;go_wp2_with fail
 (with_reducible refine(HR.out _).mono ?_)
 rintro e w1 ⟨rfl,hb1⟩;have B1:Below w.heap.size w w1:=below_then (by go_grown) hb1;have HK1:=qq ((Blk.fresh w #[.int .i64 7,an,aq,rg,nd,(i:Int),pr,oc,dp,pa,st,hw,de,.float .f64 ex] 42 _ rfl).below hb1);have hz1:=hb1.size;simp only[World.size_alloc] at hz1;have hs1:R.sb<w1.heap.size:=by omega
 have hs2:w.heap.size<w1.heap.size:=by omega
 obtain⟨q,qf⟩:=HK1.out.out;have hg1:g<w1.heap.size:=by omega
 obtain⟨pc0,pc1,pc2,pc3,pc4,pc5,pc6⟩:=PartC.below HCL.out B1 hg;have f1:∀j,w1.frozen? ⟨g,j,none⟩=false:=fun j=>(B1.frozen (p:=⟨g,j,none⟩) hg).trans (HFZ.out j)
 have c3:=(B1.cell (p:=⟨R.sb,3,none⟩) hsb).trans HQ.out;dsimp only at pc0 pc1 pc2 pc3 pc4 pc5 pc6;clear pc0 pc1 pc3 pc4 pc5 pc6;go_wp2_with fail;go_region
 all_goals go_wp2_with fail
 go_region
 all_goals go_wp2_with fail
 all_goals go_ret
 all_goals exact⟨rfl,(HG.out _ (below_then B1 (by go_grown))).then_below (by go_grown)⟩
theorem rpart7_no (R : RLoc) (S : Sto) (f : SFact) (i : Nat) (p : SPart) (w : World) (hx : F64 f.ex) (h : RStoreAt R S w) (hok : fok f = true) (hk : f.k = 7) (hi : f.pt = (i : Int)) (hp : S.parts[i]? = some p) (hr7 : 0 ≤ p.rg) :
    Calls Tryz.prog 22 #[.pointer (some ⟨R.sb,0,none⟩),factV f] w (RApplyEnds R S 9 w):=by
 have hR:=fun W=>rright14_of f hx W
 rw[hok] at hR;obtain⟨a,cap,hv,hn,hr⟩:=part_row h.parts;have hil:=(List.getElem?_eq_some_iff.1 hp).1;obtain⟨g,rfl,hg,hfz,hcell⟩:=hr (by omega);have hcl:=hcell i p hp;have HG:=qq (fun w2 (hb:Below w.heap.size w w2)=>RGoes.same h hb);obtain⟨n,hnn⟩:∃n,n=S.parts.length:=⟨_,rfl⟩
 rw[←hnn] at hv hil;have HR:=qq hR;have HCL:=qq hcl;have HFZ:=qq hfz;have hsb:=h.blk.lt;have HQ:=qq (show w.cell? ⟨R.sb,3,none⟩=some (.slice (some ⟨g,0,none⟩) n cap) by rw[←hv];exact h.blk.cell 3);have hi0:(0:Int)≤(i:Int):=by omega
 have hi1:(i:Int)<(n:Int):=by omega
 have hi2:¬(n:Int)≤(i:Int):=by omega
 have hi3:decide ((n:Int)≤(i:Int))=false:=decide_eq_false hi2;have hi4:¬n≤i:=by omega
 have hi5:decide (n≤i)=false:=decide_eq_false hi4;obtain⟨pan,paq,prg,⟨sp,sd,ss,sh⟩⟩:=p;obtain⟨k,an,aq,rg,nd,pt,pr,oc,dp,pa,st,hw,de,ex⟩:=f;dsimp only at hi hk;subst hk;subst hi;dsimp only[factV,factC] at*;have hr8:decide ((0:Int)≤prg)=true:=decide_eq_true hr7;clear hR h hok hx hnn hn hr hv hcl hcell hp hfz;go_enter Tryz.func22,Tryz.ntmps22;go_wp2_with fail
 (with_reducible refine(HR.out _).mono ?_)
 rintro e w1 ⟨rfl,hb1⟩;have B1:Below w.heap.size w w1:=below_then (by go_grown) hb1;have HK1:=qq ((Blk.fresh w #[.int .i64 7,an,aq,rg,nd,(i:Int),pr,oc,dp,pa,st,hw,de,.float .f64 ex] 42 _ rfl).below hb1);have hz1:=hb1.size;simp only[World.size_alloc] at hz1;have hs1:R.sb<w1.heap.size:=by omega
 have hs2:w.heap.size<w1.heap.size:=by omega
 obtain⟨q,qf⟩:=HK1.out.out;have hg1:g<w1.heap.size:=by omega
 obtain⟨pc0,pc1,pc2,pc3,pc4,pc5,pc6⟩:=PartC.below HCL.out B1 hg;have f1:∀j,w1.frozen? ⟨g,j,none⟩=false:=fun j=>(B1.frozen (p:=⟨g,j,none⟩) hg).trans (HFZ.out j)
 have c3:=(B1.cell (p:=⟨R.sb,3,none⟩) hsb).trans HQ.out;dsimp only at pc0 pc1 pc2 pc3 pc4 pc5 pc6;clear pc0 pc1 pc3 pc4 pc5 pc6;go_wp2_with fail;go_region
 all_goals go_wp2_with fail
 all_goals go_ret
 all_goals exact⟨rfl,HG.out _ (below_then B1 (by go_grown))⟩
theorem rapply_of (R : RLoc) (S : Sto) (f : SFact) (w : World) (hx : F64 f.ex) (h : RStoreAt R S w) (hG : StoGood S) :
    Calls Tryz.prog 22 #[.pointer (some ⟨R.sb,0,none⟩),factV f] w (RApplyEnds R (sapply S f).1 (sapply S f).2 w):=by
 cases hok:fok f with
 | false=>
  have e:sapply S f=(S,4):=by unfold sapply;rw[if_pos hok]
  rw[e];exact rapply_bad R S f w hx h hok
 | true=>
  have hs:∀T,sput S f=some T→sapply S f=(T,0):=fun T hT=>by unfold sapply;rw[if_neg (by rw[hok];simp),hT]
  have hn:sput S f=none→sapply S f=(S,9):=fun hT=>by unfold sapply;rw[if_neg (by rw[hok];simp),hT]
  have hkk:=fok_any hok;by_cases k1:f.k=1
  · obtain⟨f1,f2,f3⟩:=fok1 hok k1;have fi:=ctxOk_id f1;by_cases c1:f.an=S.node
    case neg=>
     have e:sput S f=none:=by unfold sput;rw[if_pos k1,if_pos (.inl c1)]
     rw[hn e];exact ropen_no1 R S f w hx h hok k1 c1
    by_cases c2:S.next≤f.aq
    case neg=>
     have e:sput S f=none:=by unfold sput;rw[if_pos k1,if_pos (.inr (.inl (by omega)))]
     rw[hn e];exact ropen_no2 R S f w hx h hok k1 c1 (by omega)
    by_cases c3:S.acts.length<8
    case neg=>
     have e:sput S f=none:=by unfold sput;rw[if_pos k1,if_pos (.inr (.inr (.inl (by omega))))]
     rw[hn e];exact ropen_no3 R S f w hx h hok k1 c1 c2 (by omega)
    by_cases c4:0<f.pa→f.pa≤(S.parts.length:Int)∧schild S f.pa=none
    · have e:sput S f=some {S with next:=f.aq+1,acts:=S.acts ++ [⟨f.an,f.aq,f.oc,f.dp,f.ex,f.pa,0,[]⟩]}:=by
       unfold sput;rw[if_pos k1,if_neg];rintro(e | e | e | ⟨e1,e2⟩)
       · exact e c1
       · omega
       · omega
       · obtain⟨q1,q2⟩:=c4 e1;rcases e2 with e2 | e2
         · omega
         · rw[q2] at e2;cases e2
      rw[hs _ e];by_cases c5:0<f.pa
      · exact ropen_yes2 R S f w hx h hok k1 ⟨fi.2.2.1,fi.2.2.2⟩ ⟨f2,f3⟩ c1 c2 c3 c5 (c4 c5).1 (c4 c5).2
      · exact ropen_yes1 R S f w hx h hok k1 ⟨fi.2.2.1,fi.2.2.2⟩ ⟨f2,f3⟩ c1 c2 c3 (by omega)
    · have c5:0<f.pa:=Decidable.byContradiction fun e=>c4 (fun e'=>absurd e' e)
      by_cases c6:f.pa≤(S.parts.length:Int)
      · cases hc:schild S f.pa with
        | none=>exact absurd (fun _=>⟨c6,hc⟩) c4
        | some i=>
         have e:sput S f=none:=by unfold sput;rw[if_pos k1,if_pos (.inr (.inr (.inr ⟨c5,.inr (by rw[hc];rfl)⟩)))]
         rw[hn e];exact ropen_no5 R S f w hx h hok k1 hG.acts c1 c2 c3 c5 f3 c6 i hc
      · have e:sput S f=none:=by unfold sput;rw[if_pos k1,if_pos (.inr (.inr (.inr ⟨c5,.inl (by omega)⟩)))]
        rw[hn e];exact ropen_no4 R S f w hx h hok k1 hG.acts c1 c2 c3 c5 f3 (by omega)
  by_cases k6:f.k=6
  · obtain⟨f1,f2,f3,f4,f5⟩:=fok6 hok k6;by_cases c:f.pt=(S.parts.length:Int)
    · have e:sput S f=some {S with parts:=S.parts ++ [⟨f.an,f.aq,-1,⟨f.pr,2,1,0⟩⟩]}:=by unfold sput;rw[if_neg k1,if_pos k6,if_neg (by simp[c])]
      rw[hs _ e];exact rjoin_yes R S f w hx h hok k6 hG.parts c
    · have e:sput S f=none:=by unfold sput;rw[if_neg k1,if_pos k6,if_pos c]
      rw[hn e];exact rjoin_no R S f w hx h hok k6 c
  by_cases k78:f.k=7∨f.k=8
  · have h0:0≤f.pt:=by
     rcases k78 with k | k
     · exact(fok7 hok k).1
     · exact(fok8 hok k).1
    by_cases c:f.pt<(S.parts.length:Int)
    case neg=>
     have e:sput S f=none:=by
      unfold sput;rw[if_neg k1,if_neg k6,if_pos k78,List.getElem?_eq_none (by omega)]
     rw[hn e];rcases k78 with k7 | k8
     · exact rnopart7 R S f w hx h hok k7 (by omega)
     · exact rnopart8 R S f w hx h hok k8 (by omega)
    obtain⟨i,hi⟩:∃i:Nat,f.pt=(i:Int):=⟨f.pt.toNat,by omega⟩
    have hil:i<S.parts.length:=by omega
    have hp:S.parts[i]? =some S.parts[i]:=List.getElem?_eq_getElem hil;have hit:f.pt.toNat=i:=by omega
    obtain⟨p,hpe⟩:∃p,p=S.parts[i]:=⟨_,rfl⟩
    rw[←hpe] at hp;by_cases k8:f.k=8
    · cases ht:sturn p.seat f.st f.hw with
      | none=>
       have e:sput S f=none:=by
        unfold sput;rw[if_neg k1,if_neg k6,if_pos k78,hit,hp];simp only;rw[if_pos k8,ht];rfl
       rw[hn e];exact rpart8_no R S f i p w hx h hok k8 hi hp (turnOk_none ht)
      | some t=>
       have e:sput S f=some {S with parts:=S.parts.set i {p with seat:=t}}:=by
        unfold sput;rw[if_neg k1,if_neg k6,if_pos k78,hit,hp];simp only;rw[if_pos k8,ht];rfl
       rw[hs _ e];obtain⟨q1,q2⟩:=turnOk_some ht;subst q2;exact rpart8_yes R S f i p w hx h hok k8 hi hp q1
    · have k7:=k78.resolve_right k8;by_cases hr:p.rg= -1
      · have e:sput S f=some {S with parts:=S.parts.set i {p with rg:=f.rg}}:=by
         unfold sput;rw[if_neg k1,if_neg k6,if_pos k78,hit,hp];simp only;rw[if_neg k8,if_neg (by simp[hr])]
        rw[hs _ e];exact rpart7_yes R S f i p w hx h hok k7 hi hp hr
      · have e:sput S f=none:=by
         unfold sput;rw[if_neg k1,if_neg k6,if_pos k78,hit,hp];simp only;rw[if_neg k8,if_pos hr]
        rw[hn e];exact rpart7_no R S f i p w hx h hok k7 hi hp (by have:=(hG.part p (List.mem_of_getElem? hp)).2.1;omega)
  have hk4:f.k≠1∧f.k≠6∧f.k≠7∧f.k≠8:=⟨k1,k6,fun e=>k78 (.inl e),fun e=>k78 (.inr e)⟩
  cases hi:sfind S f.an f.aq with
  | none=>
   have e:sput S f=none:=by unfold sput;rw[if_neg k1,if_neg k6,if_neg k78,hi]
   rw[hn e];exact rapply_noact R S f w hx h hG.acts hok hk4 hi
  | some i=>
   have hil:i<S.acts.length:=by unfold sfind at hi;exact(List.findIdx?_eq_some_iff_getElem.1 hi).1
   obtain⟨a,ha⟩:∃a,S.acts[i]? =some a:=⟨_,List.getElem?_eq_getElem hil⟩
   obtain⟨x,hxi⟩:∃x,R.rv[i]? =some x:=⟨_,List.getElem?_eq_getElem (by rw[h.len];exact hil)⟩
   have hA:=hG.act a (List.mem_of_getElem? ha);have hl:=hA.len;have hsp:sput S f=if f.k=5 then(if(a.regs.any fun r=>decide (r.seat.s≠14))=true then none else some {S with acts:=S.acts.take i ++S.acts.drop (i+1)}) else(sact a f).map fun b=>{S with acts:=S.acts.set i b}:=by
    unfold sput;rw[if_neg k1,if_neg k6,if_neg k78,hi];simp only;rw[ha]
   have yes:∀T,sput S f=some T→(∀W,Below w.heap.size w W→Calls Tryz.prog 93 #[.pointer (some ⟨R.sb,0,none⟩),.int .i64 (i:Int),factV f] W fun e w'=>e=.returned (.bool true)∧RGoes R T W w')→Calls Tryz.prog 22 #[.pointer (some ⟨R.sb,0,none⟩),factV f] w (RApplyEnds R (sapply S f).1 (sapply S f).2 w):=fun T hT hC=>by
    rw[hs _ hT];exact rapply_act R S T f i true w hx h hG.acts hok hk4 hi hC
   have no:sput S f=none→(∀W,Below w.heap.size w W→Calls Tryz.prog 93 #[.pointer (some ⟨R.sb,0,none⟩),.int .i64 (i:Int),factV f] W fun e w'=>e=.returned (.bool false)∧RGoes R S W w')→Calls Tryz.prog 22 #[.pointer (some ⟨R.sb,0,none⟩),factV f] w (RApplyEnds R (sapply S f).1 (sapply S f).2 w):=fun hT hC=>by
    rw[hn hT];exact rapply_act R S S f i false w hx h hG.acts hok hk4 hi hC
   have hxl:∀W,Below w.heap.size w W→RStoreAt R S W:=fun W hW=>h.below hW
   by_cases k5:f.k=5
   · rw[if_pos k5] at hsp
     cases hany:(a.regs.any fun r=>decide (r.seat.s≠14)) with
     | true=>
      rw[hany,if_pos rfl] at hsp;exact no hsp (fun W hW=>ract5_no R S f i a x W (hxl W hW) hG.acts k5 hxi ha hl hany)
     | false=>
      rw[hany,if_neg (by simp)] at hsp;exact yes _ hsp (fun W hW=>ract5_yes R S f i a x W (hxl W hW) hG.acts k5 hxi ha hl hany)
   rw[if_neg k5] at hsp;by_cases k2:f.k=2
   · obtain⟨f1,f2,f3,f4,f5,f6,f7,f8,f9⟩:=fok2 hok k2;by_cases c1:f.rg=(a.regs.length:Int)
     case neg=>
      have e:sact a f=none:=by unfold sact;rw[if_pos k2,if_pos (.inl c1)]
      rw[e] at hsp;exact no hsp (fun W hW=>ract2_no1 R S f i a x W (hxl W hW) hG.acts k2 hxi ha c1)
     by_cases c2:a.de=0
     case neg=>
      have e:sact a f=none:=by unfold sact;rw[if_pos k2,if_pos (.inr (.inl c2))]
      rw[e] at hsp;exact no hsp (fun W hW=>ract2_no2 R S f i a x W (hxl W hW) hG.acts k2 hxi ha c1 c2)
     cases hany:(a.regs.any fun r=>decide (r.n=f.nd∧r.p=f.pt)) with
     | true=>
      have e:sact a f=none:=by unfold sact;rw[if_pos k2,if_pos (.inr (.inr hany))]
      rw[e] at hsp;exact no hsp (fun W hW=>ract2_no3 R S f i a x W (hxl W hW) hG.acts k2 hxi ha hl c1 c2 hany)
     | false=>
      have e:sact a f=some {a with regs:=a.regs ++ [⟨f.nd,f.pt,⟨f.pr,1,1,0⟩⟩]}:=by
       unfold sact;rw[if_pos k2,if_neg];rintro(e | e | e)
       · exact e c1
       · exact e c2
       · rw[hany] at e;cases e
      rw[e] at hsp;exact yes _ hsp (fun W hW=>ract2_yes R S f i a x W (hxl W hW) hG.acts k2 hxi ha hl c1 c2 hany)
   by_cases k3:f.k=3
   · obtain⟨f1,f2,f3,f4⟩:=fok3 hok k3;have hsa : sact a f = match a.regs[f.rg.toNat]? with
         | none=>none
         | some r=>(sturn r.seat f.st f.hw).map fun t=>{a with regs:=a.regs.set f.rg.toNat {r with seat:=t}}:=by
      unfold sact;rw[if_neg k2,if_pos k3];cases a.regs[f.rg.toNat]? <;>rfl
     by_cases c1:f.rg<(a.regs.length:Int)
     case neg=>
      have e:sact a f=none:=by rw[hsa,List.getElem?_eq_none (by omega)]
      rw[e] at hsp;exact no hsp (fun W hW=>ract3_len R S f i a x W (hxl W hW) hG.acts k3 hxi ha (by omega))
     obtain⟨j,hj⟩:∃j:Nat,f.rg=(j:Int):=⟨f.rg.toNat,by omega⟩
     have hjt:f.rg.toNat=j:=by omega
     obtain⟨r,hr⟩:∃r,a.regs[j]? =some r:=⟨_,List.getElem?_eq_getElem (by omega)⟩
     rw[hjt,hr] at hsa;simp only at hsa
     cases ht:sturn r.seat f.st f.hw with
     | none=>
      rw[ht] at hsa;rw[hsa] at hsp;exact no hsp (fun W hW=>ract3_no R S f i a x j r W (hxl W hW) hG.acts k3 hxi ha hj hr hl (turnOk_none ht))
     | some t=>
      rw[ht] at hsa;rw[hsa] at hsp;obtain⟨q1,q2⟩:=turnOk_some ht;subst q2;exact yes _ hsp (fun W hW=>ract3_yes R S f i a x j r W (hxl W hW) hG.acts k3 hxi ha hj hr hl q1)
   have k4:f.k=4:=by omega
   have hsa:sact a f=if a.oc≠1∨a.de≠0 then none else some {a with de:=f.de}:=by
    unfold sact;rw[if_neg k2,if_neg k3]
   by_cases c:a.oc≠1∨a.de≠0
   · rw[hsa,if_pos c] at hsp;exact no hsp (fun W hW=>by
       by_cases c0:a.oc=1
       · exact ract4_no2 R S f i a x W (hxl W hW) hG.acts k4 hxi ha c0 (c.resolve_left (fun e=>e c0))
       · exact ract4_no1 R S f i a x W (hxl W hW) hG.acts k4 hxi ha c0)
   · rw[hsa,if_neg c] at hsp;exact yes _ hsp (fun W hW=>ract4_yes R S f i a x W (hxl W hW) hG.acts k4 hxi ha (Decidable.byContradiction fun e=>c (.inl e)) (Decidable.byContradiction fun e=>c (.inr e)))
attribute [local go_sem] store_float
theorem replay_no (node : Int) (a : Option Addr) (n cap : Nat) (ea : Int → Addr) (w : World) (hE : EnvS ea w) (hnd : ¬ (0 ≤ node ∧ node ≤ 3)) :
    Calls Tryz.prog 28 #[.int .i64 node,.slice a n cap] w (Makes (.tuple #[.pointer none,errV (ea 1)]) w):=by
 have HN:=qq (snew_no node ea w hE hnd);clear hE hnd;go_enter Tryz.func28,Tryz.ntmps28;go_wp2_with fail;refine HN.out.mono ?_;rintro e w1 ⟨rfl,hb1⟩;go_wp2_with fail;refine bodyPost_ret (v:=.tuple #[.pointer none,errV (ea 1)]) (by simp[results,Tryz.results28,go_sem]) rfl ?_;exact⟨rfl,hb1⟩
theorem rstore_start {w:World} {node:Int} (T:TypeId):RStoreAt ⟨w.heap.size,.slice none 0 0,.slice none 0 0,[]⟩ ⟨node,0,[],[]⟩ (w.alloc (.cells #[node,.int .i64 0,.slice none 0 0,.slice none 0 0] T)):=
 ⟨Blk.fresh _ _ _ _ rfl,World.ownsRow_nil _ _ _ _,World.ownsRow_nil _ _ _ _,rfl,fun i y a h=>by simp at h,by simp[RLoc.foot,Value.ownBlock,rblocks]⟩
theorem law_sreplays_no (node:Int) (a:Option Addr) (cap:Nat) (rows:List (List Nat)) (ea:Int→Addr) (w:World) (hE:EnvS ea w) (hR:RowsIn w a rows) (hn:rows.length≤100) (hnd:¬(0≤node∧node≤3)):Calls Tryz.prog 5 #[.int .i64 node,.slice a rows.length cap] w (Makes (.bool true) w):=by
 have HAL:=qq (fun W (hW:Below w.heap.size w W)=>alive15_of ea W (hE.below hW));have HEN:=qq (fun W (hW:Below w.heap.size w W)=>hE.below hW);have HRW:=qq hR;have HRP:=qq (fun n W (hW:Below w.heap.size w W)=>replay_no node a n cap ea W (hE.below hW) hnd)
 have HNU:=qq (fun W (hW:Below w.heap.size w W)=>(show Calls Tryz.prog 20 #[errV (ea 1)] W (Makes (.int .i64 1) W) from num_of 1 (by omega) ea W (hE.below hW)));have HND:Hid (node<0∨¬node<0∧3<node):=qq (by omega);clear hnd;obtain⟨N,hN⟩:∃n,n=rows.length:=⟨_,rfl⟩
 have HNN:=qq hN;rw[←hN] at hn⊢
 (try rw[←hN] at HRP)
 have d1:¬(100:Int)<(N:Int):=by omega
 clear hE hR hN;go_enter Tryz.func5,Tryz.ntmps5;go_wp2_with fail;refine(HAL.out _ (by go_grown)).mono ?_;rintro e w1 ⟨rfl,hb1⟩;have HB1:=qq hb1;have hz1:=hb1.size;clear hb1;go_wp2_with fail;go_loopw [21] (fun cc wr=>∃i:Nat,i≤N∧cc=.int .i64 (i:Int)∧wr=w1∧Hid (∀(j:Nat) (r:List Nat),j<i→rows[j]? =some r→r.length≤300)) (fun cc _=>N - (intOf cc).toNat)
 case atStart=>exact⟨0,by omega,by first | rfl | go_num,rfl,qq (fun j r h=>by omega)⟩
 case round=>
  obtain⟨i,hi,rfl,rfl,HI⟩:=hrel;have hi0:(0:Int)≤(i:Int):=by omega
  by_cases hlt:i<N
  · obtain⟨r,hr⟩:∃r,rows[i]? =some r:=⟨_,List.getElem?_eq_getElem (by have:=HNN.out;omega)⟩
    have hi1:(i:Int)<(N:Int):=by omega
    obtain⟨b,off,ra,rc,rfl,hbl,hc,hB⟩:=HRW.out i r hr;have c0:=(HB1.out.cell (p:=⟨b,off+i,none⟩) hbl).trans hc;obtain⟨nr,hnr⟩:∃n,n=r.length:=⟨_,rfl⟩
    have HNR:=qq hnr;rw[←hnr] at c0;have HRR:=qq hr;clear hr hc hB hlt hnr;by_cases h300:300<nr
    · have e3:(300:Int)<(nr:Int):=by omega
      clear h300;go_wp2_with fail;go_ret;exact⟨rfl,HB1.out⟩
    · have e3:¬(300:Int)<(nr:Int):=by omega
      go_wp2_with fail;go_roundw
      case rel=>exact⟨i+1,by omega,by go_num,by first | rfl | exact True.intro,qq (fun j r' hj hr'=>by
        rcases Nat.lt_or_ge j i with h | h
        · exact HI.out j r' h hr'
        · obtain rfl:j=i:=by omega
          rw[HRR.out] at hr';injection hr' with hr'
          subst hr';have:=HNR.out;omega)⟩
      case measure=>simp[intOf];omega
  · obtain rfl:N=i:=by omega
    have HLL:Hid (∀r∈rows,r.length≤300):=qq (fun r hr=>by
      obtain⟨j,hj,rfl⟩:=List.getElem_of_mem hr;exact HI.out j _ (by have:=HNN.out;omega) (List.getElem?_eq_getElem hj))
    clear HI hlt;go_wp2_with fail;refine(HRP.out _ _ HB1.out).mono ?_;rintro e w2 ⟨rfl,hb2⟩;have HB2:=qq (below_then HB1.out hb2);clear hb2;rcases HND.out with h | ⟨h,h'⟩
    all_goals
     go_wp2_with fail;refine(HNU.out _ HB2.out).mono ?_;rintro e w3 ⟨rfl,hb3⟩;go_wp2_with fail;go_ret;exact⟨rfl,below_then HB2.out hb3⟩
theorem law_sreplays_bad (node:Int) (a:Option Addr) (cap:Nat) (rows:List (List Nat)) (ea:Int→Addr) (w:World) (hE:EnvS ea w) (hR:RowsIn w a rows) (hn:rows.length≤100) (hnd:0≤node∧node≤3) (hres:sreplay ⟨node,0,[],[]⟩ rows=none):Calls Tryz.prog 5 #[.int .i64 node,.slice a rows.length cap] w (Makes (.bool true) w):=by
 have HAL:=qq (fun W (hW:Below w.heap.size w W)=>alive15_of ea W (hE.below hW));have HEN:=qq (fun W (hW:Below w.heap.size w W)=>hE.below hW);have HRW:=qq hR;have HRP:=qq (fun(hl:∀r∈rows,r.length≤900) W (hW:Below w.heap.size w W)=>replay_of node a rows cap ea W (hE.below hW) hnd (hR.below hW) hl (by omega))
 have HNU:=qq (fun W (hW:Below w.heap.size w W)=>(show Calls Tryz.prog 20 #[errV (ea 5)] W (Makes (.int .i64 5) W) from num_of 5 (by omega) ea W (hE.below hW)));have HG0:Hid (StoGood ⟨node,0,[],[]⟩):=qq (StoGood.new hnd.1 hnd.2);have n1:¬node<0:=by omega
 have n2:¬3<node:=by omega
 clear hnd;have HRES:=qq hres;clear hres;obtain⟨N,hN⟩:∃n,n=rows.length:=⟨_,rfl⟩
 have HNN:=qq hN;rw[←hN] at hn⊢
 (try rw[←hN] at HRP)
 have d1:¬(100:Int)<(N:Int):=by omega
 clear hE hR hN;go_enter Tryz.func5,Tryz.ntmps5;go_wp2_with fail;refine(HAL.out _ (by go_grown)).mono ?_;rintro e w1 ⟨rfl,hb1⟩;have HB1:=qq hb1;have hz1:=hb1.size;clear hb1;go_wp2_with fail;go_loopw [21] (fun cc wr=>∃i:Nat,i≤N∧cc=.int .i64 (i:Int)∧wr=w1∧Hid (∀(j:Nat) (r:List Nat),j<i→rows[j]? =some r→r.length≤300)) (fun cc _=>N - (intOf cc).toNat)
 case atStart=>exact⟨0,by omega,by first | rfl | go_num,rfl,qq (fun j r h=>by omega)⟩
 case round=>
  obtain⟨i,hi,rfl,rfl,HI⟩:=hrel;have hi0:(0:Int)≤(i:Int):=by omega
  by_cases hlt:i<N
  · obtain⟨r,hr⟩:∃r,rows[i]? =some r:=⟨_,List.getElem?_eq_getElem (by have:=HNN.out;omega)⟩
    have hi1:(i:Int)<(N:Int):=by omega
    obtain⟨b,off,ra,rc,rfl,hbl,hc,hB⟩:=HRW.out i r hr;have c0:=(HB1.out.cell (p:=⟨b,off+i,none⟩) hbl).trans hc;obtain⟨nr,hnr⟩:∃n,n=r.length:=⟨_,rfl⟩
    have HNR:=qq hnr;rw[←hnr] at c0;have HRR:=qq hr;clear hr hc hB hlt hnr;by_cases h300:300<nr
    · have e3:(300:Int)<(nr:Int):=by omega
      clear h300;go_wp2_with fail;go_ret;exact⟨rfl,HB1.out⟩
    · have e3:¬(300:Int)<(nr:Int):=by omega
      go_wp2_with fail;go_roundw
      case rel=>exact⟨i+1,by omega,by go_num,by first | rfl | exact True.intro,qq (fun j r' hj hr'=>by
        rcases Nat.lt_or_ge j i with h | h
        · exact HI.out j r' h hr'
        · obtain rfl:j=i:=by omega
          rw[HRR.out] at hr';injection hr' with hr'
          subst hr';have:=HNR.out;omega)⟩
      case measure=>simp[intOf];omega
  · obtain rfl:N=i:=by omega
    have HLL:Hid (∀r∈rows,r.length≤300):=qq (fun r hr=>by
      obtain⟨j,hj,rfl⟩:=List.getElem_of_mem hr;exact HI.out j _ (by have:=HNN.out;omega) (List.getElem?_eq_getElem hj))
    clear HI hlt;go_wp2_with fail;refine(HRP.out (fun r hr=>Nat.le_trans (HLL.out r hr) (by omega)) _ HB1.out).mono ?_;rintro e w2 ⟨hsome,hnone⟩;obtain⟨rfl,hb2⟩:=hnone HRES.out;have HB2:=qq (below_then HB1.out hb2);clear hsome hnone hb2;have hwz2:=HB2.out.size;go_wp2_with fail
    go_loopw [53] (fun cc wr=>∃i:Nat,i≤N∧cc=.int .i64 (i:Int)∧Hid (∃S R,R.sb=w2.heap.size∧sreplay ⟨node,0,[],[]⟩ rows=sreplay S (rows.drop i)∧StoGood S∧RStoreAt R S wr∧(∀j∈R.foot,w2.heap.size≤j)∧Below w2.heap.size w2 wr)) (fun cc _=>N - (intOf cc).toNat)
    case atStart=>exact⟨0,by omega,by first | rfl | go_num,qq ⟨_,_,rfl,rfl,HG0.out,rstore_start (w:=w2) (node:=node) _,(fun j hj=>by simp[RLoc.foot,Value.ownBlock,rblocks] at hj;omega),bel_alloc (Below.refl w2.heap.size w2) _⟩⟩
    case round=>
     obtain⟨i,hi,rfl,HI⟩:=hrel;obtain⟨S,R,hsb,hsr,hG,hS,hf,hb⟩:=HI.out;have HSB:=qq hsb;have HSR:=qq hsr;have HG:=qq hG;have HS:=qq hS;have HF:=qq hf;have HB:=qq hb;have HBW:=qq (below_then HB2.out hb);have hwr:=HBW.out.size;have hwr2:=hb.size;clear HI hsb hsr hG hS hf hb;have hi0:(0:Int)≤(i:Int):=by omega
     by_cases hlt:i<N
     · obtain⟨r,hr⟩:∃r,rows[i]? =some r:=⟨_,List.getElem?_eq_getElem (by have:=HNN.out;omega)⟩
       have hi1:(i:Int)<(N:Int):=by omega
       obtain⟨b,off,ra,rc,rfl,hbl,hc,hBy⟩:=HRW.out i r hr;have c0:=(HBW.out.cell (p:=⟨b,off+i,none⟩) hbl).trans hc;have HDR:Hid (rows.drop i=r::rows.drop (i+1)):=qq (by obtain⟨hil,he⟩:=List.getElem?_eq_some_iff.1 hr;rw[List.drop_eq_getElem_cons hil,he]);have HBY:=qq (hBy.below HBW.out);have HRL:=qq (HLL.out r (List.mem_of_getElem? hr))
       have HRD:=qq (rread_of ra r rc wr HBY.out (by have:=HRL.out;omega));clear hr hc hBy hlt
       cases hq:rdFact r with
       | none=>
        have HNO:Hid (sreplay ⟨node,0,[],[]⟩ rows=none):=qq (by rw[HSR.out,HDR.out,sreplay_cons,hq];rfl);have HQ:=qq hq;clear hq;go_wp2_with fail;refine HRD.out.mono ?_;rintro e w5 ⟨_,hbad⟩;obtain⟨en,hen,rfl,hb5⟩:=hbad HQ.out;have hen2:(en !=0)=true:=by simpa using hen
        have HB5:=qq (below_then HBW.out hb5);have HBX:=qq (bel_alloc HB5.out (.cells #[.int .i64 0,.int .i64 0,.int .i64 0,.int .i64 0,.int .i64 0,.int .i64 0,.int .i64 0,.int .i64 0,.int .i64 0,.int .i64 0,.int .i64 0,.int .i64 0,.int .i64 0,.float .f64 0] 42));clear hb5 hbad hen;simp only[factV,factC,fact00];go_wp2_with fail;refine(HNU.out _ HBX.out).mono ?_;rintro e w7 ⟨rfl,hb7⟩
        go_wp2_with fail;go_ret;exact⟨rfl,below_then HBX.out hb7⟩
       | some f=>
        have hx:=rdFact_F64 hq HBY.out.byte;have HQ:=qq hq;have HA:=qq (fun R W (hs:RStoreAt R S W)=>rapply_of R S f W hx hs HG.out);have HGS:=qq (sapply_good (f:=f) HG.out);have HST:Hid (sreplay ⟨node,0,[],[]⟩ rows=if(sapply S f).2=0 then sreplay (sapply S f).1 (rows.drop (i+1)) else none):=qq (by rw[HSR.out,HDR.out,sreplay_cons,hq];rfl);obtain⟨T,hT⟩:∃T,T=(sapply S f).1:=⟨_,rfl⟩
        obtain⟨en,hen⟩:∃en,en=(sapply S f).2:=⟨_,rfl⟩
        rw[←hT,←hen] at HA HST;rw[←hT] at HGS;clear hx hq hT hen HSR;obtain⟨k',an,aq,rg,nd,pt,pr,oc,dp,pa,st,hw,de,ex⟩:=f;simp only[factV,factC,RApplyEnds] at HA;go_wp2_with fail;refine HRD.out.mono ?_;rintro e w5 ⟨hgood,_⟩;obtain⟨rfl,hb5⟩:=hgood _ HQ.out;have HB5:=qq (bel_alloc (below_then HBW.out hb5) (.cells #[k',an,aq,rg,nd,pt,pr,oc,dp,pa,st,hw,de,.float .f64 ex] 42))
        have HD5:=qq (bel_alloc (below_then HB.out hb5) (.cells #[k',an,aq,rg,nd,pt,pr,oc,dp,pa,st,hw,de,.float .f64 ex] 42));have HS5:=qq ((HS.out.below hb5).below ((Below.refl _ _).alloc (Nat.le_refl _) (.cells #[k',an,aq,rg,nd,pt,pr,oc,dp,pa,st,hw,de,.float .f64 ex] 42)));have hz5:=hb5.size;clear hb5 HS HBY hgood;simp only[factV,factC];rw[←HSB.out];go_wp2_with fail
        refine(HA.out R _ HS5.out).mono ?_;rintro e w6 ⟨rfl,hs⟩;obtain⟨R2,hR2,hS6,hgo⟩:=hs;have HD6:=qq (HD5.out.trans (hgo.below HF.out HD5.out.size));have HBX:=qq (below_then HB2.out HD6.out);have HF6:=qq (fun j (hj:j∈R2.foot)=>(hgo.new j hj).elim (HF.out j) (fun h=>Nat.le_trans HD5.out.size h));have HS6:=qq hS6;have HR2:=qq hR2;clear hS6 hR2 hgo;by_cases he:en=0
        · subst he;have HST2:Hid (sreplay ⟨node,0,[],[]⟩ rows=sreplay T (rows.drop (i+1))):=qq (by rw[HST.out,if_pos rfl]);rw[HSB.out];go_wp2_with fail;go_roundw
          case rel=>exact⟨i+1,by omega,by go_num,qq ⟨T,R2,by rw[HR2.out,HSB.out],HST2.out,HGS.out,HS6.out,HF6.out,HD6.out⟩⟩
          case measure=>simp[intOf];omega
        · have HNO:Hid (sreplay ⟨node,0,[],[]⟩ rows=none):=qq (by rw[HST.out,if_neg he]);have hen2:(en !=0)=true:=by simpa using he
          clear he;go_wp2_with fail;refine(HNU.out _ HBX.out).mono ?_;rintro e w7 ⟨rfl,hb7⟩;go_wp2_with fail;go_ret;exact⟨rfl,below_then HBX.out hb7⟩
     · obtain rfl:N=i:=by omega
       have HEND:Hid (sreplay ⟨node,0,[],[]⟩ rows=some S):=qq (by rw[HSR.out,List.drop_eq_nil_of_le (by have:=HNN.out;omega)];rfl);clear HSR hlt;exact absurd (HRES.out.symm.trans HEND.out) (by simp)
theorem law_sreplays_ok (node:Int) (a:Option Addr) (cap:Nat) (rows:List (List Nat)) (ea:Int→Addr) (w:World) (hE:EnvS ea w) (hR:RowsIn w a rows) (hn:rows.length≤100) (SF:Sto) (hnd:0≤node∧node≤3) (hres:sreplay ⟨node,0,[],[]⟩ rows=some SF):Calls Tryz.prog 5 #[.int .i64 node,.slice a rows.length cap] w (Makes (.bool true) w):=by
 have HAL:=qq (fun W (hW:Below w.heap.size w W)=>alive15_of ea W (hE.below hW));have HEN:=qq (fun W (hW:Below w.heap.size w W)=>hE.below hW);have HRW:=qq hR;have HRP:=qq (fun(hl:∀r∈rows,r.length≤900) W (hW:Below w.heap.size w W)=>replay_of node a rows cap ea W (hE.below hW) hnd (hR.below hW) hl (by omega))
 have HNU:=qq (fun W (hW:Below w.heap.size w W)=>(show Calls Tryz.prog 20 #[errV (ea 5)] W (Makes (.int .i64 5) W) from num_of 5 (by omega) ea W (hE.below hW)));have HG0:Hid (StoGood ⟨node,0,[],[]⟩):=qq (StoGood.new hnd.1 hnd.2);have n1:¬node<0:=by omega
 have n2:¬3<node:=by omega
 clear hnd;have HRES:=qq hres;clear hres;obtain⟨N,hN⟩:∃n,n=rows.length:=⟨_,rfl⟩
 have HNN:=qq hN;rw[←hN] at hn⊢
 (try rw[←hN] at HRP)
 have d1:¬(100:Int)<(N:Int):=by omega
 clear hE hR hN;go_enter Tryz.func5,Tryz.ntmps5;go_wp2_with fail;refine(HAL.out _ (by go_grown)).mono ?_;rintro e w1 ⟨rfl,hb1⟩;have HB1:=qq hb1;have hz1:=hb1.size;clear hb1;go_wp2_with fail;go_loopw [21] (fun cc wr=>∃i:Nat,i≤N∧cc=.int .i64 (i:Int)∧wr=w1∧Hid (∀(j:Nat) (r:List Nat),j<i→rows[j]? =some r→r.length≤300)) (fun cc _=>N - (intOf cc).toNat)
 case atStart=>exact⟨0,by omega,by first | rfl | go_num,rfl,qq (fun j r h=>by omega)⟩
 case round=>
  obtain⟨i,hi,rfl,rfl,HI⟩:=hrel;have hi0:(0:Int)≤(i:Int):=by omega
  by_cases hlt:i<N
  · obtain⟨r,hr⟩:∃r,rows[i]? =some r:=⟨_,List.getElem?_eq_getElem (by have:=HNN.out;omega)⟩
    have hi1:(i:Int)<(N:Int):=by omega
    obtain⟨b,off,ra,rc,rfl,hbl,hc,hB⟩:=HRW.out i r hr;have c0:=(HB1.out.cell (p:=⟨b,off+i,none⟩) hbl).trans hc;obtain⟨nr,hnr⟩:∃n,n=r.length:=⟨_,rfl⟩
    have HNR:=qq hnr;rw[←hnr] at c0;have HRR:=qq hr;clear hr hc hB hlt hnr;by_cases h300:300<nr
    · have e3:(300:Int)<(nr:Int):=by omega
      clear h300;go_wp2_with fail;go_ret;exact⟨rfl,HB1.out⟩
    · have e3:¬(300:Int)<(nr:Int):=by omega
      go_wp2_with fail;go_roundw
      case rel=>exact⟨i+1,by omega,by go_num,by first | rfl | exact True.intro,qq (fun j r' hj hr'=>by
        rcases Nat.lt_or_ge j i with h | h
        · exact HI.out j r' h hr'
        · obtain rfl:j=i:=by omega
          rw[HRR.out] at hr';injection hr' with hr'
          subst hr';have:=HNR.out;omega)⟩
      case measure=>simp[intOf];omega
  · obtain rfl:N=i:=by omega
    have HLL:Hid (∀r∈rows,r.length≤300):=qq (fun r hr=>by
      obtain⟨j,hj,rfl⟩:=List.getElem_of_mem hr;exact HI.out j _ (by have:=HNN.out;omega) (List.getElem?_eq_getElem hj))
    clear HI hlt;go_wp2_with fail;refine(HRP.out (fun r hr=>Nat.le_trans (HLL.out r hr) (by omega)) _ HB1.out).mono ?_;rintro e w2 ⟨hsome,hnone⟩;obtain⟨L,rfl,hL,hLf,hb2⟩:=hsome SF HRES.out;have HB2:=qq (below_then HB1.out hb2);have HL:=qq hL;clear hsome hnone hb2 hL hLf;have hwz2:=HB2.out.size;go_wp2_with fail
    go_loopw [53] (fun cc wr=>∃i:Nat,i≤N∧cc=.int .i64 (i:Int)∧Hid (∃S R,R.sb=w2.heap.size∧sreplay ⟨node,0,[],[]⟩ rows=sreplay S (rows.drop i)∧StoGood S∧RStoreAt R S wr∧(∀j∈R.foot,w2.heap.size≤j)∧Below w2.heap.size w2 wr)) (fun cc _=>N - (intOf cc).toNat)
    case atStart=>exact⟨0,by omega,by first | rfl | go_num,qq ⟨_,_,rfl,rfl,HG0.out,rstore_start (w:=w2) (node:=node) _,(fun j hj=>by simp[RLoc.foot,Value.ownBlock,rblocks] at hj;omega),bel_alloc (Below.refl w2.heap.size w2) _⟩⟩
    case round=>
     obtain⟨i,hi,rfl,HI⟩:=hrel;obtain⟨S,R,hsb,hsr,hG,hS,hf,hb⟩:=HI.out;have HSB:=qq hsb;have HSR:=qq hsr;have HG:=qq hG;have HS:=qq hS;have HF:=qq hf;have HB:=qq hb;have HBW:=qq (below_then HB2.out hb);have hwr:=HBW.out.size;have hwr2:=hb.size;clear HI hsb hsr hG hS hf hb;have hi0:(0:Int)≤(i:Int):=by omega
     by_cases hlt:i<N
     · obtain⟨r,hr⟩:∃r,rows[i]? =some r:=⟨_,List.getElem?_eq_getElem (by have:=HNN.out;omega)⟩
       have hi1:(i:Int)<(N:Int):=by omega
       obtain⟨b,off,ra,rc,rfl,hbl,hc,hBy⟩:=HRW.out i r hr;have c0:=(HBW.out.cell (p:=⟨b,off+i,none⟩) hbl).trans hc;have HDR:Hid (rows.drop i=r::rows.drop (i+1)):=qq (by obtain⟨hil,he⟩:=List.getElem?_eq_some_iff.1 hr;rw[List.drop_eq_getElem_cons hil,he]);have HBY:=qq (hBy.below HBW.out);have HRL:=qq (HLL.out r (List.mem_of_getElem? hr))
       have HRD:=qq (rread_of ra r rc wr HBY.out (by have:=HRL.out;omega));clear hr hc hBy hlt
       cases hq:rdFact r with
       | none=>
        have HNO:Hid (sreplay ⟨node,0,[],[]⟩ rows=none):=qq (by rw[HSR.out,HDR.out,sreplay_cons,hq];rfl);have HQ:=qq hq;clear hq;exact absurd (HRES.out.symm.trans HNO.out) (by simp)
       | some f=>
        have hx:=rdFact_F64 hq HBY.out.byte;have HQ:=qq hq;have HA:=qq (fun R W (hs:RStoreAt R S W)=>rapply_of R S f W hx hs HG.out);have HGS:=qq (sapply_good (f:=f) HG.out);have HST:Hid (sreplay ⟨node,0,[],[]⟩ rows=if(sapply S f).2=0 then sreplay (sapply S f).1 (rows.drop (i+1)) else none):=qq (by rw[HSR.out,HDR.out,sreplay_cons,hq];rfl);obtain⟨T,hT⟩:∃T,T=(sapply S f).1:=⟨_,rfl⟩
        obtain⟨en,hen⟩:∃en,en=(sapply S f).2:=⟨_,rfl⟩
        rw[←hT,←hen] at HA HST;rw[←hT] at HGS;clear hx hq hT hen HSR;obtain⟨k',an,aq,rg,nd,pt,pr,oc,dp,pa,st,hw,de,ex⟩:=f;simp only[factV,factC,RApplyEnds] at HA;go_wp2_with fail;refine HRD.out.mono ?_;rintro e w5 ⟨hgood,_⟩;obtain⟨rfl,hb5⟩:=hgood _ HQ.out;have HB5:=qq (bel_alloc (below_then HBW.out hb5) (.cells #[k',an,aq,rg,nd,pt,pr,oc,dp,pa,st,hw,de,.float .f64 ex] 42))
        have HD5:=qq (bel_alloc (below_then HB.out hb5) (.cells #[k',an,aq,rg,nd,pt,pr,oc,dp,pa,st,hw,de,.float .f64 ex] 42));have HS5:=qq ((HS.out.below hb5).below ((Below.refl _ _).alloc (Nat.le_refl _) (.cells #[k',an,aq,rg,nd,pt,pr,oc,dp,pa,st,hw,de,.float .f64 ex] 42)));have hz5:=hb5.size;clear hb5 HS HBY hgood;simp only[factV,factC];rw[←HSB.out];go_wp2_with fail
        refine(HA.out R _ HS5.out).mono ?_;rintro e w6 ⟨rfl,hs⟩;obtain⟨R2,hR2,hS6,hgo⟩:=hs;have HD6:=qq (HD5.out.trans (hgo.below HF.out HD5.out.size));have HBX:=qq (below_then HB2.out HD6.out);have HF6:=qq (fun j (hj:j∈R2.foot)=>(hgo.new j hj).elim (HF.out j) (fun h=>Nat.le_trans HD5.out.size h));have HS6:=qq hS6;have HR2:=qq hR2;clear hS6 hR2 hgo;by_cases he:en=0
        · subst he;have HST2:Hid (sreplay ⟨node,0,[],[]⟩ rows=sreplay T (rows.drop (i+1))):=qq (by rw[HST.out,if_pos rfl]);rw[HSB.out];go_wp2_with fail;go_roundw
          case rel=>exact⟨i+1,by omega,by go_num,qq ⟨T,R2,by rw[HR2.out,HSB.out],HST2.out,HGS.out,HS6.out,HF6.out,HD6.out⟩⟩
          case measure=>simp[intOf];omega
        · have HNO:Hid (sreplay ⟨node,0,[],[]⟩ rows=none):=qq (by rw[HST.out,if_neg he]);have hen2:(en !=0)=true:=by simpa using he
          clear he;exact absurd (HRES.out.symm.trans HNO.out) (by simp)
     · obtain rfl:N=i:=by omega
       have HEND:Hid (sreplay ⟨node,0,[],[]⟩ rows=some S):=qq (by rw[HSR.out,List.drop_eq_nil_of_le (by have:=HNN.out;omega)];rfl);clear HSR hlt;have hSF:SF=S:=by have:=HRES.out.symm.trans HEND.out;injection this
       subst hSF;have HSM:=qq (same15_of L R SF wr (HL.out.below HB.out) HS.out HG.out);rw[HSB.out] at HSM;go_wp2_with fail;refine HSM.out.mono ?_;rintro e w7 ⟨rfl,hb7⟩;go_wp2_with fail;go_ret;exact⟨rfl,below_then HBW.out hb7⟩
theorem law_sreplays (node:Int) (v:Value) (rows:List (List Nat)) (ea:Int→Addr) (w:World) (hE:EnvS ea w) (hR:∃a cap,v=.slice a rows.length cap∧RowsIn w a rows):Calls Tryz.prog 5 #[.int .i64 node,v] w (Makes (.bool true) w):=by
 obtain⟨a,cap,rfl,hr⟩:=hR;by_cases hn:rows.length≤100
 · by_cases hnd:0≤node∧node≤3
   · cases hs:sreplay ⟨node,0,[],[]⟩ rows with
     | none=>exact law_sreplays_bad node a cap rows ea w hE hr hn hnd hs
     | some SF=>exact law_sreplays_ok node a cap rows ea w hE hr hn SF hnd hs
   · exact law_sreplays_no node a cap rows ea w hE hr hn hnd
 · have HAL:=qq (alive15_of ea w hE);obtain⟨N,hN⟩:∃n,n=rows.length:=⟨_,rfl⟩
   rw[←hN] at hn⊢;have d1:(100:Int)<(N:Int):=by omega
   clear hE hr hn hN;go_enter Tryz.func5,Tryz.ntmps5;go_wp2_with fail;refine HAL.out.mono ?_;rintro e w1 ⟨rfl,hb1⟩;go_wp2_with fail;go_ret;exact⟨rfl,hb1⟩
open Go.RowKit Go.Deep Go.ChangeShapes Go.WideShapes Go.ChangeAt Go.WideMaps Go.WideElems
theorem fact_list_of {α:Type} {C:Nat→α→Prop}:∀n,(∀i,i<n→∃o,C i o)→∃l:List α,l.length=n∧∀i (h:i<l.length),C i l[i]
 | 0,_=>⟨[],rfl,fun i h=>absurd h (by simp)⟩
 | n+1,h=>by
  obtain⟨l,hl,hc⟩:=fact_list_of n (fun i hi=>h i (by omega));obtain⟨o,ho⟩:=h n (by omega);refine⟨l ++ [o],by simp[hl],fun i hi=> ?_⟩;by_cases hlt:i<l.length
  · rw[List.getElem_append_left hlt];exact hc i hlt
  · have:i=n:=by simp at hi;omega
    subst this;rw[List.getElem_append_right (by omega)];simpa[hl] using ho
theorem open_rows {H:Type} {enc:TypeId×Value→H} {W:World} {a0:Option Addr} {len cap:Nat} {d:DataW H} {p:List MemPlace} (h:DataW.Trod enc Tryz.prog W 0 (fun _=>true) true 64 (.slice a0 len cap) d p):∃rows:List (List Nat),∃a c,(.slice a0 len cap:Value)=.slice a rows.length c∧RowsIn W a rows:=by
 obtain⟨fuel,hf⟩:=h;rcases open_int_rows Tryz.underlying64 Tryz.underlying65 Tryz.underlying5 (by kernel_rfl) (by kernel_rfl) hf with⟨hcs,_⟩ | ⟨a,len',cap',A,L,C,Z,hcs,_,hl,hm,_,hall⟩
 · simp[Value.cells] at hcs;obtain⟨rfl,rfl,rfl⟩:=hcs;exact⟨[],none,0,rfl,fun k r hk=>by simp at hk⟩
 · simp[Value.cells] at hcs;obtain⟨rfl,rfl,rfl⟩:=hcs;have each:∀i,i<len→∃r:List Nat,W.cell? (a.add i)=some (.slice (A i) r.length (C i))∧BytesIn W (A i) (C i) r:=by
    intro i hi;obtain⟨h0,h1,_,h3,h4,h5,h6⟩:=hall i (by omega);have hlen:(((Z i).take (L i)).map Int.toNat).length=L i:=by rw[List.length_map,List.length_take];omega
    have hz:∀n∈Z i,0≤n∧n≤255:=fun n hn=>by
     have h7:(decide (IntKind.u8.min≤n) && decide (n≤IntKind.u8.max))=true:=h4 n hn;rw[show IntKind.u8.min=0 by kernel_rfl,show IntKind.u8.max=255 by kernel_rfl,Bool.and_eq_true,decide_eq_true_iff,decide_eq_true_iff] at h7;exact h7
    refine⟨((Z i).take (L i)).map Int.toNat,by rw[hlen];exact h0,by rw[hlen];exact h1,fun c hc=> ?_,fun hne=> ?_⟩
    · obtain⟨n,hn,rfl⟩:=List.mem_map.1 hc;have:=hz n (List.mem_of_mem_take hn);omega
    · have hL:0<L i:=by rw[←hlen];exact List.length_pos_iff.2 hne
      cases hA:A i with
      | none=>have:=h5 hA;omega
      | some a'=>
       obtain⟨_,h7⟩:=h6 a' hA;have hs0:a'.spot=none:=by simpa[Addr.add] using World.cell?_spot (h7 0 (by omega))
       obtain⟨b,off,spot⟩:=a';have hsp:spot=none:=hs0;subst hsp;have hlt:=World.block_lt_of_cell? W _ (h7 0 (by omega));refine⟨b,off,rfl,by simpa[Addr.add] using hlt,fun j c hj=> ?_⟩;obtain⟨hjl,hje⟩:=List.getElem?_eq_some_iff.1 hj;rw[hlen] at hjl;have h8:=h7 j (by omega);simp only[Addr.add_lit] at h8;rw[h8];rw[List.getElem_map,List.getElem_take] at hje;have hmem:=hz (Z i)[j] (List.getElem_mem _)
       rw[List.getD_eq_getElem?_getD,List.getElem?_eq_getElem (by omega)];simp only[Option.getD_some];rw[←hje];congr 2;omega
   obtain⟨rows,hlen,hc⟩:=fact_list_of (C:=fun i (r:List Nat)=>W.cell? (a.add i)=some (.slice (A i) r.length (C i))∧BytesIn W (A i) (C i) r) len each;subst hlen;refine⟨rows,some a,cap,rfl,fun k r hk=> ?_⟩;obtain⟨hkl,hke⟩:=List.getElem?_eq_some_iff.1 hk;have h0:=hc 0 (by omega);have hs0:a.spot=none:=by simpa[Addr.add] using World.cell?_spot h0.1
   obtain⟨b,off,spot⟩:=a;have hsp:spot=none:=hs0;subst hsp;have hlt:=World.block_lt_of_cell? W _ h0.1;obtain⟨h1,h2⟩:=hc k hkl;simp only[Addr.add_lit] at h1;rw[hke] at h1 h2;exact⟨b,off,A k,C k,rfl,by simpa[Addr.add] using hlt,h1,h2⟩
open Go.ChangeShapes Go.WideShapes Go.ChangeAt Go.WideMaps Go.WideElems Go.RowKit
theorem Tryz.own:ownKnob Tryz.prog.godebug=none:=by kernel_rfl
theorem Tryz.laidOut:laidOutB Tryz.prog=true:=by kernel_rfl
theorem starE : "*" ++ "errors.errorString" = "*errors.errorString" := by decide
theorem rowE (u : TypeId) (h : Tryz.prog.typeName? 3 u = some "*errors.errorString") : u = 387 :=
 typeName_ptr_named (nm := "errors.errorString") (by rw [starE]; kernel_rfl) (by kernel_rfl) (by decide) u (by rw [starE]; exact h)
theorem cellsE:Tryz.prog.cellsOf 410=1:=by kernel_rfl
theorem cellsS:Tryz.prog.cellsOf 9=1:=by kernel_rfl
structure LaidE where
 num:Int
 name:String
 g:Nat
 text:List UInt8
def LaidE.datum (x : LaidE) : String × DataW Unit := (x.name, .iface "*errors.errorString" (.ptr (.agg [.lit (.string x.text)])))
def LaidE.ok (x:LaidE):Prop:=Tryz.prog.globalNamed x.name=some x.g∧(Tryz.prog.globals[x.g]?).map (·.type)=some 26
theorem sentinels {W : World} : ∀ (L : List LaidE) (ps : List MemPlace), (L.map (·.num)).Nodup → (∀ x ∈ L, x.ok) → DataW.LaidVars Tryz.prog W (L.map LaidE.datum) ps → ps.Nodup →
    (∀b off,MemPlace.cell b off∈ps→(∃c t,W.heap[b]? =some (.cells c t (0,0)))∧∀u v,W.cell? ⟨b,off,none⟩=some (.iface u v)→Value.okWide Tryz.prog W .any 0 u v)→
    ∃ea:Int→Addr,(∀x∈L,ErrIs W x.g (ea x.num)∧MemPlace.cell (ea x.num).block (ea x.num).off∈ps)∧(∀x∈L,∀y∈L,ea x.num=ea y.num→x.num=y.num):=by
 intro L
 induction L with
 | nil=>intro ps _ _ _ _ _;exact⟨fun _=>⟨0,0,none⟩,fun x hx=>by simp at hx,fun x hx=>by simp at hx⟩
 | cons x L ih=>
  intro ps hnum hok h hnd hrows;obtain⟨g0,t0,cs0,f0,p0,q0,hg0,ht0,hv0,hd0,hrest,e0⟩:=h;have hx:=hok x (by simp);obtain rfl:=Option.some.inj (hx.1.symm.trans hg0);obtain rfl:=Option.some.inj (hx.2.symm.trans ht0);subst e0;obtain⟨l0⟩:=cs0;have ok0:∀u v,l0=[.iface u v]→Value.okWide Tryz.prog W .any 0 u v:=fun u v e=>by
   subst e;exact(hrows x.g 0 (by simp[MemPlace.row])).2 u v (by simpa using World.var?_cell hg0 hv0 0)
  obtain⟨a0,s0,rfl,hc0,hs0,hz0,rfl⟩:=errorString_of_trod Tryz.underlying26 rowE Tryz.underlying387 Tryz.underlying410 rfl rfl Tryz.underlying9 cellsE cellsS hd0 ok0;have hn2:=List.nodup_append.1 hnd;obtain⟨ea,h1,h2⟩:=ih q0 (by simpa using(List.nodup_cons.1 hnum).2) (fun y hy=>hok y (by simp[hy])) hrest hn2.2.1 (fun b off hb=>hrows b off (by simp[hb]))
  have hne:∀y∈L,y.num≠x.num:=fun y hy he=>(List.nodup_cons.1 hnum).1 (by
    have:=List.mem_map_of_mem (f:=LaidE.num) hy;rw[he] at this;exact this)
  have hin:MemPlace.cell a0.block a0.off∈MemPlace.row ⟨x.g,0,none⟩ #[Value.iface 387 (.pointer (some a0))].size ++MemPlace.row a0 1:=by simp[MemPlace.row]
  have hcx:ErrIs W x.g a0:=by
   have:=World.var?_cell hg0 hv0 0;simpa[ErrIs] using this
  refine⟨fun m=>if m=x.num then a0 else ea m,fun y hy=> ?_,fun y hy z hz he=> ?_⟩
  · rcases List.mem_cons.1 hy with e | hy'
    · subst e;simp only[if_true];exact⟨hcx,List.mem_append_left _ hin⟩
    · simp only[if_neg (hne y hy')];exact⟨(h1 y hy').1,List.mem_append_right _ (h1 y hy').2⟩
  · rcases List.mem_cons.1 hy with e | hy'<;>rcases List.mem_cons.1 hz with e' | hz'
    · rw[e,e']
    · simp only[e,if_true,if_neg (hne z hz')] at he;have hz2:=(h1 z hz').2;rw[←he] at hz2;exact absurd rfl (hn2.2.2 _ hin _ hz2)
    · simp only[e',if_true,if_neg (hne y hy')] at he;have hy2:=(h1 y hy').2;rw[he] at hy2;exact absurd rfl (hn2.2.2 _ hin _ hy2)
    · simp only[if_neg (hne y hy'),if_neg (hne z hz')] at he;exact h2 y hy' z hz' he
section frame
variable {H:Type} {enc:TypeId×Value→H}
theorem trodAll_below {W W' : World} (hb : Below W.heap.size W W') : ∀ (ts : List TypeId) (vs : List Value) (ds : List (DataW H)) (ps : List MemPlace), (∀ t ∈ ts, Tryz.prog.readableRec t = true ∧ t < Tryz.prog.types.size) →
    DataW.TrodAll enc Tryz.prog W 0 (fun _=>true) true ts vs ds ps→(∀x∈ps,x.block<W.heap.size)→DataW.TrodAll enc Tryz.prog W' 0 (fun b=>decide (b<W.heap.size)) true ts vs ds ps:=by
 intro ts
 induction ts with
 | nil=>
  intro vs ds ps _ h _;obtain⟨rfl,rfl,rfl⟩:=trodAll_nil h;exact trodAll_mk0
 | cons t ts ih=>
  intro vs ds ps hts h hlt;obtain⟨v,vs',d,ds',p,q,rfl,rfl,rfl,hd,hrest⟩:=trodAll_cons h;have h1:=Below.trod Tryz.laidOut (hts t (by simp)).1 (hts t (by simp)).2 hd hb (fun x hx=>hlt x (by simp[hx]));exact trodAll_cons_mk h1 (ih vs' ds' q (fun u hu=>hts u (by simp[hu])) hrest (fun x hx=>hlt x (by simp[hx])))
theorem trodAll_len {W:World} {base:Nat} {sp:Nat→Bool} {held:Bool}:∀{ts:List TypeId} {vs:List Value} {ds:List (DataW H)} {ps:List MemPlace},DataW.TrodAll enc Tryz.prog W base sp held ts vs ds ps→ds.length=ts.length:=by
 intro ts
 induction ts with
 | nil=>
  intro vs ds ps h;obtain⟨rfl,rfl,rfl⟩:=trodAll_nil h;rfl
 | cons t ts ih=>
  intro vs ds ps h;obtain⟨v,vs',d,ds',p,q,rfl,rfl,rfl,hd,hrest⟩:=trodAll_cons h;simp[ih hrest]
theorem frame_post {fn : Func} {s : ChangeSpec} {W W' : World} {args : Array Value} {ds gs : List (DataW H)} {before : List MemPlace}
    (hts:∀t∈fn.params.toList,Tryz.prog.readableRec t=true∧t<Tryz.prog.types.size) (hres:fn.resultTypes= #[4]) (hvars:s.vars=[])
    (hspec:∀ds:List (DataW H),ds.length=fn.params.toList.length→(s.fn H ds).results=[.lit (.bool true)]∧(s.fn H ds).args=ds∧(s.fn H ds).vars=[])
    (hW:DataW.Whole enc Tryz.prog fn.params.toList s.vars false W args.toList ds gs before) (hb:Below W.heap.size W W'):
    s.post enc Tryz.prog fn false true false false W args (.bool true) W':=by
 have hW':=hW;have hlt:=hW.lt;obtain⟨p,q,hA,hV,rfl,hfz,hnd⟩:=hW;rw[hvars] at hV;obtain⟨rfl,rfl⟩:gs=[]∧q=[]:=by
  cases gs with
  | nil=>exact⟨rfl,hV⟩
  | cons g r=>exact absurd hV (by intro h;cases h)
 have hlen:ds.length=fn.params.toList.length:=trodAll_len hA;obtain⟨e1,e2,e3⟩:=hspec ds hlen;refine⟨ds,[],p ++ [],[],p,[],hW',?_,?_,?_,hb.frame _,fun h=>by cases h⟩
 · rw[List.append_nil,e1,hres];exact trodAll_mk1 (shut_bool Tryz.underlying4 true)
 · rw[List.append_nil,e2];exact trodAll_below hb _ _ _ _ hts hA (fun x hx=>hlt x (by simp[hx]))
 · rw[List.append_nil,e3,hvars];rfl
end frame
def err1 : LaidE := ⟨1, "liaison/api.ErrRange", 0, [108, 105, 97, 105, 115, 111, 110, 58, 32, 114, 97, 110, 103, 101]⟩
theorem ok_err1:err1.ok:=⟨by kernel_rfl,by kernel_rfl⟩
def err2 : LaidE := ⟨2, "liaison/api.ErrShort", 1, [108, 105, 97, 105, 115, 111, 110, 58, 32, 115, 104, 111, 114, 116]⟩
theorem ok_err2:err2.ok:=⟨by kernel_rfl,by kernel_rfl⟩
def err3 : LaidE := ⟨3, "liaison/api.ErrLong", 2, [108, 105, 97, 105, 115, 111, 110, 58, 32, 108, 111, 110, 103]⟩
theorem ok_err3:err3.ok:=⟨by kernel_rfl,by kernel_rfl⟩
def err4 : LaidE := ⟨4, "liaison/api.ErrForm", 3, [108, 105, 97, 105, 115, 111, 110, 58, 32, 102, 111, 114, 109]⟩
theorem ok_err4:err4.ok:=⟨by kernel_rfl,by kernel_rfl⟩
def err5 : LaidE := ⟨5, "liaison/api.ErrCheck", 4, [108, 105, 97, 105, 115, 111, 110, 58, 32, 99, 104, 101, 99, 107]⟩
theorem ok_err5:err5.ok:=⟨by kernel_rfl,by kernel_rfl⟩
def err6 : LaidE := ⟨6, "liaison/api.ErrFull", 5, [108, 105, 97, 105, 115, 111, 110, 58, 32, 102, 117, 108, 108]⟩
theorem ok_err6:err6.ok:=⟨by kernel_rfl,by kernel_rfl⟩
def err7 : LaidE := ⟨7, "liaison/api.ErrPower", 6, [108, 105, 97, 105, 115, 111, 110, 58, 32, 112, 111, 119, 101, 114]⟩
theorem ok_err7:err7.ok:=⟨by kernel_rfl,by kernel_rfl⟩
def err8 : LaidE := ⟨8, "liaison/api.ErrNone", 7, [108, 105, 97, 105, 115, 111, 110, 58, 32, 110, 111, 110, 101]⟩
theorem ok_err8:err8.ok:=⟨by kernel_rfl,by kernel_rfl⟩
def err9 : LaidE := ⟨9, "liaison/api.ErrState", 8, [108, 105, 97, 105, 115, 111, 110, 58, 32, 115, 116, 97, 116, 101]⟩
theorem ok_err9:err9.ok:=⟨by kernel_rfl,by kernel_rfl⟩
def err10 : LaidE := ⟨10, "liaison/api.ErrTwice", 9, [108, 105, 97, 105, 115, 111, 110, 58, 32, 116, 119, 105, 99, 101]⟩
theorem ok_err10:err10.ok:=⟨by kernel_rfl,by kernel_rfl⟩
def err11 : LaidE := ⟨11, "liaison/api.ErrDepth", 10, [108, 105, 97, 105, 115, 111, 110, 58, 32, 100, 101, 112, 116, 104]⟩
theorem ok_err11:err11.ok:=⟨by kernel_rfl,by kernel_rfl⟩
def err12 : LaidE := ⟨12, "liaison/api.ErrExpired", 11, [108, 105, 97, 105, 115, 111, 110, 58, 32, 101, 120, 112, 105, 114, 101, 100]⟩
theorem ok_err12:err12.ok:=⟨by kernel_rfl,by kernel_rfl⟩
def err13 : LaidE := ⟨13, "liaison/api.ErrPanic", 12, [108, 105, 97, 105, 115, 111, 110, 58, 32, 112, 97, 110, 105, 99]⟩
theorem ok_err13:err13.ok:=⟨by kernel_rfl,by kernel_rfl⟩
def err14 : LaidE := ⟨14, "liaison/api.ErrProtocol", 13, [108, 105, 97, 105, 115, 111, 110, 58, 32, 112, 114, 111, 116, 111, 99, 111, 108]⟩
theorem ok_err14:err14.ok:=⟨by kernel_rfl,by kernel_rfl⟩
def errs14:List LaidE:=[err1,err2,err3,err4,err5,err6,err7,err8,err9,err10,err11,err12,err13,err14]
theorem num14 (i:Int) (h1:1≤i) (h2:i≤14):∃x∈errs14,x.num=i:=by
 obtain⟨n,rfl⟩:=nat14 ⟨h1,h2⟩;have h0:n≠0:=fun h=>by rw[h] at h1;exact absurd h1 (by decide)
 revert n;decide
theorem ok14:∀x∈errs14,x.ok:=by
 intro x hx;simp only[errs14,List.mem_cons,List.not_mem_nil,or_false] at hx;rcases hx with rfl | rfl | rfl | rfl | rfl | rfl | rfl | rfl | rfl | rfl | rfl | rfl | rfl | rfl
 · exact ok_err1
 · exact ok_err2
 · exact ok_err3
 · exact ok_err4
 · exact ok_err5
 · exact ok_err6
 · exact ok_err7
 · exact ok_err8
 · exact ok_err9
 · exact ok_err10
 · exact ok_err11
 · exact ok_err12
 · exact ok_err13
 · exact ok_err14
theorem errs_of_laid {W:World} {l:List (String×DataW Unit)} (hl:l=errs14.map LaidE.datum) (h:laidMetH Tryz.prog l W):∃ea,Errs ea W:=by
 rw[MakeChecks.laidMetH_plain _ _ _ (by rw[hl];rfl)] at h;obtain⟨ps,h,hnd,hrows⟩:=h;rw[hl] at h;obtain⟨ea,h1,h2⟩:=sentinels errs14 ps (by decide) ok14 h hnd hrows;have hm:∀i:Int,1≤i→i≤14→∃x∈errs14,x.num=i:=num14
 refine⟨ea,(h1 err1 (by simp[errs14])).1,(h1 err2 (by simp[errs14])).1,(h1 err3 (by simp[errs14])).1,(h1 err4 (by simp[errs14])).1,(h1 err5 (by simp[errs14])).1,(h1 err6 (by simp[errs14])).1,(h1 err7 (by simp[errs14])).1,(h1 err8 (by simp[errs14])).1,(h1 err9 (by simp[errs14])).1,(h1 err10 (by simp[errs14])).1,(h1 err11 (by simp[errs14])).1,(h1 err12 (by simp[errs14])).1,(h1 err13 (by simp[errs14])).1,(h1 err14 (by simp[errs14])).1,?_,?_⟩
 · intro i j a b c d he;obtain⟨x,hx,rfl⟩:=hm i a b;obtain⟨y,hy,rfl⟩:=hm j c d;exact h2 x hx y hy he
 · intro i a b;obtain⟨x,hx,rfl⟩:=hm i a b;exact(hrows _ _ (h1 x hx).2).1
section wrap
variable {H:Type} {enc:TypeId×Value→H}
theorem handed_and_shaped {a : Assume} {C : Checked} {os : Os} {f : FuncId} {fn : Func} {s : ChangeSpec} {conds : List PathCond} {apart fresh handsOn again : Bool} {X : World → Array Value → Prop}
    (hX:∀(w w':World) (args:Array Value),w.heap=w'.heap→X w args→X w' args)
    (own:ownKnob C.prog.godebug=none) (started:os.Started) (noInit:C.prog.inits.idxOf? f=none) (hfn:C.prog.funcs[f]? =some fn)
    (witness:∃(w:World) (tape:Tape) (i:Input),w.os=os∧(w.forCall tape i).Shaped C.prog∧i.vars=[]∧Input.okWide C.prog (w.forCall tape i) .any w.heap.size f i∧
      ((s.pre enc C.prog fn conds apart (w.forCall tape i).memory i.args∧X (w.forCall tape i).memory i.args)∧sizedMet enc C.prog fn (OpenSpec.ofChange s) apart (w.forCall tape i).memory i.args)∧a.holds C.prog (lone (Frame.enter C.prog f i.args .normal) [] (w.forCall tape i)))
    (contract:∀(W:World) (base:Nat) (args:Array Value) (ds gs:List (DataW H)) (before:List MemPlace),
      (∀(j:Nat) t v,fn.params[j]? =some t→args[j]? =some v→Value.okWide C.prog W .any base t v)→
      DataW.Whole enc C.prog fn.params.toList s.vars apart W args.toList ds gs before→
      conds.all (PathCond.test C.prog ⟨fn.params.toList,ds,s.plain.varTypes C.prog,gs⟩)=true→
      (DataW.weightsEach C.prog (fn.params.toList ++s.plain.varTypes C.prog) (ds ++gs)).all (·≤reachBytes)=true→X W args→W.ShapedOpen C.prog→
      a.holds C.prog (lone (Frame.enter C.prog f args .normal) [] W)→
      Calls C.prog f args W fun e W'=>∃v,e=.returned v∧s.post enc C.prog fn apart fresh handsOn again W args v W'):
    ReturnsInHanded a C os f .any (fun w args=>(s.pre enc C.prog fn conds apart w args∧X w args)∧sizedMet enc C.prog fn (OpenSpec.ofChange s) apart w args) (s.post enc C.prog fn apart fresh handsOn again):=by
 refine returnsInHanded_of_calls own started noInit witness ?_;intro w tape i _ hsh _ hok hpre hholds;obtain⟨_,_,_,fn',hfn',_,_,_,_,hval⟩:=hok;have e:fn'=fn:=Option.some.inj (hfn'.symm.trans hfn);subst e;obtain⟨⟨⟨ds,gs,before,hw,hc⟩,hx⟩,hz⟩:=hpre;have hw':=DataW.Whole.of_heap (w':=w.forCall tape i) (by rfl) hw
 refine(contract (w.forCall tape i) w.heap.size i.args ds gs before hval hw' hc (hz.weights hw) (hX _ _ _ (by rfl) hx) hsh hholds).mono fun e W' ⟨v,he,hp⟩=> ?_
 subst he;exact ChangeSpec.post_blind hp
end wrap
theorem laidVars_parts {P:Program} {W:World}:∀(A B:List (String×DataW Unit)) (ps:List MemPlace),DataW.LaidVars P W (A ++B) ps→∃p q,ps=p ++q∧DataW.LaidVars P W A p∧DataW.LaidVars P W B q
 | [],_,ps,h=>⟨[],ps,rfl,rfl,h⟩
 | (n,d)::A,B,ps,h=>by
  obtain⟨g0,t0,cs0,f0,p0,q0,hg0,ht0,hv0,hd0,hrest,e0⟩:=h;obtain⟨p,q,rfl,h1,h2⟩:=laidVars_parts A B q0 hrest;exact⟨MemPlace.row ⟨g0,0,none⟩ cs0.size ++p0 ++p,q,by rw[e0];simp[List.append_assoc],⟨g0,t0,cs0,f0,p0,p,hg0,ht0,hv0,hd0,h1,rfl⟩,h2⟩
theorem laidMet_parts {P:Program} {W:World} {A B:List (String×DataW Unit)} (h:laidMet P (A ++B) W):laidMet P A W∧laidMet P B W:=by
 obtain⟨ps,h,hnd,hrows⟩:=h;obtain⟨p,q,rfl,h1,h2⟩:=laidVars_parts A B ps h;have hn:=List.nodup_append.1 hnd;exact⟨⟨p,h1,hn.1,fun b off hb=>hrows b off (List.mem_append_left _ hb)⟩,⟨q,h2,hn.2.1,fun b off hb=>hrows b off (List.mem_append_right _ hb)⟩⟩
theorem pow10_dataS:(Lib.tabData .u64 Lib.pow10Tab:DataW Unit)=Rows.laid_internal_strconv_uint64pow10:=by kernel_rfl
theorem errsS_of_met {W:World} (h:laidMet Tryz.prog (errs14.map LaidE.datum) W):∃ea,Errs ea W:=
 errs_of_laid rfl (by rw[MakeChecks.laidMetH_plain _ _ _ (by rfl)];exact h)
theorem envS_of_laid {W : World} {A : List (String × DataW Unit)} {B : List (String × DataW Unit)} {l : List (String × DataW Unit)}
    (hl : l = A ++ (("internal/strconv.uint64pow10", Lib.tabData .u64 Lib.pow10Tab) :: B) ∧ ∃ D, B = errs14.map LaidE.datum ++ D) (hp : (l.all fun x => x.2.handleName?.isNone) = true) (h : laidMetH Tryz.prog l W) : ∃ ea, EnvS ea W := by
 rw[MakeChecks.laidMetH_plain _ _ _ hp] at h;obtain⟨rfl,D,rfl⟩:=hl;have h2:=(laidMet_parts h).2
 have h3 := (laidMet_parts (A := [("internal/strconv.uint64pow10", Lib.tabData .u64 Lib.pow10Tab)]) (B := errs14.map LaidE.datum ++ D) h2).2
 have h4:=(laidMet_parts h3).1;obtain⟨ea,he⟩:=errsS_of_met h4;exact⟨ea,he,Lib.tabIs_of_head (g:=15) (t:=380) (e:=202) (n:=20) (by kernel_rfl) (by kernel_rfl) Tryz.underlying380 Tryz.underlying202 (by kernel_rfl) (by kernel_rfl) h2⟩
open Go.ChangeShapes Go.WideShapes Go.ChangeAt Go.WideMaps Go.WideElems Go.RowKit Go.Joins
theorem storeReplays_laid {l:List (String×DataW Unit)} (hl:l=Rows.storeReplaysRow.laid) {W:World} (h:laidMetH Tryz.prog l W):∃ea,EnvS ea W:=by
 subst hl;exact envS_of_laid (A:=Rows.storeReplaysRow.laid.take 2) (B:=Rows.storeReplaysRow.laid.drop 3) ⟨by rw[pow10_dataS];rfl,Rows.storeReplaysRow.laid.drop 17,rfl⟩ (by kernel_rfl) h
theorem storeReplays_lifted (os : Os) (started : os.Started) (H : Type) (enc : TypeId × Value → H) :
    ReturnsInHanded {} Tryz.checked os 5 .any (fun w args=>(Rows.storeReplaysSpec.pre enc Tryz.prog Tryz.f5 [] false w args∧laidMetH Tryz.prog Rows.storeReplaysRow.laid w)∧sizedMet enc Tryz.prog Tryz.f5 (OpenSpec.ofChange Rows.storeReplaysSpec) false w args)
     (Rows.storeReplaysSpec.post enc Tryz.prog Tryz.f5 false true false false):=by
 refine handed_and_shaped (C:=Tryz.checked) (X:=fun w _=>laidMetH Tryz.prog Rows.storeReplaysRow.laid w) (fun _ _ _ hh h=>h.of_heap hh) Tryz.own started (by kernel_rfl) Tryz.func5
  (ChangeSpec.witness_shaped (enc:=enc) (C:=Tryz.checked) (os:=os) (X:=fun w _=>laidMetH Tryz.prog Rows.storeReplaysRow.laid w) false (World.laidAll Tryz.prog os Rows.storeReplaysRow.laid) #[.int .i64 0,.slice none 0 0] 8 (World.laidAll_os _ _ _) (World.shaped_of_ZipB (by kernel_rfl) (by kernel_rfl)) (by kernel_rfl) (by kernel_rfl) (by kernel_rfl)
    (by rw[MakeChecks.laidMetH_plain _ _ _ (by kernel_rfl)];exact laidMet_laidAll _ (by kernel_rfl) (by kernel_rfl))) ?_
 intro W base args ds gs before hval0 hW _ hsz hL hshape _;have hval:∀(j:Nat) t v,Tryz.f5.params[j]? =some t→args[j]? =some v→Value.okWide Tryz.prog W .any base t v:=hval0;have hpost:∀W',Below W.heap.size W W'→Rows.storeReplaysSpec.post enc Tryz.prog Tryz.f5 false true false false W args (.bool true) W':=fun W' hb=>
  frame_post (by rw[Tryz.params5];decide+kernel) rfl rfl (fun ds h=>by rw[Tryz.params5] at h;match ds,h with | [d0,d1],_=>exact⟨rfl,rfl,rfl⟩) hW hb
 obtain⟨p,q,hA0,hV,rfl,hfz,hnd⟩:=hW;have hA:DataW.TrodAll enc Tryz.prog W 0 (fun _=>true) true Tryz.f5.params.toList args.toList ds p:=hA0;rw[Tryz.params5] at hA hval;obtain⟨v0,v1,d0,d1,p0,p1,rfl,rfl,rfl,h0,h1⟩:=trodAll_two hA;obtain⟨x,rfl,_,_,wx⟩:=open_int Tryz.underlying3 (hval 0 _ v0 rfl rfl) h0;obtain⟨a1,n1,c1,rfl⟩:=okWide_slice Tryz.underlying64 (hval 1 _ v1 rfl rfl)
 obtain⟨rows,hR⟩:=open_rows h1;obtain⟨ea,hE⟩:=(storeReplays_laid rfl hL)
 exact(law_sreplays x _ rows ea W hE hR).mono fun e W' ⟨he,hb⟩=>⟨_,he,hpost W' hb⟩
theorem js_laid:laidOutB Tryz.pinned.checked.prog=true:=by kernel_rfl
theorem js_maps:mapsRowed Tryz.pinned.checked.prog=true:=by kernel_rfl
theorem js_heard:Tryz.pinned.checked.prog.stopsHeard=true:=by kernel_rfl
theorem js_enter:Tryz.pinned.checked.prog.mayEnter=true:=by kernel_rfl
theorem js_plain:(Rows.partnerOnceRow.plainKeys==Tryz.pinned.checked.prog.plainKeys)=true:=by kernel_rfl
theorem js_lift:(Rows.partnerOnceRow.lifted==Tryz.pinned.checked.prog.liftsFinal)=true:=by kernel_rfl
theorem js_make:(Tryz.pinned.checked.prog.make==some Rows.partnerOnceRow.make)=true:=by kernel_rfl
theorem storeReplays_joined:joinedFacts Tryz.pinned.checked.prog 5 Tryz.f5 Rows.storeReplaysSpec Rows.storeReplaysRow=true:=by
 unfold joinedFacts;simp only[Bool.and_eq_true]
 repeat' apply And.intro
 · as_aux_lemma=>kernel_rfl
 · exact js_laid
 · exact js_maps
 · as_aux_lemma=>kernel_rfl
 · as_aux_lemma=>kernel_rfl
 · as_aux_lemma=>kernel_rfl
 · as_aux_lemma=>kernel_rfl
 · as_aux_lemma=>kernel_rfl
 · as_aux_lemma=>kernel_rfl
 · as_aux_lemma=>kernel_rfl
 · as_aux_lemma=>kernel_rfl
 · as_aux_lemma=>kernel_rfl
 · as_aux_lemma=>kernel_rfl
 · as_aux_lemma=>kernel_rfl
 · as_aux_lemma=>kernel_rfl
 · as_aux_lemma=>kernel_rfl
 · as_aux_lemma=>kernel_rfl
 · as_aux_lemma=>kernel_rfl
 · as_aux_lemma=>kernel_rfl
 · as_aux_lemma=>kernel_rfl
 · as_aux_lemma=>kernel_rfl
 · as_aux_lemma=>kernel_rfl
 · exact js_plain
 · as_aux_lemma=>kernel_rfl
 · exact js_heard
 · exact js_enter
 · exact js_lift
 · exact js_make
 · as_aux_lemma=>kernel_rfl
 · as_aux_lemma=>kernel_rfl
 · as_aux_lemma=>kernel_rfl
 · as_aux_lemma=>kernel_rfl
end Go.Proofs.YtlkajejbfojkeaaGreatDoor
