/- LdB, SmB, SpA -/
import Derived.Test.YtlkajejbfojkeaaGreatDoorKTabPlainToTrcP
import Derived.Laws.FloatArith
import Derived.Test.YtlkajejbfojkeaaGreatDoorHFcCToActs
import Derived.Lib.SmallJoins
import Derived.Deep.AppendLies
set_option linter.unusedSimpArgs false
set_option linter.unusedVariables false
set_option maxRecDepth 100000
set_option maxHeartbeats 16000000
namespace Go.Proofs.YtlkajejbfojkeaaGreatDoor
open Go.RowKit
attribute [local go_sem] store_float
theorem RegC.grown {w w':World} {b o:Nat} {r:SReg} {row:Option Nat} (h:RegC w b o r) (hg:w.grownBy w' row) (hne:row≠some b):RegC w' b o r:=
 ⟨hg.cell h.1 (fun e=>hne e.symm),hg.cell h.2.1 (fun e=>hne e.symm),hg.cell h.2.2.1 (fun e=>hne e.symm),hg.cell h.2.2.2.1 (fun e=>hne e.symm),hg.cell h.2.2.2.2.1 (fun e=>hne e.symm),hg.cell h.2.2.2.2.2 (fun e=>hne e.symm)⟩
theorem lGet_at {S:Sto} (hS:StoGood S) {i:Nat} {a:SAct} (ha:S.acts[i]? =some a):lGet S a.an a.aq=some (i,a):=by
 obtain⟨hi,he⟩:=List.getElem?_eq_some_iff.1 ha;have hf:sfind S a.an a.aq=some i:=by
  unfold sfind;rw[List.findIdx?_eq_some_iff_getElem];refine⟨hi,by rw[he];simp,fun j hj=> ?_⟩;have:=(List.pairwise_iff_getElem.1 hS.sorted) j i (by omega) hi hj;rw[he] at this;simp only[decide_eq_true_eq,not_and,Bool.not_eq_true,decide_eq_false_iff_not];intro _ h2;omega
 unfold lGet;rw[hf];simp only[ha]
def exFs:List SFact:=[⟨1,1,0,0,0,0,0,1,0,0,0,0,0,4621256167635550208⟩,⟨2,1,0,0,0,0,1,0,0,0,0,0,0,0⟩,⟨3,1,0,0,0,0,0,0,0,0,5,0,0,0⟩]
def exAct:SAct:=⟨1,0,1,0,4621256167635550208,0,0,[⟨0,0,⟨1,1,5,0⟩⟩]⟩
theorem exFit:sfit ⟨1,0,[],[]⟩ exFs=(⟨1,1,[exAct],[]⟩,true):=by kernel_rfl
theorem exF64:∀f∈exFs,F64 f.ex:=by
 intro f hf;simp only[exFs,List.mem_cons,List.not_mem_nil,or_false] at hf;rcases hf with rfl | rfl | rfl<;>(unfold F64;decide)
theorem alive15_of (ea:Int→Addr) (w:World) (hE:EnvS ea w):Calls Tryz.prog 18 #[] w (Makes (.bool true) w):=by
 have HN:=qq (snew_yes 1 w (by omega));have HE:=qq hE;clear hE;go_enter Tryz.func18,Tryz.ntmps18;go_wp2_with fail;refine HN.out.mono ?_;rintro e w1 ⟨rfl,rfl⟩;obtain⟨w1,hw1⟩:∃W,W=w.alloc (.cells #[.int .i64 1,.int .i64 0,.slice none 0 0,.slice none 0 0] 154):=⟨_,rfl⟩
 have HB1:Hid (Below w.heap.size w w1):=qq (by rw[hw1];go_grown);have HZ1:Hid (w1.heap.size=w.heap.size+1):=qq (by rw[hw1];simp);have HS0:Hid (StoreAt ⟨w.heap.size,.slice none 0 0,.slice none 0 0,[]⟩ ⟨1,0,[],[]⟩ w1):=qq (by
   have hb:Blk w1 w.heap.size #[.int .i64 1,.int .i64 0,.slice none 0 0,.slice none 0 0]:=by rw[hw1];exact Blk.fresh w _ _ _ rfl
   exact⟨hb,World.ownsRow_nil _ _ _ _,World.ownsRow_nil _ _ _ _,fun i y a h=>by simp at h,by simp[SLoc.foot,Value.ownBlock,blocks]⟩)
 rw[←hw1];clear hw1
 obtain⟨W2,hW2⟩:∃W,W=(w1.alloc (.cells #[.int .i64 1,.int .i64 0] 36)).alloc (.cells #[.int .i64 1,.int .i64 1,.int .i64 0,.int .i64 0,.int .i64 0,.int .i64 0,.int .i64 0,.int .i64 1,.int .i64 0,.int .i64 0,.int .i64 0,.int .i64 0,.int .i64 0,.float .f64 4621256167635550208,.int .i64 2,.int .i64 1,.int .i64 0,.int .i64 0,.int .i64 0,.int .i64 0,.int .i64 1,.int .i64 0,.int .i64 0,.int .i64 0,.int .i64 0,.int .i64 0,.int .i64 0,.float .f64 0,.int .i64 3,.int .i64 1,.int .i64 0,.int .i64 0,.int .i64 0,.int .i64 0,.int .i64 0,.int .i64 0,.int .i64 0,.int .i64 0,.int .i64 5,.int .i64 0,.int .i64 0,.float .f64 0] 39):=⟨_,rfl⟩
 have HB2:Hid (Below w1.heap.size w1 W2):=qq (by rw[hW2];go_grown);have HK3:Hid (Blk W2 w1.heap.size #[.int .i64 1,.int .i64 0]):=qq (by rw[hW2];exact(Blk.fresh w1 #[.int .i64 1,.int .i64 0] 36 _ rfl).alloc _)
 have HKF:Hid (Blk W2 (w1.heap.size+1) #[.int .i64 1,.int .i64 1,.int .i64 0,.int .i64 0,.int .i64 0,.int .i64 0,.int .i64 0,.int .i64 1,.int .i64 0,.int .i64 0,.int .i64 0,.int .i64 0,.int .i64 0,.float .f64 4621256167635550208,.int .i64 2,.int .i64 1,.int .i64 0,.int .i64 0,.int .i64 0,.int .i64 0,.int .i64 1,.int .i64 0,.int .i64 0,.int .i64 0,.int .i64 0,.int .i64 0,.int .i64 0,.float .f64 0,.int .i64 3,.int .i64 1,.int .i64 0,.int .i64 0,.int .i64 0,.int .i64 0,.int .i64 0,.int .i64 0,.int .i64 0,.int .i64 0,.int .i64 5,.int .i64 0,.int .i64 0,.float .f64 0]):=qq (by rw[hW2];exact Blk.fresh _ _ _ _ (by simp))
 go_wp2_with fail;rw[←hW2];clear hW2;go_loopw [27] (fun i wr=>∃k:Nat,k≤3∧i=.int .i64 (k:Nat)∧Hid (∃U,sfit ⟨1,0,[],[]⟩ exFs=sfit U (exFs.drop k)∧StoGood U∧SGoes ⟨w.heap.size,.slice none 0 0,.slice none 0 0,[]⟩ U W2 wr)) (fun i _=>3 - (intOf i).toNat)
 case atStart=>exact⟨0,by omega,by first | rfl | go_num,qq ⟨_,rfl,splay_good (node:=1) (by omega) [],SGoes.same (HS0.out.below HB2.out) (Below.refl _ _)⟩⟩
 case round=>
  obtain⟨k,hk,rfl,HU⟩:=hrel;obtain⟨U,hU,hGU,hgo⟩:=HU.out;obtain⟨L1,hL1,hS1,hg1⟩:=hgo;dsimp only at hL1;have hz1:=HZ1.out;have hft:∀j∈(⟨w.heap.size,.slice none 0 0,.slice none 0 0,[]⟩:SLoc).foot,j=w.heap.size:=fun j hj=>by simpa[SLoc.foot,Value.ownBlock,blocks] using hj
  have hz2:=HB2.out.size;have hnl1:∀j∈L1.foot,w.heap.size≤j:=fun j hj=>by
   rcases hg1.new j hj with e | e
   · rw[hft j e];exact Nat.le_refl _
   · omega
  have hbe:Below w.heap.size w wr:=(HB1.out.trans (HB2.out.mono (by omega))).trans (hg1.below (fun j hj=>by rw[hft j hj];exact Nat.le_refl _) (by omega));have l3:=HK3.out.lt;have lF:=HKF.out.lt;have K3:=qq (HK3.out.same hg1.size (hg1.block _ l3 (fun h=>by have:=hft _ h;omega)));have KF:=qq (HKF.out.same hg1.size (hg1.block _ lF (fun h=>by have:=hft _ h;omega)));by_cases hlt:k<3
  · have hks:k<exFs.length:=by unfold exFs;exact hlt
    obtain⟨f,hf⟩:∃f,f=exFs[k]:=⟨_,rfl⟩
    have hst:sfit U (exFs.drop k)=if(sapply U f).2=0 then sfit (sapply U f).1 (exFs.drop (k+1)) else((sapply U f).1,false):=by
     rw[List.drop_eq_getElem_cons hks,←hf];rfl
    have hx:F64 f.ex:=by rw[hf];exact exF64 _ (List.getElem_mem hks)
    have h0:(sapply U f).2=0:=by
     rw[exFit,hst] at hU;by_cases h:(sapply U f).2=0
     · exact h
     · rw[if_neg h] at hU;injection hU with _ h2;cases h2
    rw[hst,if_pos h0] at hU;have hgood:StoGood (sapply U f).1:=sapply_good hGU;have HA:=qq (fun W (hW:EnvG L1 ea W) (hs:StoreAt L1 U W)=>apply_of L1 U f ea W hx hW hs hGU);obtain⟨T,hT⟩:∃T,T=(sapply U f).1:=⟨_,rfl⟩
    rw[←hT,h0] at HA;rw[←hT] at hU hgood
    have hcell:∀j v,(#[.int .i64 1,.int .i64 1,.int .i64 0,.int .i64 0,.int .i64 0,.int .i64 0,.int .i64 0,.int .i64 1,.int .i64 0,.int .i64 0,.int .i64 0,.int .i64 0,.int .i64 0,.float .f64 4621256167635550208,.int .i64 2,.int .i64 1,.int .i64 0,.int .i64 0,.int .i64 0,.int .i64 0,.int .i64 1,.int .i64 0,.int .i64 0,.int .i64 0,.int .i64 0,.int .i64 0,.int .i64 0,.float .f64 0,.int .i64 3,.int .i64 1,.int .i64 0,.int .i64 0,.int .i64 0,.int .i64 0,.int .i64 0,.int .i64 0,.int .i64 0,.int .i64 0,.int .i64 5,.int .i64 0,.int .i64 0,.float .f64 0]:Array Value)[k*14+j]? =some v→wr.cell? ⟨w1.heap.size+1,k*14+j,none⟩=some v:=fun j v h=>(KF.out.cell _).trans h
    have hat:FactAt wr (w1.heap.size+1) (k*14) f:=by
     have hf':exFs[k]? =some f:=by rw[hf];exact List.getElem?_eq_getElem hks
     clear hf;have hk3:k=0∨k=1∨k=2:=by omega
     clear hst hU hks;rcases hk3 with rfl | rfl | rfl<;>(injection hf' with e;subst e;exact⟨hcell 0 _ rfl,hcell 1 _ rfl,hcell 2 _ rfl,hcell 3 _ rfl,hcell 4 _ rfl,hcell 5 _ rfl,hcell 6 _ rfl,hcell 7 _ rfl,hcell 8 _ rfl,hcell 9 _ rfl,hcell 10 _ rfl,hcell 11 _ rfl,hcell 12 _ rfl,hcell 13 _ rfl⟩)
    have lFr:=KF.out.lt;have hki:(k:Int)<3:=by omega
    have hk0:(0:Int)≤(k:Int):=by omega
    have HU1:=qq hU;have HGD:=qq hgood;have HBE:=qq hbe;have HNL1:=qq hnl1;have HS1:=qq hS1;have HG1:=qq hg1;have HL1:=qq hL1;obtain⟨c0,c1,c2,c3,c4,c5,c6,c7,c8,c9,c10,c11,c12,c13⟩:=hat;clear hf hst hx h0 hU hgood hbe hnl1 hS1 hg1 hT hGU HU hcell hft hz1 hz2 l3 lF hks;obtain⟨k',an,aq,rg,nd,pt,pr,oc,dp,pa,st,hw,de,ex⟩:=f;dsimp only[factV,factC,ApplyEnds] at*;simp only[HL1.out] at HA;go_wp2_with fail
    refine(HA.out _ (envG_of HE.out (below_then HBE.out (by go_grown)) HNL1.out) (HS1.out.below (by go_grown))).mono ?_;rintro e w5 ⟨rfl,hs⟩;have HSG:=qq (show SGoes ⟨w.heap.size,.slice none 0 0,.slice none 0 0,[]⟩ T W2 w5 by
      obtain⟨L2,hL2,hS2,hg2⟩:=hs;exact⟨L2,by rw[hL2,HL1.out],hS2,(HG1.out.then_below (w2:=wr.alloc (.cells #[k',an,aq,rg,nd,pt,pr,oc,dp,pa,st,hw,de,.float .f64 ex] 39)) (by go_grown)).trans hg2⟩)
    clear hs;have he0:errOf ea 0=.nilIface:=rfl;simp only[he0];go_wp2_with fail;go_roundw
    case rel=>exact⟨k+1,by omega,by go_num,qq ⟨T,HU1.out,HGD.out,HSG.out⟩⟩
    case measure=>(simp[intOf];omega)
  · obtain rfl:k=3:=by omega
    rw[exFit] at hU;have hU2:U=⟨1,1,[exAct],[]⟩:=by
     have h:sfit U (exFs.drop 3)=(U,true):=rfl;rw[h] at hU;injection hU with h1 _
     exact h1.symm
    subst hU2;have HFD:=qq (fun W hW=>Find_yes L1 ⟨1,1,[exAct],[]⟩ 1 0 0 exAct W hW hGU (lGet_at (i:=0) hGU rfl));have HS1:=qq hS1;have HBE:=qq hbe;unfold ActOut exAct at HFD;dsimp only[actC,List.length] at HFD;simp only[hL1] at HFD;clear hU hS1 hbe hg1 hnl1 hGU HU hft hz1 hz2;have q3:=K3.out.cell;have f3:=K3.out.free;have l3':=K3.out.lt;have q30:=q3 0;have q31:=q3 1;go_wp2_with fail
    refine(HFD.out _ (HS1.out.below (by go_grown))).mono ?_;rintro e w5 ⟨v',rfl,ho,hb5⟩;have B5:=below_then HBE.out hb5;obtain⟨va,vc,rfl,_,hr⟩:=reg_row ho;obtain⟨g,rfl,hg,_,hc⟩:=hr (by decide);obtain⟨r0,r1,r2,r3,r4,r5⟩:=hc 0 _ rfl;dsimp only at r0 r1 r2 r3 r4 r5;clear ho hr hc q3 f3;go_wp2_with fail;go_ret;exact⟨rfl,below_then B5 (by go_grown)⟩
end Go.Proofs.YtlkajejbfojkeaaGreatDoor
