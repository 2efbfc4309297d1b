/- FcL, FcN, FlOpen, OpF, Sent, Errs, WrapS, LaidS, StoreStaysL, JoinS, StoreStaysJ -/
import Derived.Test.YtlkajejbfojkeaaGreatDoorHLdBToSpA
import Derived.ChangeArms
import Derived.Deep.Slices
import Derived.Laws.Cover2
import Derived.ProofKit
import Derived.LaidMore
import Derived.OpenShut
import Derived.Stop.Joined
import Derived.Carry
import Derived.SevenTiedAt
import Derived.HandedShaped
import Derived.Shelf.Vars
import Derived.Lib.LaidTab
import Derived.Lay
import Derived.JoinedOf
set_option linter.unusedSimpArgs false
set_option linter.unusedVariables false
set_option maxRecDepth 100000
set_option maxHeartbeats 16000000
namespace Go.Proofs.YtlkajejbfojkeaaGreatDoor
open Go.RowKit
attribute [local go_sem] store_float
theorem encF_len8 {f:SFact} (h:fok f=true) (hx:F64 f.ex):∀x∈encF f,x.d.length≤8:=by
 have one:∀(i:Nat) (n:Int),∀x∈oneF i n,x.d.length≤8:=fun i n x hm=>by
  unfold oneF at hm;split at hm
  · cases hm
  · obtain rfl:=List.mem_singleton.1 hm;show(numB n.toNat).length≤8
    unfold numB;rw[List.length_reverse];exact lowB_len 8 _
 have all:∀(l:List Int) (i:Nat),∀x∈encN i l,x.d.length≤8:=by
  intro l
  induction l with
  | nil=>intro i x hm;cases hm
  | cons n t ih=>intro i x hm;exact(List.mem_append.1 hm).elim (one i n x) (ih (i+1) x)
 intro x hm;unfold encF at hm;rcases List.mem_append.1 hm with hm | hm
 · exact all _ _ x hm
 · split at hm
   · obtain rfl:=List.mem_singleton.1 hm;exact Nat.le_of_eq (fltF_fltB hx).2.1
   · cases hm
theorem seatNe (sp sd ss sh:Int) (w:World):(binOp .neq 53 (.agg #[sp,sd,ss,sh]) (.agg #[sp,sd,ss,sh])).run Tryz.prog w=.ok (.bool false) w:=by
 go_simp
structure Keeps (node:Int) (sb:Nat) (w1:World) (S:Sto) (L:SLoc) (wr:World):Prop where
 sb:L.sb=sb
 node:S.node=node
 good:StoGood S
 room:SRoom S
 ex:SEx S
 at_:StoreAt L S wr
 foot:∀j∈L.foot,w1.heap.size≤j
 be:Below w1.heap.size w1 wr
theorem Keeps.below {node:Int} {sb:Nat} {w1 wr W:World} {S:Sto} {L:SLoc} (h:Keeps node sb w1 S L wr) (hb:Below wr.heap.size wr W):Keeps node sb w1 S L W:=⟨h.sb,h.node,h.good,h.room,h.ex,h.at_.below hb,h.foot,below_then h.be hb⟩
theorem Keeps.goes {node:Int} {sb:Nat} {w1 wr W:World} {S:Sto} {L:SLoc} {f:SFact} (h:Keeps node sb w1 S L wr) (hf:F64 f.ex) (hg:SGoes L (sapply S f).1 wr W):∃L',Keeps node sb w1 (sapply S f).1 L' W∧Goes L.foot L'.foot wr W:=by
 obtain⟨L',h1,h2,h3⟩:=hg;exact⟨L',⟨h1.trans h.sb,(sapply_node S f).trans h.node,sapply_good h.good,room_apply h.good h.room,ex_apply h.ex hf,h2,fun j hj=>(h3.new j hj).elim (h.foot j) (fun hn=>Nat.le_trans h.be.size hn),h.be.trans (h3.below h.foot h.be.size)⟩,h3⟩
theorem sfacts_len {S:Sto} (hG:StoGood S):(sfacts S).length≤200:=by
 have h1:=partsF_len S.parts 0;have h2:=flatF_len S.acts (fun a ha=>(hG.act a ha).len);have h3:(lastF S).length≤2:=by unfold lastF;split<;>simp
 have h4:=hG.parts;have h5:=hG.acts;unfold sfacts;rw[List.length_append,List.length_append];omega
theorem bytesF_len {f:SFact} (h:fok f=true) (hx:F64 f.ex):(bytesF f).length≤900:=by
 have h1:=encF_row h hx;unfold bytesF;have hd:∀x∈encF f,x.d.length≤8:=encF_len8 h hx;have h2:∀(xs:List Fld),(∀x∈xs,x.d.length≤8)→(joinB xs).length≤11*xs.length:=by
  intro xs
  induction xs with
  | nil=>intro _;simp[joinB]
  | cons x t ih=>
   intro h;have h3:=ih (fun y hy=>h y (by simp[hy]));have h4:=h x (by simp);have e:(joinB (x::t)).length=(x.d.length+3)+(joinB t).length:=by simp[joinB];omega
   simp only[List.length_cons];omega
 have h3:=h2 _ hd;have:=h1.2;omega
theorem law_sstays_go (node:Int) (a:Option Addr) (cap N:Nat) (fs:List SFact) (ea:Int→Addr) (w:World) (hE:EnvS ea w) (hN:N=fs.length) (hR:ReadFacts w (.slice a N cap) fs) (hF:∀f∈fs,F64 f.ex) (hn:N≤60) (hnd:0≤node∧node≤3):Calls Tryz.prog 6 #[.int .i64 node,.slice a N cap] w (Makes (.bool true) w):=by
 have HAL:=qq (fun W (hW:Below w.heap.size w W)=>alive15_of ea W (hE.below hW));have HEN:=qq (fun W (hW:Below w.heap.size w W)=>hE.below hW);have HNW:=qq (fun W=>snew_yes node W hnd);have HG0:Hid (StoGood ⟨node,0,[],[]⟩):=qq (StoGood.new hnd.1 hnd.2);have HND:=qq hnd;obtain⟨a2,cap2,hv,hrf⟩:=hR;simp only[Value.slice.injEq] at hv;obtain⟨rfl,-,rfl⟩:=hv;have HRF:=qq hrf;have HNN:=qq hN;have HF:=qq hF
 have d1:¬(60:Int)<(N:Int):=by omega
 clear hE hrf hN hF hnd;go_enter Tryz.func6,Tryz.ntmps6;go_wp2_with fail;refine(HAL.out _ (by go_grown)).mono ?_;rintro e w1 ⟨rfl,hb1⟩;have HB1:=qq hb1;have hz1:=hb1.size;clear hb1;go_wp2_with fail;refine(HNW.out _).mono ?_;rintro e w2 ⟨rfl,rfl⟩
 have HK0:Hid (Keeps node w1.heap.size w1 ⟨node,0,[],[]⟩ ⟨w1.heap.size,.slice none 0 0,.slice none 0 0,[]⟩ (w1.alloc (.cells #[node,.int .i64 0,.slice none 0 0,.slice none 0 0] 154))):=qq ⟨rfl,rfl,HG0.out,room_new node,(fun a h=>by cases h),store_start _,(fun j hj=>by simp[SLoc.foot,Value.ownBlock,blocks] at hj;omega),bel_alloc (Below.refl _ _) _⟩;go_wp2_with fail
 go_loopw [31] (fun cc wr=>∃k:Nat,k≤N∧cc=.int .i64 (k:Int)∧Hid (∃S L,Keeps node w1.heap.size w1 S L wr)) (fun cc _=>N - (intOf cc).toNat)
 case atStart=>exact⟨0,by omega,by first | rfl | go_num,qq ⟨_,_,HK0.out⟩⟩
 case round=>
  obtain⟨k,hk,rfl,⟨S,L,hKP⟩⟩:=hrel;have HK:=qq hKP;have hsb:=hKP.sb;have hk0:(0:Int)≤(k:Int):=by omega
  have HBW:=qq (below_then HB1.out hKP.be);have hwr:=HBW.out.size;have hwr1:=hKP.be.size;have HSB:=qq hsb;clear hKP hsb;by_cases hlt:k<N
  · have hk1:(k:Int)<(N:Int):=by omega
    have hil:k<fs.length:=by have:=HNN.out;omega
    obtain⟨f,hf⟩:∃f,f=fs[k]:=⟨_,rfl⟩
    have hmem:f∈fs:=by rw[hf];exact List.getElem_mem hil
    obtain⟨b,off,rfl,hbl,hcs⟩:=HRF.out (by intro e;rw[e] at hil;cases hil);have hfa:=(hcs k hil).below HBW.out hbl;rw[←hf] at hfa;have HX:=qq (HF.out f hmem);obtain⟨k',an,aq,rg,nd,pt,pr,oc,dp,pa,st,hw,de,ex⟩:=f;unfold FactAt at hfa;obtain⟨c0,c1,c2,c3,c4,c5,c6,c7,c8,c9,c10,c11,c12,c13⟩:=hfa;dsimp only at c0 c1 c2 c3 c4 c5 c6 c7 c8 c9 c10 c11 c12 c13
    have hb2:=(Below.refl wr.heap.size wr).alloc (Nat.le_refl _) (.cells #[k',an,aq,rg,nd,pt,pr,oc,dp,pa,st,hw,de,.float .f64 ex] 39);have HK2:=qq (HK.out.below hb2);have KF2:=qq (Blk.fresh wr #[k',an,aq,rg,nd,pt,pr,oc,dp,pa,st,hw,de,.float .f64 ex] 39 _ rfl);have hbw:b<wr.heap.size:=by omega
    have HLF:Hid (∀j∈L.foot,j<wr.heap.size):=qq HK.out.at_.lt;clear hf hmem hcs hil hlt hb2;rw[←HSB.out];go_wp2_with fail;obtain⟨w2,hw2⟩:∃x,x=wr.alloc (.cells #[k',an,aq,rg,nd,pt,pr,oc,dp,pa,st,hw,de,.float .f64 ex] 39):=⟨_,rfl⟩
    obtain⟨fb,hfb⟩:∃x,x=wr.heap.size:=⟨_,rfl⟩
    have hz2:w2.heap.size=fb+1:=by rw[hw2,hfb];simp
    simp only[←hw2,←hfb] at*;clear c0 c1 c2 c3 c4 c5 c6 c7 c8 c9 c10 c11 c12 c13;refine(facts_of L S w2 HK2.out.at_ HK2.out.good).mono ?_;rintro e w3 ⟨fa,fc,rfl,hrow,hb3⟩;have HK3:=qq (HK2.out.below hb3);have KF3:=qq (KF2.out.below hb3);have HRF3:=qq (read_row hrow).1;have HOKF:=qq (sfacts_ok HK2.out.good HK2.out.room HK2.out.ex);have hlen:(sfacts S).length≤200:=sfacts_len HK2.out.good
    have hz3:=hb3.size;obtain⟨nf,hnf⟩:∃x,x=(sfacts S).length:=⟨_,rfl⟩
    have HNF:=qq hnf;rw[←hnf] at HRF3 hlen⊢;clear hrow hb3 hnf HK2 KF2;go_wp2_with fail;refine(rows_of fa nf fc (sfacts S) ea w3 (HEN.out _ (below_then HB1.out HK3.out.be)) HNF.out HRF3.out HOKF.out (by omega)).mono ?_;rintro e w4 ⟨ra,rc,rfl,hrows,hb4⟩;have HK4:=qq (HK3.out.below hb4);have KF4:=qq (KF3.out.below hb4);have HRW:=qq hrows;have hz4:=hb4.size
    have HRP:=qq (replay_of node ra ((sfacts S).map bytesF) rc ea w4 (HEN.out _ (below_then HB1.out HK4.out.be)) HND.out hrows (fun r hr=>by
      obtain⟨f,hf,rfl⟩:=List.mem_map.1 hr;exact bytesF_len (HOKF.out f hf).1 (HOKF.out f hf).2) (by rw[List.length_map,←HNF.out];omega))
    rw[List.length_map,←HNF.out] at HRP;have HSR:Hid (sreplay ⟨node,0,[],[]⟩ ((sfacts S).map bytesF)=some S):=qq (by have h:=sreplay_rows HK4.out.good HK4.out.room HK4.out.ex;rw[HK4.out.node] at h;exact h);clear hrows hb4 HK3 KF3 HRF3;go_wp2_with fail;refine HRP.out.mono ?_;rintro e w5 ⟨hyes,-⟩;obtain⟨L2,rfl,hS2,hf2,hb5⟩:=hyes S HSR.out;have HK5:=qq (HK4.out.below hb5)
    have KF5:=qq (KF4.out.below hb5);have HS2:=qq hS2;have HF2:=qq hf2;have hz5:=hb5.size;clear hyes hS2 hf2 hb5 HK4 KF4 HRP HRW;obtain⟨lf,qf,ff⟩:=KF5.out;go_wp2_with fail;have hap:=apply_of L S ⟨k',an,aq,rg,nd,pt,pr,oc,dp,pa,st,hw,de,ex⟩ ea w5 HX.out (envG_of (HEN.out w (Below.refl _ _)) (below_then HB1.out HK5.out.be) (fun j hj=>by have:=HK5.out.foot j hj;omega)) HK5.out.at_ HK5.out.good
    simp only[factV,factC,ApplyEnds] at hap;refine hap.mono ?_;clear hap;rintro e w6 ⟨rfl,hsg⟩;obtain⟨L3,hk6,hgo⟩:=HK5.out.goes HX.out hsg;have HK6:=qq hk6;have HS26:Hid (StoreAt L2 S w6):=qq (HS2.out.keep hgo.size (fun j hj=>hgo.block j (HS2.out.lt j hj) (fun hjl=>by have h1:=HF2.out j hj;have h2:=HLF.out j hjl;omega)))
    have KF6:=qq (KF5.out.same hgo.size (hgo.block _ KF5.out.lt (fun hjl=>by have h2:=HLF.out _ hjl;omega)));have hz6:=hgo.size;have HDJ:Hid (∀j∈L3.foot,j∉L2.foot):=qq (fun j hj hj2=>(hgo.new j hj).elim (fun h=>by have h1:=HF2.out j hj2;have h2:=HLF.out j h;omega) (fun h=>by have h1:=HS2.out.lt j hj2;omega));have hsb6:L3.sb=L.sb:=HK6.out.sb.trans HSB.out.symm
    have HNO:=qq (fun h=>sapply_no (S:=S) (f:=⟨k',an,aq,rg,nd,pt,pr,oc,dp,pa,st,hw,de,ex⟩) h);have HTW:=qq (fun h h3 h8=>sapply_twice (S:=S) (f:=⟨k',an,aq,rg,nd,pt,pr,oc,dp,pa,st,hw,de,ex⟩) HK5.out.good h h3 h8);have HED:=qq (fun h (i:Nat) (p:SPart) hp=>sapply_ended (S:=S) (f:=⟨k',an,aq,rg,nd,pt,pr,oc,dp,pa,st,hw,de,ex⟩) h (i:=i) (p:=p) hp);have HG5:=qq HK5.out.good;have HX5:=qq HK5.out.ex
    obtain⟨T,hT⟩:∃T,T=(sapply S ⟨k',an,aq,rg,nd,pt,pr,oc,dp,pa,st,hw,de,ex⟩).1:=⟨_,rfl⟩
    obtain⟨en,hen⟩:∃en,en=(sapply S ⟨k',an,aq,rg,nd,pt,pr,oc,dp,pa,st,hw,de,ex⟩).2:=⟨_,rfl⟩
    rw[←hT] at HK6 HNO HTW HED;rw[←hen] at HNO HTW HED⊢;clear hsg hk6 hgo HK5 KF5 qf lf ff HS2 hT hen;obtain⟨lf,qf,ff⟩:=KF6.out;by_cases he:en=0
    · subst he;rw[errOf_zero];replace HED:=qq (HED.out rfl);replace HTW:=qq (HTW.out rfl);clear HNO;by_cases h3:k'=3
      · have h3b:(k' !=3)=false:=by simpa using h3
        clear h3;have HS2X:=HS26;have HPT:=qq (parts_of L2 S w6 HS2X.out HG5.out.parts);go_wp2_with fail;refine HPT.out.mono ?_;rintro e w8 ⟨pv,rfl,hrow8,hb8⟩;have HK8:=qq (HK6.out.below hb8);obtain⟨pa',pc',hpv,hpl,hpr⟩:=part_row hrow8;subst hpv;have HPR:=qq hpr;have h8p:=HG5.out.parts;obtain⟨np,hnp⟩:∃x,x=S.parts.length:=⟨_,rfl⟩
        have HNP:=qq hnp;rw[←hnp] at HPR h8p⊢;have hz8:=hb8.size;clear hrow8 hb8 hpl hpr hnp HPT qf ff lf;go_wp2_with fail;go_loopw [76] (fun cc wr=>∃j:Nat,j≤np∧cc=.int .i64 (j:Int)∧Hid (Below w8.heap.size w8 wr)) (fun cc _=>np - (intOf cc).toNat)
        case atStart=>exact⟨0,by omega,by first | rfl | go_num,qq (Below.refl _ _)⟩
        case round=>
         obtain⟨j,hj,rfl,HBP⟩:=hrel;have hj0:(0:Int)≤(j:Int):=by omega
         by_cases hjt:j<np
         · have hj1:(j:Int)<(np:Int):=by omega
           obtain⟨g,rfl,hg,_,hpt⟩:=HPR.out (by omega);obtain⟨p,hp⟩:∃p,S.parts[j]? =some p:=⟨_,List.getElem?_eq_getElem (by have:=HNP.out;omega)⟩
           obtain⟨p',hp',hend⟩:=HED.out j p hp;obtain⟨r0,r1,r2,r3,r4,r5,r6⟩:=(hpt j p hp).below HBP.out hg;have hgw:g<wr.heap.size:=Nat.lt_of_lt_of_le hg HBP.out.size;have hpg:pGet T (j:Int)=some p':=by unfold pGet;rw[if_pos hj0,Int.toNat_natCast];exact hp'
           obtain⟨pan,paq,prg,⟨sp,sd,ss,sh⟩⟩:=p;obtain⟨qan,qaq,qrg,⟨tp,td,ts,th⟩⟩:=p';dsimp only at r0 r1 r2 r3 r4 r5 r6 hend;have hbp:=(Below.refl wr.heap.size wr).alloc (Nat.le_refl _) (.cells #[pan,paq,prg,sp,sd,ss,sh] 61);have HPY:=qq (part_yes L3 T (j:Int) _ _ ((HK8.out.below HBP.out).below hbp).at_ (HK8.out.good.parts) hpg);have KP:=qq (Blk.fresh wr #[pan,paq,prg,sp,sd,ss,sh] 61 _ rfl)
           have HBQ:=qq (below_then HBP.out hbp);simp only[partA] at HPY;rw[HK8.out.sb,←HSB.out] at HPY;clear hp hp' hpt hpg hbp hjt;go_wp2_with fail;refine HPY.out.mono ?_;rintro e w9 ⟨rfl,hb9⟩;have HB9:=qq (bel_alloc (below_then HBQ.out hb9) (.cells #[qan,qaq,qrg,tp,td,ts,th] 61));have KP9:=qq ((KP.out.below hb9).alloc (.cells #[qan,qaq,qrg,tp,td,ts,th] 61));have hz9:=hb9.size
           obtain⟨lp,qp,fp⟩:=KP9.out;clear hb9 r0 r1 r2 r3 r4 r5 r6;rw[World.size_alloc] at hz9;by_cases h14:ss=14
           · have hs:=hend h14;injection hs with s1 s2 s3 s4
             subst s1 s2 s3 s4;have hne:=seatNe tp td ts th;have hsb14:(ts==14)=true:=by simpa using h14
             clear hend h14;go_wp2_with fail;go_roundw
             case rel=>exact⟨j+1,by omega,by go_num,HB9⟩
             case measure=>simp[intOf];omega
           · have hsb14:(ss==14)=false:=by simpa using h14
             clear hend h14;go_wp2_with fail;go_roundw
             case rel=>exact⟨j+1,by omega,by go_num,HB9⟩
             case measure=>simp[intOf];omega
         · obtain rfl:np=j:=by omega
           go_wp2_with fail;go_roundw
           case rel=>exact⟨k+1,by omega,by go_num,qq ⟨T,_,by have h:=HK8.out.below HBP.out;rw[←HSB.out] at h;exact h⟩⟩
           case measure=>simp[intOf];omega
      by_cases h8:k'=8
      · have h3b:(k' !=3)=true:=by simpa using h3
        have h8b:(k' !=8)=false:=by simpa using h8
        clear h3 h8;have HS2X:=HS26;have HPT:=qq (parts_of L2 S w6 HS2X.out HG5.out.parts);go_wp2_with fail;refine HPT.out.mono ?_;rintro e w8 ⟨pv,rfl,hrow8,hb8⟩;have HK8:=qq (HK6.out.below hb8);obtain⟨pa',pc',hpv,hpl,hpr⟩:=part_row hrow8;subst hpv;have HPR:=qq hpr;have h8p:=HG5.out.parts;obtain⟨np,hnp⟩:∃x,x=S.parts.length:=⟨_,rfl⟩
        have HNP:=qq hnp;rw[←hnp] at HPR h8p⊢;have hz8:=hb8.size;clear hrow8 hb8 hpl hpr hnp HPT qf ff lf;go_wp2_with fail;go_loopw [76] (fun cc wr=>∃j:Nat,j≤np∧cc=.int .i64 (j:Int)∧Hid (Below w8.heap.size w8 wr)) (fun cc _=>np - (intOf cc).toNat)
        case atStart=>exact⟨0,by omega,by first | rfl | go_num,qq (Below.refl _ _)⟩
        case round=>
         obtain⟨j,hj,rfl,HBP⟩:=hrel;have hj0:(0:Int)≤(j:Int):=by omega
         by_cases hjt:j<np
         · have hj1:(j:Int)<(np:Int):=by omega
           obtain⟨g,rfl,hg,_,hpt⟩:=HPR.out (by omega);obtain⟨p,hp⟩:∃p,S.parts[j]? =some p:=⟨_,List.getElem?_eq_getElem (by have:=HNP.out;omega)⟩
           obtain⟨p',hp',hend⟩:=HED.out j p hp;obtain⟨r0,r1,r2,r3,r4,r5,r6⟩:=(hpt j p hp).below HBP.out hg;have hgw:g<wr.heap.size:=Nat.lt_of_lt_of_le hg HBP.out.size;have hpg:pGet T (j:Int)=some p':=by unfold pGet;rw[if_pos hj0,Int.toNat_natCast];exact hp'
           obtain⟨pan,paq,prg,⟨sp,sd,ss,sh⟩⟩:=p;obtain⟨qan,qaq,qrg,⟨tp,td,ts,th⟩⟩:=p';dsimp only at r0 r1 r2 r3 r4 r5 r6 hend;have hbp:=(Below.refl wr.heap.size wr).alloc (Nat.le_refl _) (.cells #[pan,paq,prg,sp,sd,ss,sh] 61);have HPY:=qq (part_yes L3 T (j:Int) _ _ ((HK8.out.below HBP.out).below hbp).at_ (HK8.out.good.parts) hpg);have KP:=qq (Blk.fresh wr #[pan,paq,prg,sp,sd,ss,sh] 61 _ rfl)
           have HBQ:=qq (below_then HBP.out hbp);simp only[partA] at HPY;rw[HK8.out.sb,←HSB.out] at HPY;clear hp hp' hpt hpg hbp hjt;go_wp2_with fail;refine HPY.out.mono ?_;rintro e w9 ⟨rfl,hb9⟩;have HB9:=qq (bel_alloc (below_then HBQ.out hb9) (.cells #[qan,qaq,qrg,tp,td,ts,th] 61));have KP9:=qq ((KP.out.below hb9).alloc (.cells #[qan,qaq,qrg,tp,td,ts,th] 61));have hz9:=hb9.size
           obtain⟨lp,qp,fp⟩:=KP9.out;clear hb9 r0 r1 r2 r3 r4 r5 r6;rw[World.size_alloc] at hz9;by_cases h14:ss=14
           · have hs:=hend h14;injection hs with s1 s2 s3 s4
             subst s1 s2 s3 s4;have hne:=seatNe tp td ts th;have hsb14:(ts==14)=true:=by simpa using h14
             clear hend h14;go_wp2_with fail;go_roundw
             case rel=>exact⟨j+1,by omega,by go_num,HB9⟩
             case measure=>simp[intOf];omega
           · have hsb14:(ss==14)=false:=by simpa using h14
             clear hend h14;go_wp2_with fail;go_roundw
             case rel=>exact⟨j+1,by omega,by go_num,HB9⟩
             case measure=>simp[intOf];omega
         · obtain rfl:np=j:=by omega
           go_wp2_with fail;go_roundw
           case rel=>exact⟨k+1,by omega,by go_num,qq ⟨T,_,by have h:=HK8.out.below HBP.out;rw[←HSB.out] at h;exact h⟩⟩
           case measure=>simp[intOf];omega
      have h3b:(k' !=3)=true:=by simpa using h3
      have h8b:(k' !=8)=true:=by simpa using h8
      have htw:=HTW.out h3 h8;clear h3 h8;go_wp2_with fail;have hap:=apply_of L3 T ⟨k',an,aq,rg,nd,pt,pr,oc,dp,pa,st,hw,de,ex⟩ ea w6 HX.out (envG_of (HEN.out w (Below.refl _ _)) (below_then HB1.out HK6.out.be) (fun j hj=>by have:=HK6.out.foot j hj;omega)) HK6.out.at_ HK6.out.good;simp only[factV,factC,ApplyEnds] at hap;rw[hsb6,sapply_no htw] at hap;refine hap.mono ?_;clear hap
      rintro e w7 ⟨rfl,L4,hL4,hS4,hgo⟩;have HK7:Hid (Keeps node w1.heap.size w1 T L4 w7):=qq ⟨hL4.trans HK6.out.sb,HK6.out.node,HK6.out.good,HK6.out.room,HK6.out.ex,hS4,fun j hj=>(hgo.new j hj).elim (HK6.out.foot j) (fun hn=>Nat.le_trans HK6.out.be.size hn),HK6.out.be.trans (hgo.below HK6.out.foot HK6.out.be.size)⟩;have HL3:Hid (∀j∈L3.foot,j∉L2.foot):=HDJ
      have HS2X:Hid (StoreAt L2 S w7):=qq (HS26.out.keep hgo.size (fun j hj=>hgo.block j (HS26.out.lt j hj) (fun hjl=>HL3.out j hjl hj)));rw[errOf_some htw];clear hL4 hS4 hgo htw;have HPT:=qq (parts_of L2 S w7 HS2X.out HG5.out.parts);go_wp2_with fail;refine HPT.out.mono ?_;rintro e w8 ⟨pv,rfl,hrow8,hb8⟩;have HK8:=qq (HK7.out.below hb8);obtain⟨pa',pc',hpv,hpl,hpr⟩:=part_row hrow8;subst hpv
      have HPR:=qq hpr;have h8p:=HG5.out.parts;obtain⟨np,hnp⟩:∃x,x=S.parts.length:=⟨_,rfl⟩
      have HNP:=qq hnp;rw[←hnp] at HPR h8p⊢;have hz8:=hb8.size;clear hrow8 hb8 hpl hpr hnp HPT qf ff lf;go_wp2_with fail;go_loopw [76] (fun cc wr=>∃j:Nat,j≤np∧cc=.int .i64 (j:Int)∧Hid (Below w8.heap.size w8 wr)) (fun cc _=>np - (intOf cc).toNat)
      case atStart=>exact⟨0,by omega,by first | rfl | go_num,qq (Below.refl _ _)⟩
      case round=>
       obtain⟨j,hj,rfl,HBP⟩:=hrel;have hj0:(0:Int)≤(j:Int):=by omega
       by_cases hjt:j<np
       · have hj1:(j:Int)<(np:Int):=by omega
         obtain⟨g,rfl,hg,_,hpt⟩:=HPR.out (by omega);obtain⟨p,hp⟩:∃p,S.parts[j]? =some p:=⟨_,List.getElem?_eq_getElem (by have:=HNP.out;omega)⟩
         obtain⟨p',hp',hend⟩:=HED.out j p hp;obtain⟨r0,r1,r2,r3,r4,r5,r6⟩:=(hpt j p hp).below HBP.out hg;have hgw:g<wr.heap.size:=Nat.lt_of_lt_of_le hg HBP.out.size;have hpg:pGet T (j:Int)=some p':=by unfold pGet;rw[if_pos hj0,Int.toNat_natCast];exact hp'
         obtain⟨pan,paq,prg,⟨sp,sd,ss,sh⟩⟩:=p;obtain⟨qan,qaq,qrg,⟨tp,td,ts,th⟩⟩:=p';dsimp only at r0 r1 r2 r3 r4 r5 r6 hend;have hbp:=(Below.refl wr.heap.size wr).alloc (Nat.le_refl _) (.cells #[pan,paq,prg,sp,sd,ss,sh] 61);have HPY:=qq (part_yes L4 T (j:Int) _ _ ((HK8.out.below HBP.out).below hbp).at_ (HK8.out.good.parts) hpg);have KP:=qq (Blk.fresh wr #[pan,paq,prg,sp,sd,ss,sh] 61 _ rfl)
         have HBQ:=qq (below_then HBP.out hbp);simp only[partA] at HPY;rw[HK8.out.sb,←HSB.out] at HPY;clear hp hp' hpt hpg hbp hjt;go_wp2_with fail;refine HPY.out.mono ?_;rintro e w9 ⟨rfl,hb9⟩;have HB9:=qq (bel_alloc (below_then HBQ.out hb9) (.cells #[qan,qaq,qrg,tp,td,ts,th] 61));have KP9:=qq ((KP.out.below hb9).alloc (.cells #[qan,qaq,qrg,tp,td,ts,th] 61));have hz9:=hb9.size
         obtain⟨lp,qp,fp⟩:=KP9.out;clear hb9 r0 r1 r2 r3 r4 r5 r6;rw[World.size_alloc] at hz9;by_cases h14:ss=14
         · have hs:=hend h14;injection hs with s1 s2 s3 s4
           subst s1 s2 s3 s4;have hne:=seatNe tp td ts th;have hsb14:(ts==14)=true:=by simpa using h14
           clear hend h14;go_wp2_with fail;go_roundw
           case rel=>exact⟨j+1,by omega,by go_num,HB9⟩
           case measure=>simp[intOf];omega
         · have hsb14:(ss==14)=false:=by simpa using h14
           clear hend h14;go_wp2_with fail;go_roundw
           case rel=>exact⟨j+1,by omega,by go_num,HB9⟩
           case measure=>simp[intOf];omega
       · obtain rfl:np=j:=by omega
         go_wp2_with fail;go_roundw
         case rel=>exact⟨k+1,by omega,by go_num,qq ⟨T,_,by have h:=HK8.out.below HBP.out;rw[←HSB.out] at h;exact h⟩⟩
         case measure=>simp[intOf];omega
    · have hTS:=HNO.out he;subst hTS;have HSM:=qq (ssame_of L2 L3 T w6 HS26.out HK6.out.at_ HG5.out HX5.out);rw[hsb6] at HSM;rw[errOf_some he];clear he;go_wp2_with fail;refine HSM.out.mono ?_;rintro e w7 ⟨rfl,hb7⟩;have HK7:=qq (HK6.out.below hb7);clear hb7 qf ff lf;go_wp2_with fail;go_roundw
      case rel=>exact⟨k+1,by omega,by go_num,qq ⟨T,L3,by have h:=HK7.out;rw[←HSB.out] at h;exact h⟩⟩
      case measure=>simp[intOf];omega
  · obtain rfl:N=k:=by omega
    go_wp2_with fail;go_ret;exact⟨rfl,HBW.out⟩
theorem law_sstays (node:Int) (v:Value) (fs:List SFact) (ea:Int→Addr) (w:World) (hE:EnvS ea w) (hR:ReadFacts w v fs) (hF:∀f∈fs,F64 f.ex):Calls Tryz.prog 6 #[.int .i64 node,v] w (Makes (.bool true) w):=by
 have hR':=hR;obtain⟨a,cap,rfl,-⟩:=hR';by_cases hn:fs.length≤60
 · by_cases hnd:0≤node∧node≤3
   · exact law_sstays_go node a cap _ fs ea w hE rfl hR hF hn hnd
   · have HAL:=qq (alive15_of ea w hE);have HN:=qq (fun W (hW:Below w.heap.size w W)=>snew_no node ea W (hE.below hW) hnd);obtain⟨N,hN⟩:∃n,n=fs.length:=⟨_,rfl⟩
     rw[←hN] at hn⊢;have d1:¬(60:Int)<(N:Int):=by omega
     clear hE hR hF hN hnd;go_enter Tryz.func6,Tryz.ntmps6;go_wp2_with fail;refine HAL.out.mono ?_;rintro e w1 ⟨rfl,hb1⟩;go_wp2_with fail;refine(HN.out _ hb1).mono ?_;rintro e w2 ⟨rfl,hb2⟩;have B2:=below_then hb1 hb2;go_wp2_with fail;go_ret;exact⟨rfl,B2⟩
 · have HAL:=qq (alive15_of ea w hE);obtain⟨N,hN⟩:∃n,n=fs.length:=⟨_,rfl⟩
   rw[←hN] at hn⊢;have d1:(60:Int)<(N:Int):=by omega
   clear hE hR hF hN hn;go_enter Tryz.func6,Tryz.ntmps6;go_wp2_with fail;refine HAL.out.mono ?_;rintro e w1 ⟨rfl,hb1⟩;go_wp2_with fail;go_ret;exact⟨rfl,hb1⟩
open Go.ChangeShapes Go.WideShapes Go.ChangeAt Go.WideMaps Go.WideElems Go.RowKit Go.Joins
theorem trod_f64 {H:Type} {P:Program} {w:World} {t:TypeId} {fuel:Nat} {base:Nat} {enc:TypeId×Value→H} {spare:Nat→Bool} {held:Bool} {v:Value} {x:DataW H×List MemPlace} (ht:P.underlying t=some (.float .f64)) (h:DataW.trod enc P w base spare held fuel t [v]=some x):∃b,v=.float .f64 b∧F64 b:=by
 cases fuel with
 | zero=>simp[DataW.trod] at h
 | succ n=>
  unfold DataW.trod at h;rw[ht] at h;split at h<;>simp_all
  rename_i k k' b he
  subst he;simpa[Lit.wf,F64] using h.1.2
open Go.RowKit Go.Deep Go.ChangeShapes Go.WideShapes Go.ChangeAt Go.WideMaps Go.WideElems
theorem fact_list_of {α:Type} {C:Nat→α→Prop}:∀n,(∀i,i<n→∃o,C i o)→∃l:List α,l.length=n∧∀i (h:i<l.length),C i l[i]
 | 0,_=>⟨[],rfl,fun i h=>absurd h (by simp)⟩
 | n+1,h=>by
  obtain⟨l,hl,hc⟩:=fact_list_of n (fun i hi=>h i (by omega));obtain⟨o,ho⟩:=h n (by omega);refine⟨l ++ [o],by simp[hl],fun i hi=> ?_⟩;by_cases hlt:i<l.length
  · rw[List.getElem_append_left hlt];exact hc i hlt
  · have:i=n:=by simp at hi;omega
    subst this;rw[List.getElem_append_right (by omega)];simpa[hl] using ho
theorem open_facts {H:Type} {enc:TypeId×Value→H} {W:World} {a0:Option Addr} {len cap:Nat} {d:DataW H} {p:List MemPlace} {sp:Nat→Bool} (h:DataW.Trod enc Tryz.prog W 0 sp true 22 (.slice a0 len cap) d p):∃fs,ReadFacts W (.slice a0 len cap) fs∧∀f∈fs,F64 f.ex:=by
 obtain⟨fuel,hf⟩:=h;rcases open_slice Tryz.underlying22 hf with⟨hcs,hx⟩ | ⟨a,len',cap',m,n,D,Pl,hcs,hb,hl,hm,hmm,hx,hall⟩
 · simp[Value.cells] at hcs;obtain⟨rfl,rfl,rfl⟩:=hcs;exact⟨[],⟨none,0,rfl,fun h=>absurd rfl h⟩,by simp⟩
 · simp[Value.cells] at hcs;obtain⟨rfl,rfl,rfl⟩:=hcs;have hlm:len≤m:=by rw[hmm];split<;>omega
   have each:∀i,i<len→∃o:SFact,W.cell? (a.add (i*14))=some (.int .i64 o.k)∧W.cell? (a.add (i*14+1))=some (.int .i64 o.an)∧W.cell? (a.add (i*14+2))=some (.int .i64 o.aq)∧W.cell? (a.add (i*14+3))=some (.int .i64 o.rg)∧W.cell? (a.add (i*14+4))=some (.int .i64 o.nd)∧W.cell? (a.add (i*14+5))=some (.int .i64 o.pt)∧W.cell? (a.add (i*14+6))=some (.int .i64 o.pr)∧W.cell? (a.add (i*14+7))=some (.int .i64 o.oc)∧W.cell? (a.add (i*14+8))=some (.int .i64 o.dp)∧W.cell? (a.add (i*14+9))=some (.int .i64 o.pa)∧W.cell? (a.add (i*14+10))=some (.int .i64 o.st)∧W.cell? (a.add (i*14+11))=some (.int .i64 o.hw)∧W.cell? (a.add (i*14+12))=some (.int .i64 o.de)∧W.cell? (a.add (i*14+13))=some (.float .f64 o.ex)∧F64 o.ex:=by
    intro i hi;obtain⟨cs',h1,h2⟩:=hall i (by omega);rw[show Tryz.prog.cellsOf 39=14 by kernel_rfl] at h1;obtain⟨_,hlen,hcell⟩:=World.cells?_some h1;obtain⟨xs,k,hk,hxy,_,hxl,hfs⟩:=DataW.trod_struct Tryz.underlying39 h2
    match xs,hxl,cs',hlen with
    | [y0,y1,y2,y3,y4,y5,y6,y7,y8,y9,y10,y11,y12],_,[v0,v1,v2,v3,v4,v5,v6,v7,v8,v9,v10,v11,v12,v13],_=>
     have g0:=hfs 0 _ rfl;have g1:=hfs 1 _ rfl;have g2:=hfs 2 _ rfl;have g3:=hfs 3 _ rfl;have g4:=hfs 4 _ rfl;have g5:=hfs 5 _ rfl;have g6:=hfs 6 _ rfl;have g7:=hfs 7 _ rfl;have g8:=hfs 8 _ rfl;have g9:=hfs 9 _ rfl;have g10:=hfs 10 _ rfl;have g11:=hfs 11 _ rfl;have g12:=hfs 12 _ rfl
     simp[show Tryz.prog.cellsOf 3=1 by kernel_rfl,show Tryz.prog.cellsOf 37=1 by kernel_rfl,show Tryz.prog.cellsOf 36=2 by kernel_rfl] at g0 g1 g2 g3 g4 g5 g6 g7 g8 g9 g10 g11 g12;obtain⟨zs,k2,hk2,_,_,hzl,hgs⟩:=DataW.trod_struct Tryz.underlying36 g1
     match zs,hzl with
     | [z0,z1],_=>
      have ga:=hgs 0 _ rfl;have gb:=hgs 1 _ rfl;simp[show Tryz.prog.cellsOf 3=1 by kernel_rfl] at ga gb;obtain⟨n0,e0,_⟩:=DataW.trod_int Tryz.underlying3 g0;obtain⟨n1,e1,_⟩:=DataW.trod_int Tryz.underlying3 ga;obtain⟨n2,e2,_⟩:=DataW.trod_int Tryz.underlying3 gb;obtain⟨n3,e3,_⟩:=DataW.trod_int Tryz.underlying3 g2;obtain⟨n4,e4,_⟩:=DataW.trod_int Tryz.underlying3 g3
      obtain⟨n5,e5,_⟩:=DataW.trod_int Tryz.underlying3 g4;obtain⟨n6,e6,_⟩:=DataW.trod_int Tryz.underlying3 g5;obtain⟨n7,e7,_⟩:=DataW.trod_int Tryz.underlying3 g6;obtain⟨n8,e8,_⟩:=DataW.trod_int Tryz.underlying3 g7;obtain⟨n9,e9,_⟩:=DataW.trod_int Tryz.underlying3 g8;obtain⟨n10,e10,_⟩:=DataW.trod_int Tryz.underlying3 g9;obtain⟨n11,e11,_⟩:=DataW.trod_int Tryz.underlying3 g10
      obtain⟨n12,e12,_⟩:=DataW.trod_int Tryz.underlying3 g11;obtain⟨n13,e13,hf13⟩:=trod_f64 Tryz.underlying37 g12;simp only[List.cons.injEq,and_true] at e0;simp only[List.cons.injEq,and_true] at e1;simp only[List.cons.injEq,and_true] at e2;simp only[List.cons.injEq,and_true] at e3;simp only[List.cons.injEq,and_true] at e4;simp only[List.cons.injEq,and_true] at e5
      simp only[List.cons.injEq,and_true] at e6;simp only[List.cons.injEq,and_true] at e7;simp only[List.cons.injEq,and_true] at e8;simp only[List.cons.injEq,and_true] at e9;simp only[List.cons.injEq,and_true] at e10;simp only[List.cons.injEq,and_true] at e11;simp only[List.cons.injEq,and_true] at e12
      (try simp only[List.cons.injEq,and_true] at e13)
      subst e0 e1 e2 e3 e4 e5 e6 e7 e8 e9 e10 e11 e12 e13;have c0:=hcell 0 (by omega);have c1:=hcell 1 (by omega);have c2:=hcell 2 (by omega);have c3:=hcell 3 (by omega);have c4:=hcell 4 (by omega);have c5:=hcell 5 (by omega);have c6:=hcell 6 (by omega);have c7:=hcell 7 (by omega);have c8:=hcell 8 (by omega);have c9:=hcell 9 (by omega);have c10:=hcell 10 (by omega);have c11:=hcell 11 (by omega)
      have c12:=hcell 12 (by omega);have c13:=hcell 13 (by omega);rw[add_add] at c0 c1 c2 c3 c4 c5 c6 c7 c8 c9 c10 c11 c12 c13
      exact⟨⟨n0,n1,n2,n3,n4,n5,n6,n7,n8,n9,n10,n11,n12,n13⟩,by simpa using c0,by simpa using c1,by simpa using c2,by simpa using c3,by simpa using c4,by simpa using c5,by simpa using c6,by simpa using c7,by simpa using c8,by simpa using c9,by simpa using c10,by simpa using c11,by simpa using c12,by simpa using c13,hf13⟩
   obtain⟨fs,hlen,hc⟩:=fact_list_of len each;subst hlen;refine⟨fs,⟨some a,cap,rfl,fun hne=> ?_⟩,fun f hf=> ?_⟩
   · have h0:0<fs.length:=List.length_pos_iff.2 hne;have hs0:a.spot=none:=by simpa[Addr.add] using World.cell?_spot (hc 0 h0).1
     obtain⟨b,off,spot⟩:=a;have hsp:spot=none:=hs0;subst hsp;have hlt:=World.block_lt_of_cell? W _ (hc 0 h0).1;refine⟨b,off,rfl,by simpa[Addr.add] using hlt,fun i hi=> ?_⟩;obtain⟨c0,c1,c2,c3,c4,c5,c6,c7,c8,c9,c10,c11,c12,c13,_⟩:=hc i hi;simp only[Addr.add_lit] at c0 c1 c2 c3 c4 c5 c6 c7 c8 c9 c10 c11 c12 c13;exact⟨c0,c1,c2,c3,c4,c5,c6,c7,c8,c9,c10,c11,c12,c13⟩
   · obtain⟨j,hj,rfl⟩:=List.getElem_of_mem hf;exact(hc j hj).2.2.2.2.2.2.2.2.2.2.2.2.2.2
open Go.ChangeShapes Go.WideShapes Go.ChangeAt Go.WideMaps Go.WideElems Go.RowKit
theorem Tryz.own:ownKnob Tryz.prog.godebug=none:=by kernel_rfl
theorem Tryz.laidOut:laidOutB Tryz.prog=true:=by kernel_rfl
theorem starE : "*" ++ "errors.errorString" = "*errors.errorString" := by decide
theorem rowE (u : TypeId) (h : Tryz.prog.typeName? 3 u = some "*errors.errorString") : u = 387 :=
 typeName_ptr_named (nm := "errors.errorString") (by rw [starE]; kernel_rfl) (by kernel_rfl) (by decide) u (by rw [starE]; exact h)
theorem cellsE:Tryz.prog.cellsOf 410=1:=by kernel_rfl
theorem cellsS:Tryz.prog.cellsOf 9=1:=by kernel_rfl
structure LaidE where
 num:Int
 name:String
 g:Nat
 text:List UInt8
def LaidE.datum (x : LaidE) : String × DataW Unit := (x.name, .iface "*errors.errorString" (.ptr (.agg [.lit (.string x.text)])))
def LaidE.ok (x:LaidE):Prop:=Tryz.prog.globalNamed x.name=some x.g∧(Tryz.prog.globals[x.g]?).map (·.type)=some 26
theorem sentinels {W : World} : ∀ (L : List LaidE) (ps : List MemPlace), (L.map (·.num)).Nodup → (∀ x ∈ L, x.ok) → DataW.LaidVars Tryz.prog W (L.map LaidE.datum) ps → ps.Nodup →
    (∀b off,MemPlace.cell b off∈ps→(∃c t,W.heap[b]? =some (.cells c t (0,0)))∧∀u v,W.cell? ⟨b,off,none⟩=some (.iface u v)→Value.okWide Tryz.prog W .any 0 u v)→
    ∃ea:Int→Addr,(∀x∈L,ErrIs W x.g (ea x.num)∧MemPlace.cell (ea x.num).block (ea x.num).off∈ps)∧(∀x∈L,∀y∈L,ea x.num=ea y.num→x.num=y.num):=by
 intro L
 induction L with
 | nil=>intro ps _ _ _ _ _;exact⟨fun _=>⟨0,0,none⟩,fun x hx=>by simp at hx,fun x hx=>by simp at hx⟩
 | cons x L ih=>
  intro ps hnum hok h hnd hrows;obtain⟨g0,t0,cs0,f0,p0,q0,hg0,ht0,hv0,hd0,hrest,e0⟩:=h;have hx:=hok x (by simp);obtain rfl:=Option.some.inj (hx.1.symm.trans hg0);obtain rfl:=Option.some.inj (hx.2.symm.trans ht0);subst e0;obtain⟨l0⟩:=cs0;have ok0:∀u v,l0=[.iface u v]→Value.okWide Tryz.prog W .any 0 u v:=fun u v e=>by
   subst e;exact(hrows x.g 0 (by simp[MemPlace.row])).2 u v (by simpa using World.var?_cell hg0 hv0 0)
  obtain⟨a0,s0,rfl,hc0,hs0,hz0,rfl⟩:=errorString_of_trod Tryz.underlying26 rowE Tryz.underlying387 Tryz.underlying410 rfl rfl Tryz.underlying9 cellsE cellsS hd0 ok0;have hn2:=List.nodup_append.1 hnd;obtain⟨ea,h1,h2⟩:=ih q0 (by simpa using(List.nodup_cons.1 hnum).2) (fun y hy=>hok y (by simp[hy])) hrest hn2.2.1 (fun b off hb=>hrows b off (by simp[hb]))
  have hne:∀y∈L,y.num≠x.num:=fun y hy he=>(List.nodup_cons.1 hnum).1 (by
    have:=List.mem_map_of_mem (f:=LaidE.num) hy;rw[he] at this;exact this)
  have hin:MemPlace.cell a0.block a0.off∈MemPlace.row ⟨x.g,0,none⟩ #[Value.iface 387 (.pointer (some a0))].size ++MemPlace.row a0 1:=by simp[MemPlace.row]
  have hcx:ErrIs W x.g a0:=by
   have:=World.var?_cell hg0 hv0 0;simpa[ErrIs] using this
  refine⟨fun m=>if m=x.num then a0 else ea m,fun y hy=> ?_,fun y hy z hz he=> ?_⟩
  · rcases List.mem_cons.1 hy with e | hy'
    · subst e;simp only[if_true];exact⟨hcx,List.mem_append_left _ hin⟩
    · simp only[if_neg (hne y hy')];exact⟨(h1 y hy').1,List.mem_append_right _ (h1 y hy').2⟩
  · rcases List.mem_cons.1 hy with e | hy'<;>rcases List.mem_cons.1 hz with e' | hz'
    · rw[e,e']
    · simp only[e,if_true,if_neg (hne z hz')] at he;have hz2:=(h1 z hz').2;rw[←he] at hz2;exact absurd rfl (hn2.2.2 _ hin _ hz2)
    · simp only[e',if_true,if_neg (hne y hy')] at he;have hy2:=(h1 y hy').2;rw[he] at hy2;exact absurd rfl (hn2.2.2 _ hin _ hy2)
    · simp only[if_neg (hne y hy'),if_neg (hne z hz')] at he;exact h2 y hy' z hz' he
section frame
variable {H:Type} {enc:TypeId×Value→H}
theorem trodAll_below {W W' : World} (hb : Below W.heap.size W W') : ∀ (ts : List TypeId) (vs : List Value) (ds : List (DataW H)) (ps : List MemPlace), (∀ t ∈ ts, Tryz.prog.readableRec t = true ∧ t < Tryz.prog.types.size) →
    DataW.TrodAll enc Tryz.prog W 0 (fun _=>true) true ts vs ds ps→(∀x∈ps,x.block<W.heap.size)→DataW.TrodAll enc Tryz.prog W' 0 (fun b=>decide (b<W.heap.size)) true ts vs ds ps:=by
 intro ts
 induction ts with
 | nil=>
  intro vs ds ps _ h _;obtain⟨rfl,rfl,rfl⟩:=trodAll_nil h;exact trodAll_mk0
 | cons t ts ih=>
  intro vs ds ps hts h hlt;obtain⟨v,vs',d,ds',p,q,rfl,rfl,rfl,hd,hrest⟩:=trodAll_cons h;have h1:=Below.trod Tryz.laidOut (hts t (by simp)).1 (hts t (by simp)).2 hd hb (fun x hx=>hlt x (by simp[hx]));exact trodAll_cons_mk h1 (ih vs' ds' q (fun u hu=>hts u (by simp[hu])) hrest (fun x hx=>hlt x (by simp[hx])))
theorem trodAll_len {W:World} {base:Nat} {sp:Nat→Bool} {held:Bool}:∀{ts:List TypeId} {vs:List Value} {ds:List (DataW H)} {ps:List MemPlace},DataW.TrodAll enc Tryz.prog W base sp held ts vs ds ps→ds.length=ts.length:=by
 intro ts
 induction ts with
 | nil=>
  intro vs ds ps h;obtain⟨rfl,rfl,rfl⟩:=trodAll_nil h;rfl
 | cons t ts ih=>
  intro vs ds ps h;obtain⟨v,vs',d,ds',p,q,rfl,rfl,rfl,hd,hrest⟩:=trodAll_cons h;simp[ih hrest]
theorem frame_post {fn : Func} {s : ChangeSpec} {W W' : World} {args : Array Value} {ds gs : List (DataW H)} {before : List MemPlace}
    (hts:∀t∈fn.params.toList,Tryz.prog.readableRec t=true∧t<Tryz.prog.types.size) (hres:fn.resultTypes= #[4]) (hvars:s.vars=[])
    (hspec:∀ds:List (DataW H),ds.length=fn.params.toList.length→(s.fn H ds).results=[.lit (.bool true)]∧(s.fn H ds).args=ds∧(s.fn H ds).vars=[])
    (hW:DataW.Whole enc Tryz.prog fn.params.toList s.vars false W args.toList ds gs before) (hb:Below W.heap.size W W'):
    s.post enc Tryz.prog fn false true false false W args (.bool true) W':=by
 have hW':=hW;have hlt:=hW.lt;obtain⟨p,q,hA,hV,rfl,hfz,hnd⟩:=hW;rw[hvars] at hV;obtain⟨rfl,rfl⟩:gs=[]∧q=[]:=by
  cases gs with
  | nil=>exact⟨rfl,hV⟩
  | cons g r=>exact absurd hV (by intro h;cases h)
 have hlen:ds.length=fn.params.toList.length:=trodAll_len hA;obtain⟨e1,e2,e3⟩:=hspec ds hlen;refine⟨ds,[],p ++ [],[],p,[],hW',?_,?_,?_,hb.frame _,fun h=>by cases h⟩
 · rw[List.append_nil,e1,hres];exact trodAll_mk1 (shut_bool Tryz.underlying4 true)
 · rw[List.append_nil,e2];exact trodAll_below hb _ _ _ _ hts hA (fun x hx=>hlt x (by simp[hx]))
 · rw[List.append_nil,e3,hvars];rfl
end frame
def err1 : LaidE := ⟨1, "liaison/api.ErrRange", 0, [108, 105, 97, 105, 115, 111, 110, 58, 32, 114, 97, 110, 103, 101]⟩
theorem ok_err1:err1.ok:=⟨by kernel_rfl,by kernel_rfl⟩
def err2 : LaidE := ⟨2, "liaison/api.ErrShort", 1, [108, 105, 97, 105, 115, 111, 110, 58, 32, 115, 104, 111, 114, 116]⟩
theorem ok_err2:err2.ok:=⟨by kernel_rfl,by kernel_rfl⟩
def err3 : LaidE := ⟨3, "liaison/api.ErrLong", 2, [108, 105, 97, 105, 115, 111, 110, 58, 32, 108, 111, 110, 103]⟩
theorem ok_err3:err3.ok:=⟨by kernel_rfl,by kernel_rfl⟩
def err4 : LaidE := ⟨4, "liaison/api.ErrForm", 3, [108, 105, 97, 105, 115, 111, 110, 58, 32, 102, 111, 114, 109]⟩
theorem ok_err4:err4.ok:=⟨by kernel_rfl,by kernel_rfl⟩
def err5 : LaidE := ⟨5, "liaison/api.ErrCheck", 4, [108, 105, 97, 105, 115, 111, 110, 58, 32, 99, 104, 101, 99, 107]⟩
theorem ok_err5:err5.ok:=⟨by kernel_rfl,by kernel_rfl⟩
def err6 : LaidE := ⟨6, "liaison/api.ErrFull", 5, [108, 105, 97, 105, 115, 111, 110, 58, 32, 102, 117, 108, 108]⟩
theorem ok_err6:err6.ok:=⟨by kernel_rfl,by kernel_rfl⟩
def err7 : LaidE := ⟨7, "liaison/api.ErrPower", 6, [108, 105, 97, 105, 115, 111, 110, 58, 32, 112, 111, 119, 101, 114]⟩
theorem ok_err7:err7.ok:=⟨by kernel_rfl,by kernel_rfl⟩
def err8 : LaidE := ⟨8, "liaison/api.ErrNone", 7, [108, 105, 97, 105, 115, 111, 110, 58, 32, 110, 111, 110, 101]⟩
theorem ok_err8:err8.ok:=⟨by kernel_rfl,by kernel_rfl⟩
def err9 : LaidE := ⟨9, "liaison/api.ErrState", 8, [108, 105, 97, 105, 115, 111, 110, 58, 32, 115, 116, 97, 116, 101]⟩
theorem ok_err9:err9.ok:=⟨by kernel_rfl,by kernel_rfl⟩
def err10 : LaidE := ⟨10, "liaison/api.ErrTwice", 9, [108, 105, 97, 105, 115, 111, 110, 58, 32, 116, 119, 105, 99, 101]⟩
theorem ok_err10:err10.ok:=⟨by kernel_rfl,by kernel_rfl⟩
def err11 : LaidE := ⟨11, "liaison/api.ErrDepth", 10, [108, 105, 97, 105, 115, 111, 110, 58, 32, 100, 101, 112, 116, 104]⟩
theorem ok_err11:err11.ok:=⟨by kernel_rfl,by kernel_rfl⟩
def err12 : LaidE := ⟨12, "liaison/api.ErrExpired", 11, [108, 105, 97, 105, 115, 111, 110, 58, 32, 101, 120, 112, 105, 114, 101, 100]⟩
theorem ok_err12:err12.ok:=⟨by kernel_rfl,by kernel_rfl⟩
def err13 : LaidE := ⟨13, "liaison/api.ErrPanic", 12, [108, 105, 97, 105, 115, 111, 110, 58, 32, 112, 97, 110, 105, 99]⟩
theorem ok_err13:err13.ok:=⟨by kernel_rfl,by kernel_rfl⟩
def err14 : LaidE := ⟨14, "liaison/api.ErrProtocol", 13, [108, 105, 97, 105, 115, 111, 110, 58, 32, 112, 114, 111, 116, 111, 99, 111, 108]⟩
theorem ok_err14:err14.ok:=⟨by kernel_rfl,by kernel_rfl⟩
def errs14:List LaidE:=[err1,err2,err3,err4,err5,err6,err7,err8,err9,err10,err11,err12,err13,err14]
theorem num14 (i:Int) (h1:1≤i) (h2:i≤14):∃x∈errs14,x.num=i:=by
 obtain⟨n,rfl⟩:=nat14 ⟨h1,h2⟩;have h0:n≠0:=fun h=>by rw[h] at h1;exact absurd h1 (by decide)
 revert n;decide
theorem ok14:∀x∈errs14,x.ok:=by
 intro x hx;simp only[errs14,List.mem_cons,List.not_mem_nil,or_false] at hx;rcases hx with rfl | rfl | rfl | rfl | rfl | rfl | rfl | rfl | rfl | rfl | rfl | rfl | rfl | rfl
 · exact ok_err1
 · exact ok_err2
 · exact ok_err3
 · exact ok_err4
 · exact ok_err5
 · exact ok_err6
 · exact ok_err7
 · exact ok_err8
 · exact ok_err9
 · exact ok_err10
 · exact ok_err11
 · exact ok_err12
 · exact ok_err13
 · exact ok_err14
theorem errs_of_laid {W:World} {l:List (String×DataW Unit)} (hl:l=errs14.map LaidE.datum) (h:laidMetH Tryz.prog l W):∃ea,Errs ea W:=by
 rw[MakeChecks.laidMetH_plain _ _ _ (by rw[hl];rfl)] at h;obtain⟨ps,h,hnd,hrows⟩:=h;rw[hl] at h;obtain⟨ea,h1,h2⟩:=sentinels errs14 ps (by decide) ok14 h hnd hrows;have hm:∀i:Int,1≤i→i≤14→∃x∈errs14,x.num=i:=num14
 refine⟨ea,(h1 err1 (by simp[errs14])).1,(h1 err2 (by simp[errs14])).1,(h1 err3 (by simp[errs14])).1,(h1 err4 (by simp[errs14])).1,(h1 err5 (by simp[errs14])).1,(h1 err6 (by simp[errs14])).1,(h1 err7 (by simp[errs14])).1,(h1 err8 (by simp[errs14])).1,(h1 err9 (by simp[errs14])).1,(h1 err10 (by simp[errs14])).1,(h1 err11 (by simp[errs14])).1,(h1 err12 (by simp[errs14])).1,(h1 err13 (by simp[errs14])).1,(h1 err14 (by simp[errs14])).1,?_,?_⟩
 · intro i j a b c d he;obtain⟨x,hx,rfl⟩:=hm i a b;obtain⟨y,hy,rfl⟩:=hm j c d;exact h2 x hx y hy he
 · intro i a b;obtain⟨x,hx,rfl⟩:=hm i a b;exact(hrows _ _ (h1 x hx).2).1
section wrap
variable {H:Type} {enc:TypeId×Value→H}
theorem handed_and_shaped {a : Assume} {C : Checked} {os : Os} {f : FuncId} {fn : Func} {s : ChangeSpec} {conds : List PathCond} {apart fresh handsOn again : Bool} {X : World → Array Value → Prop}
    (hX:∀(w w':World) (args:Array Value),w.heap=w'.heap→X w args→X w' args)
    (own:ownKnob C.prog.godebug=none) (started:os.Started) (noInit:C.prog.inits.idxOf? f=none) (hfn:C.prog.funcs[f]? =some fn)
    (witness:∃(w:World) (tape:Tape) (i:Input),w.os=os∧(w.forCall tape i).Shaped C.prog∧i.vars=[]∧Input.okWide C.prog (w.forCall tape i) .any w.heap.size f i∧
      ((s.pre enc C.prog fn conds apart (w.forCall tape i).memory i.args∧X (w.forCall tape i).memory i.args)∧sizedMet enc C.prog fn (OpenSpec.ofChange s) apart (w.forCall tape i).memory i.args)∧a.holds C.prog (lone (Frame.enter C.prog f i.args .normal) [] (w.forCall tape i)))
    (contract:∀(W:World) (base:Nat) (args:Array Value) (ds gs:List (DataW H)) (before:List MemPlace),
      (∀(j:Nat) t v,fn.params[j]? =some t→args[j]? =some v→Value.okWide C.prog W .any base t v)→
      DataW.Whole enc C.prog fn.params.toList s.vars apart W args.toList ds gs before→
      conds.all (PathCond.test C.prog ⟨fn.params.toList,ds,s.plain.varTypes C.prog,gs⟩)=true→
      (DataW.weightsEach C.prog (fn.params.toList ++s.plain.varTypes C.prog) (ds ++gs)).all (·≤reachBytes)=true→X W args→W.ShapedOpen C.prog→
      a.holds C.prog (lone (Frame.enter C.prog f args .normal) [] W)→
      Calls C.prog f args W fun e W'=>∃v,e=.returned v∧s.post enc C.prog fn apart fresh handsOn again W args v W'):
    ReturnsInHanded a C os f .any (fun w args=>(s.pre enc C.prog fn conds apart w args∧X w args)∧sizedMet enc C.prog fn (OpenSpec.ofChange s) apart w args) (s.post enc C.prog fn apart fresh handsOn again):=by
 refine returnsInHanded_of_calls own started noInit witness ?_;intro w tape i _ hsh _ hok hpre hholds;obtain⟨_,_,_,fn',hfn',_,_,_,_,hval⟩:=hok;have e:fn'=fn:=Option.some.inj (hfn'.symm.trans hfn);subst e;obtain⟨⟨⟨ds,gs,before,hw,hc⟩,hx⟩,hz⟩:=hpre;have hw':=DataW.Whole.of_heap (w':=w.forCall tape i) (by rfl) hw
 refine(contract (w.forCall tape i) w.heap.size i.args ds gs before hval hw' hc (hz.weights hw) (hX _ _ _ (by rfl) hx) hsh hholds).mono fun e W' ⟨v,he,hp⟩=> ?_
 subst he;exact ChangeSpec.post_blind hp
end wrap
theorem laidVars_parts {P:Program} {W:World}:∀(A B:List (String×DataW Unit)) (ps:List MemPlace),DataW.LaidVars P W (A ++B) ps→∃p q,ps=p ++q∧DataW.LaidVars P W A p∧DataW.LaidVars P W B q
 | [],_,ps,h=>⟨[],ps,rfl,rfl,h⟩
 | (n,d)::A,B,ps,h=>by
  obtain⟨g0,t0,cs0,f0,p0,q0,hg0,ht0,hv0,hd0,hrest,e0⟩:=h;obtain⟨p,q,rfl,h1,h2⟩:=laidVars_parts A B q0 hrest;exact⟨MemPlace.row ⟨g0,0,none⟩ cs0.size ++p0 ++p,q,by rw[e0];simp[List.append_assoc],⟨g0,t0,cs0,f0,p0,p,hg0,ht0,hv0,hd0,h1,rfl⟩,h2⟩
theorem laidMet_parts {P:Program} {W:World} {A B:List (String×DataW Unit)} (h:laidMet P (A ++B) W):laidMet P A W∧laidMet P B W:=by
 obtain⟨ps,h,hnd,hrows⟩:=h;obtain⟨p,q,rfl,h1,h2⟩:=laidVars_parts A B ps h;have hn:=List.nodup_append.1 hnd;exact⟨⟨p,h1,hn.1,fun b off hb=>hrows b off (List.mem_append_left _ hb)⟩,⟨q,h2,hn.2.1,fun b off hb=>hrows b off (List.mem_append_right _ hb)⟩⟩
theorem pow10_dataS:(Lib.tabData .u64 Lib.pow10Tab:DataW Unit)=Rows.laid_internal_strconv_uint64pow10:=by kernel_rfl
theorem errsS_of_met {W:World} (h:laidMet Tryz.prog (errs14.map LaidE.datum) W):∃ea,Errs ea W:=
 errs_of_laid rfl (by rw[MakeChecks.laidMetH_plain _ _ _ (by rfl)];exact h)
theorem envS_of_laid {W : World} {A : List (String × DataW Unit)} {B : List (String × DataW Unit)} {l : List (String × DataW Unit)}
    (hl : l = A ++ (("internal/strconv.uint64pow10", Lib.tabData .u64 Lib.pow10Tab) :: B) ∧ ∃ D, B = errs14.map LaidE.datum ++ D) (hp : (l.all fun x => x.2.handleName?.isNone) = true) (h : laidMetH Tryz.prog l W) : ∃ ea, EnvS ea W := by
 rw[MakeChecks.laidMetH_plain _ _ _ hp] at h;obtain⟨rfl,D,rfl⟩:=hl;have h2:=(laidMet_parts h).2
 have h3 := (laidMet_parts (A := [("internal/strconv.uint64pow10", Lib.tabData .u64 Lib.pow10Tab)]) (B := errs14.map LaidE.datum ++ D) h2).2
 have h4:=(laidMet_parts h3).1;obtain⟨ea,he⟩:=errsS_of_met h4;exact⟨ea,he,Lib.tabIs_of_head (g:=15) (t:=380) (e:=202) (n:=20) (by kernel_rfl) (by kernel_rfl) Tryz.underlying380 Tryz.underlying202 (by kernel_rfl) (by kernel_rfl) h2⟩
theorem storeStays_laid {l:List (String×DataW Unit)} (hl:l=Rows.storeStaysRow.laid) {W:World} (h:laidMetH Tryz.prog l W):∃ea,EnvS ea W:=by
 subst hl;exact envS_of_laid (A:=Rows.storeStaysRow.laid.take 2) (B:=Rows.storeStaysRow.laid.drop 3) ⟨by rw[pow10_dataS];rfl,Rows.storeStaysRow.laid.drop 17,rfl⟩ (by kernel_rfl) h
theorem storeStays_lifted (os : Os) (started : os.Started) (H : Type) (enc : TypeId × Value → H) :
    ReturnsInHanded {} Tryz.checked os 6 .any (fun w args=>(Rows.storeStaysSpec.pre enc Tryz.prog Tryz.f6 [] false w args∧laidMetH Tryz.prog Rows.storeStaysRow.laid w)∧sizedMet enc Tryz.prog Tryz.f6 (OpenSpec.ofChange Rows.storeStaysSpec) false w args)
     (Rows.storeStaysSpec.post enc Tryz.prog Tryz.f6 false true false false):=by
 refine handed_and_shaped (C:=Tryz.checked) (X:=fun w _=>laidMetH Tryz.prog Rows.storeStaysRow.laid w) (fun _ _ _ hh h=>h.of_heap hh) Tryz.own started (by kernel_rfl) Tryz.func6
  (ChangeSpec.witness_shaped (enc:=enc) (C:=Tryz.checked) (os:=os) (X:=fun w _=>laidMetH Tryz.prog Rows.storeStaysRow.laid w) false (World.laidAll Tryz.prog os Rows.storeStaysRow.laid) #[.int .i64 0,.slice none 0 0] 8 (World.laidAll_os _ _ _) (World.shaped_of_ZipB (by kernel_rfl) (by kernel_rfl)) (by kernel_rfl) (by kernel_rfl) (by kernel_rfl)
    (by rw[MakeChecks.laidMetH_plain _ _ _ (by kernel_rfl)];exact laidMet_laidAll _ (by kernel_rfl) (by kernel_rfl))) ?_
 intro W base args ds gs before hval0 hW _ hsz hL hshape _;have hval:∀(j:Nat) t v,Tryz.f6.params[j]? =some t→args[j]? =some v→Value.okWide Tryz.prog W .any base t v:=hval0;have hpost:∀W',Below W.heap.size W W'→Rows.storeStaysSpec.post enc Tryz.prog Tryz.f6 false true false false W args (.bool true) W':=fun W' hb=>
  frame_post (by rw[Tryz.params6];decide+kernel) rfl rfl (fun ds h=>by rw[Tryz.params6] at h;match ds,h with | [d0,d1],_=>exact⟨rfl,rfl,rfl⟩) hW hb
 obtain⟨p,q,hA0,hV,rfl,hfz,hnd⟩:=hW;have hA:DataW.TrodAll enc Tryz.prog W 0 (fun _=>true) true Tryz.f6.params.toList args.toList ds p:=hA0;rw[Tryz.params6] at hA hval;obtain⟨v0,v1,d0,d1,p0,p1,rfl,rfl,rfl,h0,h1⟩:=trodAll_two hA;obtain⟨x,rfl,_,_,wx⟩:=open_int Tryz.underlying3 (hval 0 _ v0 rfl rfl) h0;obtain⟨a1,n1,c1,rfl⟩:=okWide_slice Tryz.underlying22 (hval 1 _ v1 rfl rfl)
 obtain⟨fs,hR,hF⟩:=open_facts h1;obtain⟨ea,hE⟩:=(storeStays_laid rfl hL)
 exact(law_sstays x _ fs ea W hE hR hF).mono fun e W' ⟨he,hb⟩=>⟨_,he,hpost W' hb⟩
theorem js_laid:laidOutB Tryz.pinned.checked.prog=true:=by kernel_rfl
theorem js_maps:mapsRowed Tryz.pinned.checked.prog=true:=by kernel_rfl
theorem js_heard:Tryz.pinned.checked.prog.stopsHeard=true:=by kernel_rfl
theorem js_enter:Tryz.pinned.checked.prog.mayEnter=true:=by kernel_rfl
theorem js_plain:(Rows.partnerOnceRow.plainKeys==Tryz.pinned.checked.prog.plainKeys)=true:=by kernel_rfl
theorem js_lift:(Rows.partnerOnceRow.lifted==Tryz.pinned.checked.prog.liftsFinal)=true:=by kernel_rfl
theorem js_make:(Tryz.pinned.checked.prog.make==some Rows.partnerOnceRow.make)=true:=by kernel_rfl
theorem storeStays_joined:joinedFacts Tryz.pinned.checked.prog 6 Tryz.f6 Rows.storeStaysSpec Rows.storeStaysRow=true:=by
 unfold joinedFacts;simp only[Bool.and_eq_true]
 repeat' apply And.intro
 · as_aux_lemma=>kernel_rfl
 · exact js_laid
 · exact js_maps
 · as_aux_lemma=>kernel_rfl
 · as_aux_lemma=>kernel_rfl
 · as_aux_lemma=>kernel_rfl
 · as_aux_lemma=>kernel_rfl
 · as_aux_lemma=>kernel_rfl
 · as_aux_lemma=>kernel_rfl
 · as_aux_lemma=>kernel_rfl
 · as_aux_lemma=>kernel_rfl
 · as_aux_lemma=>kernel_rfl
 · as_aux_lemma=>kernel_rfl
 · as_aux_lemma=>kernel_rfl
 · as_aux_lemma=>kernel_rfl
 · as_aux_lemma=>kernel_rfl
 · as_aux_lemma=>kernel_rfl
 · as_aux_lemma=>kernel_rfl
 · as_aux_lemma=>kernel_rfl
 · as_aux_lemma=>kernel_rfl
 · as_aux_lemma=>kernel_rfl
 · as_aux_lemma=>kernel_rfl
 · exact js_plain
 · as_aux_lemma=>kernel_rfl
 · exact js_heard
 · exact js_enter
 · exact js_lift
 · exact js_make
 · as_aux_lemma=>kernel_rfl
 · as_aux_lemma=>kernel_rfl
 · as_aux_lemma=>kernel_rfl
 · as_aux_lemma=>kernel_rfl
end Go.Proofs.YtlkajejbfojkeaaGreatDoor
