/- LwLDir4, LwLDirW, FlOpen, OpF, Sent, Errs, WrapS, LaidS, OpG, LeadDirectsL, JoinS, LeadDirectsJ -/
import Derived.Test.YtlkajejbfojkeaaGreatDoorWLwLDirToLwLDir3
import Derived.ChangeArms
import Derived.Deep.Slices
import Derived.ProofKit
import Derived.LaidMore
import Derived.OpenShut
import Derived.Stop.Joined
import Derived.Carry
import Derived.SevenTiedAt
import Derived.HandedShaped
import Derived.Shelf.Vars
import Derived.Lib.LaidTab
import Derived.Lay
import Derived.JoinedOf
set_option linter.unusedSimpArgs false
set_option linter.unusedVariables false
set_option maxRecDepth 100000
set_option maxHeartbeats 16000000
namespace Go.Proofs.YtlkajejbfojkeaaGreatDoor
open Go.RowKit
attribute [local go_sem] store_float
theorem law_ldir_reg (node:Int) (v:Value) (fs:List SFact) (na qa:Int) (j:Nat) (k:Int) (now:Nat) (ea:Int→Addr) (w:World) (hE:EnvS ea w) (hR:ReadFacts w v fs) (hF:∀f∈fs,F64 f.ex) (hn64:F64 now) (i:Nat) (a:SAct) (r:SReg) (hg:lGet (splay node fs) na qa=some (i,a)) (hj:a.regs[j]? =some r):Calls Tryz.prog 16 #[.int .i64 node,v,.agg #[na,qa,j,k,.float .f64 now]] w (Makes (.bool true) w):=by
 obtain⟨av,cap,rfl,hrow⟩:=hR;have hR':∀W,Below w.heap.size w W→ReadFacts W (.slice av fs.length cap) fs:=fun W hW=>⟨av,cap,rfl,fun hn=>by
   obtain⟨b,off,rfl,hb,hf⟩:=hrow hn;exact⟨b,off,rfl,Nat.lt_of_lt_of_le hb hW.size,fun j hj=>(hf j hj).below hW hb⟩⟩
 have HE:=qq hE;have HAL:=qq (fun W (hW:Below w.heap.size w W)=>alive17b_of ea W (hE.below hW));have HBN:=qq (fun W (hW:Below w.heap.size w W) h=>built17_no node _ fs ea W (hE.below hW) (hR' W hW) h);have HBY:=qq (fun W (hW:Below w.heap.size w W) h1 h2=>built17_yes node _ fs ea W (hE.below hW) (hR' W hW) hF h1 h2);have HGD:=qq (fun h=>splay_good (node:=node) h fs)
 obtain⟨n,hn⟩:∃n,n=fs.length:=⟨_,rfl⟩
 obtain⟨S,hS⟩:∃S,S=splay node fs:=⟨_,rfl⟩
 rw[←hn] at HBN HBY⊢;rw[←hS] at HBY HGD;rw[←hS] at hg;have HDo:=qq (fun L W h1 h2 h3=>ldirect_of L S na qa j k ea W h1 h2 h3);have HRd:=qq (fun R W h1 h2=>rdirect17_of R S na qa j k W h1 h2);have HFo:=qq (fun L W h1 h2 h3=>lforget_of L S na qa ea W h1 h2 h3);have HRf:=qq (fun R W h1 h2=>rforget17_of R S na qa W h1 h2);have HFd:=qq (fun R W h1 (h2:StoGood S)=>rfind_of R S na qa W h1 h2.acts)
 have HAg:=qq (fun L W h1 h2 h3=>lagain_of L S na qa j ea W h1 h2 h3);have HRa:=qq (fun R W h1 h2=>rlagain17_of R S na qa j W h1 h2);have HTk:=qq (fun L W h1 h2 h3=>ltakesA_of L S na qa now ea W h1 h2 h3 hn64);have HMs:=qq (fun L W (_:EnvS ea W) h2 h3=>lmessage_of L S na qa j k W h2 h3);have HFT:=qq (fun(h:StoGood S)=>lDirect_fits h na qa j k);obtain⟨hf,ha,hmem,_,_⟩:=lGet_some hg;rw[hf] at HFd HRa
 dsimp only[oix] at HFd HRa;have ht:lTakesA S na qa now=lTakes S a now:=by unfold lTakesA;rw[hg]
 rw[ht] at HTk;have hA:=fun(h:StoGood S)=>h.act a hmem
 have hex:=fun(h:StoGood S)=>(show F64 a.ex by have:=(ctxOk_ex (hA h).ctx).1;unfold fdelay at this;unfold F64;simp at this;omega)
 have HRt:=qq (fun R W h1 h2=>rtakes17_of R S i a now W h1 h2 (hex h2) hn64 ha);obtain⟨tk,htk⟩:∃b,b=lTakes S a now:=⟨_,rfl⟩
 rw[←htk] at HTk HRt;have hlr:lReg a (j:Int)=some r:=(show lReg a (j:Int)=some r by unfold lReg;rw[if_pos (by omega),Int.toNat_natCast];exact hj)
 have hm:lMessage S na qa j k=(lMsg S a r j k,true):=by unfold lMessage;rw[hg];dsimp only;rw[hlr]
 rw[hm] at HMs;have HRm:=qq (fun R W h1 h2=>rlmsg17_of R S i j k a r W h1 h2 ha hj);unfold lMsg at HMs HRm;dsimp only[msg0] at HMs;have hbt:(tk !=tk)=false:=by simp
 have HHA:=qq ha;have HHJ:=qq hj;clear ht hm hg hf hA hex hlr htk ha hmem hj;have hex1:=lDirect_ex (S:=S) (na:=na) (qa:=qa) (rg:=j) (k:=k);have hln1:=lDirect_len (S:=S) (na:=na) (qa:=qa) (rg:=j) (k:=k);have hnm1:=lDirect_num (S:=S) (na:=na) (qa:=qa) (rg:=j) (k:=k)
 have hex2:=lForget_ex (S:=S) (na:=na) (qa:=qa);have hln2:=lForget_len (S:=S) (na:=na) (qa:=qa);have hnm2:=lForget_num (S:=S) (na:=na) (qa:=qa);obtain⟨r1,hr1⟩:∃r,r=(lDirect S na qa j k).1:=⟨_,rfl⟩
 obtain⟨en1,hen1⟩:∃r,r=(lDirect S na qa j k).2:=⟨_,rfl⟩
 obtain⟨r2,hr2⟩:∃r,r=(lForget S na qa).1:=⟨_,rfl⟩
 obtain⟨en2,hen2⟩:∃r,r=(lForget S na qa).2:=⟨_,rfl⟩
 obtain⟨am,ham⟩:∃m,m=(lAgain S na qa j).1:=⟨_,rfl⟩
 obtain⟨ab,hab⟩:∃m,m=(lAgain S na qa j).2:=⟨_,rfl⟩
 rw[←hr1] at HDo HRd HFT hex1 hln1;rw[←hen1] at HDo HRd hnm1;rw[←hr2] at HFo HRf hex2 hln2;rw[←hen2] at HFo HRf hnm2;rw[←ham,←hab] at HAg HRa;have HNM1:=qq (fun W hW=>num_of en1 hnm1 ea W hW);have HNM2:=qq (fun W hW=>num_of en2 hnm2 ea W hW);have HEX1:=qq (show ∀f∈r1.fs,F64 f.ex by intro f hf;rw[hex1 f hf];unfold F64;decide)
 have HEX2:=qq (show ∀f∈r2.fs,F64 f.ex by intro f hf;rw[hex2 f hf];unfold F64;decide);have HLN1:=qq hln1;have HLN2:=qq hln2;clear hr1 hen1 hr2 hen2 ham hab hex1 hln1 hnm1 hex2 hln2 hnm2 hn64;obtain⟨fs1,ms1,wk1⟩:=r1;obtain⟨fs2,ms2,wk2⟩:=r2;obtain⟨mk,mf,mt,man,maq,mrg,mpt,mpr,mco⟩:=am;unfold DirEnds at HDo HFo;unfold RDoEnds at HRd HRf;dsimp only[msgV,msgA,flV] at*
 have hnn1:(en1 !=en1)=false:=by simp
 have hnn2:(en2 !=en2)=false:=by simp
 have hbb:(ab !=ab)=false:=by simp
 have hne1:=fun W=>msgNe mk mf mt man maq mrg mpt mpr mco W
 clear hE hR' hrow hF hn hS;by_cases hok:(0≤node∧node≤3)∧n≤60
 case neg=>
  go_enter Tryz.func16,Tryz.ntmps16;go_wp2_with fail;refine(HAL.out _ (by go_grown)).mono ?_;rintro e w1 ⟨rfl,hb1⟩;have B1:Below w.heap.size w w1:=below_then (by go_grown) hb1;go_wp2_with fail;refine(HBN.out _ B1 hok).mono ?_;rintro e w2 ⟨rfl,hb2⟩;have B2:Below w.heap.size w w2:=below_then B1 hb2;go_wp2_with fail;go_ret;exact⟨rfl,B2⟩
 obtain⟨hnd,hln⟩:=hok;have HGS:=qq (HGD.out hnd);obtain⟨T,hfit⟩:=HFT.out HGS.out;have HFT:=qq hfit;clear hfit;go_enter Tryz.func16,Tryz.ntmps16;go_wp2_with fail;refine(HAL.out _ (by go_grown)).mono ?_;rintro e w1 ⟨rfl,hb1⟩;have B1:Below w.heap.size w w1:=below_then (by go_grown) hb1;have HX:=qq ((Blk.fresh w #[na,qa,j,k,.float .f64 now] 132 _ rfl).below hb1);clear hb1;go_wp2_with fail
 refine(HBY.out _ B1 hnd hln).mono ?_;rintro e w2 ⟨L,R,rfl,hB⟩;have B2:Below w.heap.size w w2:=below_then B1 hB.be;have HNL:Hid (∀k∈L.foot,w1.heap.size≤k):=qq hB.nl;have HW1:=qq (show w1.heap.size≤w2.heap.size from hB.be.size);have HB1:=qq B1;have HB12:=qq hB.be;have HX:=qq (HX.out.below hB.be);have HL:=qq hB.st;have HR:=qq hB.rs;clear hB B1;have h:=HR.out;have hG:=HGS.out;have ha:=HHA.out
 have hj:=HHJ.out;obtain⟨g,n,cap,va,vc,hin,hn8,hv6,hQ,hRR⟩:=ract_at h hG ha;obtain⟨nd,hnd⟩:∃nd,nd=S.node:=⟨_,rfl⟩
 have hi0:(0:Int)≤(i:Int):=by omega
 have hi1:(i:Int)<(n:Int):=by omega
 obtain⟨gr,rfl,hQR⟩:=hRR j r hj;have hj0:(0:Int)≤(j:Int):=by omega
 have hjl:j<a.regs.length:=(List.getElem?_eq_some_iff.1 hj).1;rw[←hnd] at hQ HMs HRm;obtain⟨an,aq,oc,dp,ex,pa,de,rs⟩:=a;unfold ActC at hQ;dsimp only at*;obtain⟨vn,hvn⟩:∃n,n=rs.length:=⟨_,rfl⟩
 rw[←hvn] at hQ hv6 hjl;obtain⟨rn,rp,⟨sp,sd,ss,sh⟩⟩:=r;unfold RegC at hQR;dsimp only at*;have hj1:(j:Int)<(vn:Int):=by omega
 have HQ:=qq (fun W hW=>And.intro (hQ W hW) (hQR W hW));have hne2:=fun W=>msgNe k nd rn an aq j rp 0 0 W
 clear h hG ha hj hnd hvn hQ hQR hRR;obtain⟨⟨xl,gl,xn,xa,a0,a1,a2,a3,a4,a5,a6,a7⟩,rl,r0,r1,r2,r3,r4,r5⟩:=HQ.out _ (Below.refl _ _);obtain⟨lHX,qHX,fHX⟩:=HX.out;go_wp2_with fail;clear qHX fHX lHX xl gl xn xa a0 a1 a2 a3 a4 a5 a6 a7 rl r0 r1 r2 r3 r4 r5;refine(HDo.out L _ (HE.out.below (below_then B2 (Below.refl w2.heap.size w2))) (HL.out.below (Below.refl w2.heap.size w2)) HGS.out).mono ?_
 rintro e w211 ⟨a1,c1,b1,d1,rfl,hR1,hb11⟩;have HAP:Hid (∀k,sliceBlock (.slice a1 fs1.length c1)=some k→k∉L.foot):=qq (fun k hk hl=>by have h1:=hR1.ff k hk;have h2:=HL.out.lt k hl;omega);have HX:=qq (HX.out.below hb11);have HB:=qq (below_then (Below.refl w2.heap.size w2) hb11);have z11:=HB.out.size;clear hb11;have HF1:=qq (show ReadFacts _ (.slice a1 fs1.length c1) fs1 from hR1.f)
 have HM1:=qq (show ReadMsgs _ (.slice b1 ms1.length d1) ms1 from hR1.m)
 (try clear hR1)
 have o1HX:=HX.out.lt;obtain⟨⟨xl,gl,xn,xa,a0,a1,a2,a3,a4,a5,a6,a7⟩,rl,r0,r1,r2,r3,r4,r5⟩:=HQ.out _ HB.out;obtain⟨lHX,qHX,fHX⟩:=HX.out;go_wp2_with fail;clear qHX fHX lHX xl gl xn xa a0 a1 a2 a3 a4 a5 a6 a7 rl r0 r1 r2 r3 r4 r5;refine(HRd.out R _ (HR.out.below (bel_alloc HB.out _)) HGS.out).mono ?_;rintro e w212 ⟨fv1,mv1,rfl,hf1,hm1,hb12⟩;have hf2:=hf1;have hm2:=hm1;obtain⟨a1r,c1r,rfl,_⟩:=hf2
 obtain⟨b1r,d1r,rfl,_⟩:=hm2;have HX:=qq ((HX.out.alloc _).below hb12);have HF1:=qq ((HF1.out.below (by go_grown)).below hb12);have HM1:=qq ((HM1.out.below (by go_grown)).below hb12);have K1:=qq ((Blk.fresh _ _ _ (w211.heap.size) (by simp)).below hb12);have HB:=qq (below_then (bel_alloc HB.out _) hb12);have z12:=HB.out.size;clear hb12
 have HF1r:=qq (show ReadFacts _ (.slice a1r fs1.length c1r) fs1 from hf1);have HM1r:=qq (show ReadMsgs _ (.slice b1r ms1.length d1r) ms1 from hm1)
 (try clear hf1 hm1)
 have o2HX:=HX.out.lt;have o2K1:=K1.out.lt;obtain⟨⟨xl,gl,xn,xa,a0,a1,a2,a3,a4,a5,a6,a7⟩,rl,r0,r1,r2,r3,r4,r5⟩:=HQ.out _ HB.out;obtain⟨lHX,qHX,fHX⟩:=HX.out;obtain⟨lK1,qK1,fK1⟩:=K1.out;go_wp2_with fail;clear qHX fHX lHX qK1 fK1 lK1 xl gl xn xa a0 a1 a2 a3 a4 a5 a6 a7 rl r0 r1 r2 r3 r4 r5
 refine reg_start (fun w'=>Blk w' _ _∧ReadFacts w' _ _∧ReadMsgs w' _ _∧Blk w' _ _∧ReadFacts w' _ _∧ReadMsgs w' _ _∧Blk w' _ _∧Below w2.heap.size w2 w') (by kernel_rfl) ⟨(HX.out.alloc _).drew,(HF1.out.below (by go_grown)),(HM1.out.below (by go_grown)),(K1.out.alloc _).drew,(HF1r.out.below (by go_grown)),(HM1r.out.below (by go_grown)),(Blk.fresh _ _ _ (w212.heap.size) (by simp)).drew,(bel_drew (bel_alloc HB.out _))⟩ ?_
 rintro w213 hHeld;obtain⟨HX',HF1',HM1',K1',HF1r',HM1r',K2',HB'⟩:=id hHeld;have HX:=qq HX';have HF1:=qq HF1';have HM1:=qq HM1';have K1:=qq K1';have HF1r:=qq HF1r';have HM1r:=qq HM1r';have K2:=qq K2';have HB:=qq HB';clear HX' HF1' HM1' K1' HF1r' HM1r' K2' HB';have z13:=HB.out.size;refine takeM (d:=some 59) 0 rfl rfl hHeld (fun w' hS'=>by have qA:=hS'.2.2.2.1.cell;clear hS';go_simp;(try rfl)) ?_
 simp only[puts];refine takeM (d:=some 61) 2 rfl rfl hHeld (fun w' hS'=>by have qA:=hS'.2.2.2.2.2.2.1.cell;clear hS';go_simp;(try rfl)) ?_;simp only[puts];refine one_M 1 (by kernel_rfl) ?_;refine wpOp_call (d:=some 60) 1 70 _ _ [.agg #[.slice a1 fs1.length c1,.slice b1 ms1.length d1,wk1]] rfl rfl rfl (enters_of Tryz.func70 (by kernel_rfl) rfl) (by rfl) (by rfl) ?_
 refine(told17_of a1 b1 c1 ms1.length d1 fs1 wk1 _ HF1.out (by have:=HLN1.out.1;omega)).mono ?_;rintro e w214 ⟨a1t,c1t,rfl,hft,hb14⟩;clear hHeld;have HX:=qq (HX.out.below hb14);have HF1:=qq (HF1.out.below hb14);have HM1:=qq (HM1.out.below hb14);have K1:=qq (K1.out.below hb14);have HF1r:=qq (HF1r.out.below hb14);have HM1r:=qq (HM1r.out.below hb14);have K2:=qq (K2.out.below hb14)
 have HB:=qq (below_then HB.out hb14);have z14:=HB.out.size;clear hb14;have HF1t:=qq (hft)
 (try clear hft)
 refine ret_S ⟨HX.out,HF1.out,HM1.out,K1.out,HF1r.out,HM1r.out,K2.out,HB.out⟩ (fun hHeld=> ?_);simp only[puts];refine one_M 3 (by kernel_rfl) ?_;refine wpOp_call (d:=some 62) 3 42 _ _ [.agg #[.slice a1t fs1.length c1t,.slice b1 ms1.length d1,wk1],.agg #[.slice a1r fs1.length c1r,.slice b1r ms1.length d1r,wk1]] rfl rfl rfl (enters_of Tryz.func42 (by kernel_rfl) rfl) (by rfl) (by rfl) ?_
 refine(rsame16_self a1t a1r b1 b1r c1t c1r d1 d1r fs1 ms1 wk1 _ HF1t.out HF1r.out HM1.out HM1r.out HEX1.out (by have:=HLN1.out.1;omega) (by have:=HLN1.out.2;omega)).mono ?_;rintro e w215 ⟨rfl,hb15⟩;clear hHeld;have HX:=qq (HX.out.below hb15);have HF1:=qq (HF1.out.below hb15);have HM1:=qq (HM1.out.below hb15);have K1:=qq (K1.out.below hb15);have HF1r:=qq (HF1r.out.below hb15)
 have HM1r:=qq (HM1r.out.below hb15);have K2:=qq (K2.out.below hb15);have HF1t:=qq (HF1t.out.below hb15);have HB:=qq (below_then HB.out hb15);have z15:=HB.out.size;clear hb15;refine ret_S ⟨HX.out,HF1.out,HM1.out,K1.out,HF1r.out,HM1r.out,K2.out,HB.out⟩ (fun hHeld=> ?_);simp only[puts];refine takeM (d:=some 63) 4 rfl rfl hHeld (fun w' _=>by go_simp;(try rfl)) ?_;simp only[puts]
 refine takeM (d:=some 64) 5 rfl rfl hHeld (fun w' _=>by go_simp;(try rfl)) ?_;simp only[puts];refine takeM (d:=some 65) 6 rfl rfl hHeld (fun w' _=>by go_simp;(try rfl)) ?_;simp only[puts];refine takeM (d:=some 67) 8 rfl rfl hHeld (fun w' _=>by go_simp;(try rfl)) ?_;simp only[puts];refine one_M 7 (by kernel_rfl) ?_
 refine wpOp_call (d:=some 66) 7 20 _ _ [errOf ea en1] rfl rfl rfl (enters_of Tryz.func20 (by kernel_rfl) rfl) (by rfl) (by rfl) ?_;refine(HNM1.out _ (HE.out.below (below_then B2 HB.out))).mono ?_;rintro e w216 ⟨rfl,hb16⟩;clear hHeld;have HX:=qq (HX.out.below hb16);have HF1:=qq (HF1.out.below hb16);have HM1:=qq (HM1.out.below hb16);have K1:=qq (K1.out.below hb16)
 have HF1r:=qq (HF1r.out.below hb16);have HM1r:=qq (HM1r.out.below hb16);have K2:=qq (K2.out.below hb16);have HF1t:=qq (HF1t.out.below hb16);have HB:=qq (below_then HB.out hb16);have z16:=HB.out.size;clear hb16;refine ret_S ⟨HX.out,HF1.out,HM1.out,K1.out,HF1r.out,HM1r.out,K2.out,HB.out⟩ (fun hHeld=> ?_);simp only[puts];refine takeM (d:=some 68) 9 rfl rfl hHeld (fun w' _=>by go_simp;(try rfl)) ?_
 simp only[puts];refine takeM (d:=some 69) 10 rfl rfl hHeld (fun w' _=>by go_simp;(try rfl)) ?_;simp only[puts];refine doneM (by kernel_rfl) ?_ _;clear hHeld;obtain⟨⟨xl,gl,xn,xa,a0,a1,a2,a3,a4,a5,a6,a7⟩,rl,r0,r1,r2,r3,r4,r5⟩:=HQ.out _ HB.out;obtain⟨lHX,qHX,fHX⟩:=HX.out;obtain⟨lK1,qK1,fK1⟩:=K1.out;obtain⟨lK2,qK2,fK2⟩:=K2.out;go_wp2_with fail
 clear qHX fHX lHX qK1 fK1 lK1 qK2 fK2 lK2 xl gl xn xa a0 a1 a2 a3 a4 a5 a6 a7 rl r0 r1 r2 r3 r4 r5;refine(HFd.out R _ (HR.out.below HB.out) HGS.out).mono ?_;rintro e w217 ⟨rfl,hb17⟩;have HX:=qq (HX.out.below hb17);have HF1:=qq (HF1.out.below hb17);have K1:=qq (K1.out.below hb17);have HB:=qq (below_then HB.out hb17);have z17:=HB.out.size;clear hb17
 obtain⟨⟨xl,gl,xn,xa,a0,a1,a2,a3,a4,a5,a6,a7⟩,rl,r0,r1,r2,r3,r4,r5⟩:=HQ.out _ HB.out;obtain⟨lHX,qHX,fHX⟩:=HX.out;obtain⟨lK1,qK1,fK1⟩:=K1.out;go_wp2_with fail;clear qHX fHX lHX qK1 fK1 lK1 xl gl xn xa a0 a1 a2 a3 a4 a5 a6 a7 rl r0 r1 r2 r3 r4 r5;refine(HAg.out L _ (HE.out.below (below_then B2 HB.out)) (HL.out.below HB.out) HGS.out).mono ?_;rintro e w218 ⟨rfl,hb18⟩;have HX:=qq (HX.out.below hb18)
 have HF1:=qq (HF1.out.below hb18);have K1:=qq (K1.out.below hb18);have HB:=qq (below_then HB.out hb18);have z18:=HB.out.size;clear hb18;have o3HX:=HX.out.lt;have o3K1:=K1.out.lt;obtain⟨⟨xl,gl,xn,xa,a0,a1,a2,a3,a4,a5,a6,a7⟩,rl,r0,r1,r2,r3,r4,r5⟩:=HQ.out _ HB.out;obtain⟨lHX,qHX,fHX⟩:=HX.out;obtain⟨lK1,qK1,fK1⟩:=K1.out;go_wp2_with fail
 clear qHX fHX lHX qK1 fK1 lK1 xl gl xn xa a0 a1 a2 a3 a4 a5 a6 a7 rl r0 r1 r2 r3 r4 r5;refine(HRa.out R _ (HR.out.below (bel_alloc HB.out _)) HGS.out).mono ?_;rintro e w219 ⟨rfl,hb19⟩;have HX:=qq ((HX.out.alloc _).below hb19);have HF1:=qq ((HF1.out.below (by go_grown)).below hb19);have K1:=qq ((K1.out.alloc _).below hb19);have K3:=qq ((Blk.fresh _ _ _ (w218.heap.size) (by simp)).below hb19)
 have HB:=qq (below_then (bel_alloc HB.out _) hb19);have z19:=HB.out.size;clear hb19;have o4HX:=HX.out.lt;have o4K1:=K1.out.lt;have o4K3:=K3.out.lt;obtain⟨⟨xl,gl,xn,xa,a0,a1,a2,a3,a4,a5,a6,a7⟩,rl,r0,r1,r2,r3,r4,r5⟩:=HQ.out _ HB.out;obtain⟨lHX,qHX,fHX⟩:=HX.out;obtain⟨lK1,qK1,fK1⟩:=K1.out;obtain⟨lK3,qK3,fK3⟩:=K3.out;go_wp2_with fail
 clear qHX fHX lHX qK1 fK1 lK1 qK3 fK3 lK3 xl gl xn xa a0 a1 a2 a3 a4 a5 a6 a7 rl r0 r1 r2 r3 r4 r5;refine(HTk.out L _ (HE.out.below (below_then B2 (bel_alloc HB.out _))) (HL.out.below (bel_alloc HB.out _)) HGS.out).mono ?_;rintro e w220 ⟨rfl,hb20⟩;have HX:=qq ((HX.out.alloc _).below hb20);have HF1:=qq ((HF1.out.below (by go_grown)).below hb20);have K1:=qq ((K1.out.alloc _).below hb20)
 have K3:=qq ((K3.out.alloc _).below hb20);have K4:=qq ((Blk.fresh _ _ _ (w219.heap.size) (by simp)).below hb20);have HB:=qq (below_then (bel_alloc HB.out _) hb20);have z20:=HB.out.size;clear hb20;obtain⟨⟨xl,gl,xn,xa,a0,a1,a2,a3,a4,a5,a6,a7⟩,rl,r0,r1,r2,r3,r4,r5⟩:=HQ.out _ HB.out;obtain⟨lHX,qHX,fHX⟩:=HX.out;obtain⟨lK1,qK1,fK1⟩:=K1.out;obtain⟨lK3,qK3,fK3⟩:=K3.out;obtain⟨lK4,qK4,fK4⟩:=K4.out
 go_wp2_with fail;clear qHX fHX lHX qK1 fK1 lK1 qK3 fK3 lK3 qK4 fK4 lK4 xl gl xn xa a0 a1 a2 a3 a4 a5 a6 a7 rl r0 r1 r2 r3 r4 r5;refine(HRt.out R _ (HR.out.below HB.out) HGS.out).mono ?_;rintro e w221 ⟨rfl,hb21⟩;have HX:=qq (HX.out.below hb21);have HF1:=qq (HF1.out.below hb21);have K1:=qq (K1.out.below hb21);have K3:=qq (K3.out.below hb21);have K4:=qq (K4.out.below hb21)
 have HB:=qq (below_then HB.out hb21);have z21:=HB.out.size;clear hb21;obtain⟨⟨xl,gl,xn,xa,a0,a1,a2,a3,a4,a5,a6,a7⟩,rl,r0,r1,r2,r3,r4,r5⟩:=HQ.out _ HB.out;obtain⟨lHX,qHX,fHX⟩:=HX.out;obtain⟨lK1,qK1,fK1⟩:=K1.out;obtain⟨lK3,qK3,fK3⟩:=K3.out;obtain⟨lK4,qK4,fK4⟩:=K4.out;go_wp2_with fail;clear qHX fHX lHX qK1 fK1 lK1 qK3 fK3 lK3 qK4 fK4 lK4 xl gl xn xa a0 a1 a2 a3 a4 a5 a6 a7 rl r0 r1 r2 r3 r4 r5
 refine(HMs.out L _ (HE.out.below (below_then B2 HB.out)) (HL.out.below HB.out) HGS.out).mono ?_;rintro e w222 ⟨rfl,hb22⟩;have HX:=qq (HX.out.below hb22);have HF1:=qq (HF1.out.below hb22);have K1:=qq (K1.out.below hb22);have HB:=qq (below_then HB.out hb22);have z22:=HB.out.size;clear hb22;have o5HX:=HX.out.lt;have o5K1:=K1.out.lt
 obtain⟨⟨xl,gl,xn,xa,a0,a1,a2,a3,a4,a5,a6,a7⟩,rl,r0,r1,r2,r3,r4,r5⟩:=HQ.out _ HB.out;obtain⟨lHX,qHX,fHX⟩:=HX.out;obtain⟨lK1,qK1,fK1⟩:=K1.out;go_wp2_with fail;clear qHX fHX lHX qK1 fK1 lK1 xl gl xn xa a0 a1 a2 a3 a4 a5 a6 a7 rl r0 r1 r2 r3 r4 r5
 refine reg_start (fun w'=>Blk w' _ _∧ReadFacts w' _ _∧Blk w' _ _∧Blk w' _ _∧Below w2.heap.size w2 w') (by kernel_rfl) ⟨(HX.out.alloc _).drew,(HF1.out.below (by go_grown)),(K1.out.alloc _).drew,(Blk.fresh _ _ _ (w222.heap.size) (by simp)).drew,(bel_drew (bel_alloc HB.out _))⟩ ?_;rintro w223 hHeld;obtain⟨HX',HF1',K1',K5',HB'⟩:=id hHeld
 have HX:=qq HX';have HF1:=qq HF1';have K1:=qq K1';have K5:=qq K5';have HB:=qq HB';clear HX' HF1' K1' K5' HB';have z23:=HB.out.size;refine takeM (d:=some 128) 0 rfl rfl hHeld (fun w' _=>by go_simp;(try rfl)) ?_;simp only[puts];refine takeM (d:=some 129) 1 rfl rfl hHeld (fun w' _=>by go_simp;(try rfl)) ?_;simp only[puts];refine takeM (d:=some 130) 2 rfl rfl hHeld (fun w' _=>by go_simp;(try rfl)) ?_
 simp only[puts];refine takeM (d:=some 131) 3 rfl rfl hHeld (fun w' _=>by go_simp;(try rfl)) ?_;simp only[puts];refine takeM (d:=some 132) 4 rfl rfl hHeld (fun w' hS'=>by have qA:=hS'.1.cell;clear hS';go_simp;(try rfl)) ?_;simp only[puts];refine takeM (d:=some 133) 5 rfl rfl hHeld (fun w' _=>by go_simp;(try rfl)) ?_;simp only[puts]
 refine takeM (d:=some 134) 6 rfl rfl hHeld (fun w' _=>by go_simp;(try rfl)) ?_;simp only[puts];refine takeM (d:=some 135) 7 rfl rfl hHeld (fun w' _=>by go_simp;(try rfl)) ?_;simp only[puts];refine takeM (d:=some 136) 8 rfl rfl hHeld (fun w' _=>by go_simp;(try rfl)) ?_;simp only[puts];refine takeM (d:=some 137) 9 rfl rfl hHeld (fun w' hS'=>by have qA:=hS'.1.cell;clear hS';go_simp;(try rfl)) ?_
 simp only[puts];refine takeM (d:=some 138) 10 rfl rfl hHeld (fun w' _=>by go_simp;(try rfl)) ?_;simp only[puts];refine takeM (d:=some 139) 11 rfl rfl hHeld (fun w' _=>by go_simp;(try rfl)) ?_;simp only[puts];refine takeM (d:=some 140) 12 rfl rfl hHeld (fun w' _=>by go_simp;(try rfl)) ?_;simp only[puts]
 refine takeM (d:=some 141) 13 rfl rfl hHeld (fun w' hS'=>by obtain⟨⟨xl,gl,xn,xa,a0,a1,a2,a3,a4,a5,a6,a7⟩,rl,r0,r1,r2,r3,r4,r5⟩:=HQ.out _ hS'.2.2.2.2;clear hS';go_simp;(try rfl)) ?_;simp only[puts];refine takeM (d:=some 142) 14 rfl rfl hHeld (fun w' _=>by go_simp;(try rfl)) ?_;simp only[puts];refine takeM (d:=some 143) 15 rfl rfl hHeld (fun w' _=>by go_simp;(try rfl)) ?_;simp only[puts]
 refine takeM (d:=some 144) 16 rfl rfl hHeld (fun w' _=>by go_simp;(try rfl)) ?_;simp only[puts];refine takeM (d:=some 145) 17 rfl rfl hHeld (fun w' hS'=>by obtain⟨⟨xl,gl,xn,xa,a0,a1,a2,a3,a4,a5,a6,a7⟩,rl,r0,r1,r2,r3,r4,r5⟩:=HQ.out _ hS'.2.2.2.2;clear hS';go_simp;(try rfl)) ?_;simp only[puts];refine takeM (d:=some 146) 18 rfl rfl hHeld (fun w' _=>by go_simp;(try rfl)) ?_;simp only[puts]
 refine takeM (d:=some 147) 19 rfl rfl hHeld (fun w' _=>by go_simp;(try rfl)) ?_;simp only[puts];refine takeM (d:=some 148) 20 rfl rfl hHeld (fun w' _=>by go_simp;(try rfl)) ?_;simp only[puts];refine takeM (d:=some 21) 21 rfl rfl hHeld (fun w' _=>by go_simp;(try rfl)) ?_;simp only[puts];refine doneM (by kernel_rfl) ?_ _;clear hHeld
 obtain⟨⟨xl,gl,xn,xa,a0,a1,a2,a3,a4,a5,a6,a7⟩,rl,r0,r1,r2,r3,r4,r5⟩:=HQ.out _ HB.out;obtain⟨lHX,qHX,fHX⟩:=HX.out;obtain⟨lK1,qK1,fK1⟩:=K1.out;obtain⟨lK5,qK5,fK5⟩:=K5.out;go_wp2_with fail;clear qHX fHX lHX qK1 fK1 lK1 qK5 fK5 lK5 xl gl xn xa a0 a1 a2 a3 a4 a5 a6 a7 rl r0 r1 r2 r3 r4 r5
 refine reg_start (fun w'=>Blk w' _ _∧ReadFacts w' _ _∧Blk w' _ _∧Blk w' _ _∧Below w2.heap.size w2 w') (by kernel_rfl) ⟨HX.out.drew,(HF1.out.below (by go_grown)),K1.out.drew,K5.out.drew,(bel_drew HB.out)⟩ ?_;rintro w224 hHeld;obtain⟨HX',HF1',K1',K5',HB'⟩:=id hHeld;have HX:=qq HX';have HF1:=qq HF1';have K1:=qq K1';have K5:=qq K5';have HB:=qq HB';clear HX' HF1' K1' K5' HB';have z24:=HB.out.size
 refine takeM (d:=some 149) 0 rfl rfl hHeld (fun w' _=>by go_simp;(try rfl)) ?_;simp only[puts];refine takeM (d:=some 150) 1 rfl rfl hHeld (fun w' _=>by go_simp;(try rfl)) ?_;simp only[puts];refine takeM (d:=some 151) 2 rfl rfl hHeld (fun w' _=>by go_simp;(try rfl)) ?_;simp only[puts];refine takeM (d:=some 152) 3 rfl rfl hHeld (fun w' _=>by go_simp;(try rfl)) ?_;simp only[puts]
 refine takeM (d:=some 153) 4 rfl rfl hHeld (fun w' _=>by go_simp;(try rfl)) ?_;simp only[puts];refine takeM (d:=some 154) 5 rfl rfl hHeld (fun w' _=>by go_simp;(try rfl)) ?_;simp only[puts];refine takeM (d:=some 155) 6 rfl rfl hHeld (fun w' hS'=>by have qA:=hS'.2.2.2.1.cell;clear hS';go_simp;(try rfl)) ?_;simp only[puts]
 refine takeM (d:=some 156) 7 rfl rfl hHeld (fun w' _=>by go_simp;(try rfl)) ?_;simp only[puts];refine takeM (d:=some 157) 8 rfl rfl hHeld (fun w' _=>by go_simp;(try rfl)) ?_;simp only[puts];refine takeM (d:=some 158) 9 rfl rfl hHeld (fun w' _=>by go_simp;(try rfl)) ?_;simp only[puts];refine takeM (d:=some 159) 10 rfl rfl hHeld (fun w' hS'=>by have qA:=hS'.1.cell;clear hS';go_simp;(try rfl)) ?_
 simp only[puts];refine takeM (d:=some 160) 11 rfl rfl hHeld (fun w' _=>by go_simp;(try rfl)) ?_;simp only[puts];refine takeM (d:=some 161) 12 rfl rfl hHeld (fun w' hS'=>by have qA:=hS'.1.cell;clear hS';go_simp;(try rfl)) ?_;simp only[puts];refine one_M 13 (by kernel_rfl) ?_
 refine wpOp_call (d:=some 162) 13 74 _ _ [.pointer (some ⟨R.sb,0,none⟩),.int .i64 i,.int .i64 j,.int .i64 k] rfl rfl rfl (enters_of Tryz.func74 (by kernel_rfl) rfl) (by rfl) (by rfl) ?_;refine(HRm.out R _ (HR.out.below HB.out) HGS.out).mono ?_;rintro e w225 ⟨rfl,hb25⟩;clear hHeld;have HX:=qq (HX.out.below hb25);have HF1:=qq (HF1.out.below hb25);have K1:=qq (K1.out.below hb25)
 have K5:=qq (K5.out.below hb25);have HB:=qq (below_then HB.out hb25);have z25:=HB.out.size;clear hb25;refine ret_S ⟨HX.out,HF1.out,K1.out,K5.out,HB.out⟩ (fun hHeld=> ?_);simp only[puts];refine takeM (d:=some 163) 14 rfl rfl hHeld (fun w' _=>by go_simp;(try rfl)) ?_;simp only[puts];refine takeM (d:=some 164) 15 rfl rfl hHeld (fun w' _=>by go_simp;(try rfl)) ?_;simp only[puts]
 refine takeM (d:=some 165) 16 rfl rfl hHeld (fun w' _=>by go_simp;(try rfl)) ?_;simp only[puts];refine takeM (d:=some 166) 17 rfl rfl hHeld (fun w' _=>by go_simp;(try rfl)) ?_;simp only[puts];refine takeM (d:=some 167) 18 rfl rfl hHeld (fun w' _=>by go_simp;(try rfl)) ?_;simp only[puts];refine takeM (d:=some 168) 19 rfl rfl hHeld (fun w' _=>by go_simp;(try rfl)) ?_;simp only[puts]
 refine takeM (d:=some 169) 20 rfl rfl hHeld (fun w' _=>by go_simp;(try rfl)) ?_;simp only[puts];refine skipM (d:=some 170) 21 rfl rfl hHeld ?_;simp only[puts];refine skipM (d:=some 171) 22 rfl rfl hHeld ?_;simp only[puts];refine skipM (d:=some 172) 23 rfl rfl hHeld ?_;simp only[puts];refine takeM (d:=some 173) 24 rfl rfl hHeld (fun w' _=>by go_simp;(try rfl)) ?_;simp only[puts]
 refine takeM (d:=some 174) 25 rfl rfl hHeld (fun w' _=>by go_simp;(try rfl)) ?_;simp only[puts];refine doneM (by kernel_rfl) ?_ _;clear hHeld;obtain⟨⟨xl,gl,xn,xa,a0,a1,a2,a3,a4,a5,a6,a7⟩,rl,r0,r1,r2,r3,r4,r5⟩:=HQ.out _ HB.out;obtain⟨lHX,qHX,fHX⟩:=HX.out;obtain⟨lK1,qK1,fK1⟩:=K1.out;obtain⟨lK5,qK5,fK5⟩:=K5.out;go_wp2_with fail
 clear qHX fHX lHX qK1 fK1 lK1 qK5 fK5 lK5 xl gl xn xa a0 a1 a2 a3 a4 a5 a6 a7 rl r0 r1 r2 r3 r4 r5;refine(HFo.out L _ (HE.out.below (below_then B2 HB.out)) (HL.out.below HB.out) HGS.out).mono ?_;rintro e w226 ⟨a2,c2,b2,d2,rfl,hR2,hb26⟩;have HX:=qq (HX.out.below hb26);have HF1:=qq (HF1.out.below hb26);have K1:=qq (K1.out.below hb26);have HB:=qq (below_then HB.out hb26);have z26:=HB.out.size
 clear hb26;have HF2:=qq (show ReadFacts _ (.slice a2 fs2.length c2) fs2 from hR2.f);have HM2:=qq (show ReadMsgs _ (.slice b2 ms2.length d2) ms2 from hR2.m)
 (try clear hR2)
 have o6HX:=HX.out.lt;have o6K1:=K1.out.lt;obtain⟨⟨xl,gl,xn,xa,a0,a1,a2,a3,a4,a5,a6,a7⟩,rl,r0,r1,r2,r3,r4,r5⟩:=HQ.out _ HB.out;obtain⟨lHX,qHX,fHX⟩:=HX.out;obtain⟨lK1,qK1,fK1⟩:=K1.out;go_wp2_with fail;clear qHX fHX lHX qK1 fK1 lK1 xl gl xn xa a0 a1 a2 a3 a4 a5 a6 a7 rl r0 r1 r2 r3 r4 r5;refine(HRf.out R _ (HR.out.below (bel_alloc HB.out _)) HGS.out).mono ?_;rintro e w227 ⟨fv2,mv2,rfl,hf2,hm2,hb27⟩
 have hf2:=hf2;have hm2:=hm2;obtain⟨a2r,c2r,rfl,_⟩:=hf2;obtain⟨b2r,d2r,rfl,_⟩:=hm2;have HX:=qq ((HX.out.alloc _).below hb27);have HF1:=qq ((HF1.out.below (by go_grown)).below hb27);have K1:=qq ((K1.out.alloc _).below hb27);have HF2:=qq ((HF2.out.below (by go_grown)).below hb27);have HM2:=qq ((HM2.out.below (by go_grown)).below hb27)
 have K6:=qq ((Blk.fresh _ _ _ (w226.heap.size) (by simp)).below hb27);have HB:=qq (below_then (bel_alloc HB.out _) hb27);have z27:=HB.out.size;clear hb27;have HF2r:=qq (show ReadFacts _ (.slice a2r fs2.length c2r) fs2 from hf2);have HM2r:=qq (show ReadMsgs _ (.slice b2r ms2.length d2r) ms2 from hm2)
 (try clear hf2 hm2)
 have o7HX:=HX.out.lt;have o7K1:=K1.out.lt;have o7K6:=K6.out.lt;obtain⟨⟨xl,gl,xn,xa,a0,a1,a2,a3,a4,a5,a6,a7⟩,rl,r0,r1,r2,r3,r4,r5⟩:=HQ.out _ HB.out;obtain⟨lHX,qHX,fHX⟩:=HX.out;obtain⟨lK1,qK1,fK1⟩:=K1.out;obtain⟨lK6,qK6,fK6⟩:=K6.out;go_wp2_with fail;clear qHX fHX lHX qK1 fK1 lK1 qK6 fK6 lK6 xl gl xn xa a0 a1 a2 a3 a4 a5 a6 a7 rl r0 r1 r2 r3 r4 r5
 refine reg_start (fun w'=>ReadFacts w' _ _∧Blk w' _ _∧ReadFacts w' _ _∧ReadMsgs w' _ _∧Blk w' _ _∧ReadFacts w' _ _∧ReadMsgs w' _ _∧Blk w' _ _∧Below w2.heap.size w2 w') (by kernel_rfl) ⟨(HF1.out.below (by go_grown)),(K1.out.alloc _).drew,(HF2.out.below (by go_grown)),(HM2.out.below (by go_grown)),(K6.out.alloc _).drew,(HF2r.out.below (by go_grown)),(HM2r.out.below (by go_grown)),(Blk.fresh _ _ _ (w227.heap.size) (by simp)).drew,(bel_drew (bel_alloc HB.out _))⟩ ?_
 rintro w228 hHeld;obtain⟨HF1',K1',HF2',HM2',K6',HF2r',HM2r',K7',HB'⟩:=id hHeld;have HF1:=qq HF1';have K1:=qq K1';have HF2:=qq HF2';have HM2:=qq HM2';have K6:=qq K6';have HF2r:=qq HF2r';have HM2r:=qq HM2r';have K7:=qq K7';have HB:=qq HB';clear HF1' K1' HF2' HM2' K6' HF2r' HM2r' K7' HB';have z28:=HB.out.size
 refine takeM (d:=some 189) 0 rfl rfl hHeld (fun w' hS'=>by have qA:=hS'.2.2.2.2.1.cell;clear hS';go_simp;(try rfl)) ?_;simp only[puts];refine takeM (d:=some 191) 2 rfl rfl hHeld (fun w' hS'=>by have qA:=hS'.2.2.2.2.2.2.2.1.cell;clear hS';go_simp;(try rfl)) ?_;simp only[puts];refine one_M 1 (by kernel_rfl) ?_
 refine wpOp_call (d:=some 190) 1 70 _ _ [.agg #[.slice a2 fs2.length c2,.slice b2 ms2.length d2,wk2]] rfl rfl rfl (enters_of Tryz.func70 (by kernel_rfl) rfl) (by rfl) (by rfl) ?_;refine(told17_of a2 b2 c2 ms2.length d2 fs2 wk2 _ HF2.out (by have:=HLN2.out.1;omega)).mono ?_;rintro e w229 ⟨a2t,c2t,rfl,hft,hb29⟩;clear hHeld;have HF1:=qq (HF1.out.below hb29);have K1:=qq (K1.out.below hb29)
 have HF2:=qq (HF2.out.below hb29);have HM2:=qq (HM2.out.below hb29);have K6:=qq (K6.out.below hb29);have HF2r:=qq (HF2r.out.below hb29);have HM2r:=qq (HM2r.out.below hb29);have K7:=qq (K7.out.below hb29);have HB:=qq (below_then HB.out hb29);have z29:=HB.out.size;clear hb29;have HF2t:=qq (hft)
 (try clear hft)
 refine ret_S ⟨HF1.out,K1.out,HF2.out,HM2.out,K6.out,HF2r.out,HM2r.out,K7.out,HB.out⟩ (fun hHeld=> ?_);simp only[puts];refine one_M 3 (by kernel_rfl) ?_;refine wpOp_call (d:=some 192) 3 42 _ _ [.agg #[.slice a2t fs2.length c2t,.slice b2 ms2.length d2,wk2],.agg #[.slice a2r fs2.length c2r,.slice b2r ms2.length d2r,wk2]] rfl rfl rfl (enters_of Tryz.func42 (by kernel_rfl) rfl) (by rfl) (by rfl) ?_
 refine(rsame16_self a2t a2r b2 b2r c2t c2r d2 d2r fs2 ms2 wk2 _ HF2t.out HF2r.out HM2.out HM2r.out HEX2.out (by have:=HLN2.out.1;omega) (by have:=HLN2.out.2;omega)).mono ?_;rintro e w230 ⟨rfl,hb30⟩;clear hHeld;have HF1:=qq (HF1.out.below hb30);have K1:=qq (K1.out.below hb30);have HF2:=qq (HF2.out.below hb30);have HM2:=qq (HM2.out.below hb30);have K6:=qq (K6.out.below hb30)
 have HF2r:=qq (HF2r.out.below hb30);have HM2r:=qq (HM2r.out.below hb30);have K7:=qq (K7.out.below hb30);have HF2t:=qq (HF2t.out.below hb30);have HB:=qq (below_then HB.out hb30);have z30:=HB.out.size;clear hb30;refine ret_S ⟨HF1.out,K1.out,HF2.out,HM2.out,K6.out,HF2r.out,HM2r.out,K7.out,HB.out⟩ (fun hHeld=> ?_);simp only[puts]
 refine takeM (d:=some 193) 4 rfl rfl hHeld (fun w' _=>by go_simp;(try rfl)) ?_;simp only[puts];refine takeM (d:=some 194) 5 rfl rfl hHeld (fun w' _=>by go_simp;(try rfl)) ?_;simp only[puts];refine takeM (d:=some 195) 6 rfl rfl hHeld (fun w' _=>by go_simp;(try rfl)) ?_;simp only[puts];refine takeM (d:=some 197) 8 rfl rfl hHeld (fun w' _=>by go_simp;(try rfl)) ?_;simp only[puts]
 refine one_M 7 (by kernel_rfl) ?_;refine wpOp_call (d:=some 196) 7 20 _ _ [errOf ea en2] rfl rfl rfl (enters_of Tryz.func20 (by kernel_rfl) rfl) (by rfl) (by rfl) ?_;refine(HNM2.out _ (HE.out.below (below_then B2 HB.out))).mono ?_;rintro e w231 ⟨rfl,hb31⟩;clear hHeld;have HF1:=qq (HF1.out.below hb31);have K1:=qq (K1.out.below hb31);have HF2:=qq (HF2.out.below hb31)
 have HM2:=qq (HM2.out.below hb31);have K6:=qq (K6.out.below hb31);have HF2r:=qq (HF2r.out.below hb31);have HM2r:=qq (HM2r.out.below hb31);have K7:=qq (K7.out.below hb31);have HF2t:=qq (HF2t.out.below hb31);have HB:=qq (below_then HB.out hb31);have z31:=HB.out.size;clear hb31;refine ret_S ⟨HF1.out,K1.out,HF2.out,HM2.out,K6.out,HF2r.out,HM2r.out,K7.out,HB.out⟩ (fun hHeld=> ?_);simp only[puts]
 refine takeM (d:=some 198) 9 rfl rfl hHeld (fun w' _=>by go_simp;(try rfl)) ?_;simp only[puts];refine takeM (d:=some 199) 10 rfl rfl hHeld (fun w' _=>by go_simp;(try rfl)) ?_;simp only[puts];refine doneM (by kernel_rfl) ?_ _;clear hHeld
 have HFI:=qq (fit17_of L S (.slice a1 fs1.length c1) fs1 ea w _ HE.out (below_then B2 HB.out) (fun k hk=>Nat.le_trans HB1.out.size (HNL.out k hk)) (HL.out.below HB.out) HGS.out HF1.out HAP.out HEX1.out (by have:=HLN1.out.1;omega));rw[HFT.out] at HFI;have HBE:=qq (below_then B2 HB.out);obtain⟨⟨xl,gl,xn,xa,a0,a1,a2,a3,a4,a5,a6,a7⟩,rl,r0,r1,r2,r3,r4,r5⟩:=HQ.out _ HB.out;obtain⟨lK1,qK1,fK1⟩:=K1.out
 obtain⟨lK6,qK6,fK6⟩:=K6.out;obtain⟨lK7,qK7,fK7⟩:=K7.out;go_wp2_with fail;clear qK1 fK1 lK1 qK6 fK6 lK6 qK7 fK7 lK7 xl gl xn xa a0 a1 a2 a3 a4 a5 a6 a7 rl r0 r1 r2 r3 r4 r5;refine HFI.out.mono ?_;rintro e w90 ⟨rfl,hs⟩;obtain⟨L4,hL4,hS4,hg4⟩:=hs;have B14:Below w.heap.size w w90:=HBE.out.trans (hg4.below (fun k hk=>Nat.le_trans HB1.out.size (HNL.out k hk)) HBE.out.size);clear hg4 hS4
 go_wp2_with fail;go_ret;exact⟨rfl,B14⟩
theorem law_ldir (node:Int) (v:Value) (fs:List SFact) (na qa rg k:Int) (now:Nat) (ea:Int→Addr) (w:World) (hE:EnvS ea w) (hR:ReadFacts w v fs) (hF:∀f∈fs,F64 f.ex) (hn64:F64 now):Calls Tryz.prog 16 #[.int .i64 node,v,.agg #[na,qa,rg,k,.float .f64 now]] w (Makes (.bool true) w):=by
 cases hg:lGet (splay node fs) na qa with
 | none=>exact law_ldir_none node v fs na qa rg k now ea w hE hR hF hn64 hg
 | some x=>
  obtain⟨i,a⟩:=x
  cases hr:lReg a rg with
  | none=>
   rcases lReg_none hr with h0 | ⟨h0,h1⟩
   · exact law_ldir_neg node v fs na qa rg k now ea w hE hR hF hn64 i a hg h0
   · exact law_ldir_out node v fs na qa rg k now ea w hE hR hF hn64 i a hg h0 h1
  | some r=>
   obtain⟨j,rfl,hj,_⟩:=lReg_some hr;exact law_ldir_reg node v fs na qa j k now ea w hE hR hF hn64 i a r hg hj
open Go.ChangeShapes Go.WideShapes Go.ChangeAt Go.WideMaps Go.WideElems Go.RowKit Go.Joins
theorem trod_f64 {H:Type} {P:Program} {w:World} {t:TypeId} {fuel:Nat} {base:Nat} {enc:TypeId×Value→H} {spare:Nat→Bool} {held:Bool} {v:Value} {x:DataW H×List MemPlace} (ht:P.underlying t=some (.float .f64)) (h:DataW.trod enc P w base spare held fuel t [v]=some x):∃b,v=.float .f64 b∧F64 b:=by
 cases fuel with
 | zero=>simp[DataW.trod] at h
 | succ n=>
  unfold DataW.trod at h;rw[ht] at h;split at h<;>simp_all
  rename_i k k' b he
  subst he;simpa[Lit.wf,F64] using h.1.2
open Go.RowKit Go.Deep Go.ChangeShapes Go.WideShapes Go.ChangeAt Go.WideMaps Go.WideElems
theorem fact_list_of {α:Type} {C:Nat→α→Prop}:∀n,(∀i,i<n→∃o,C i o)→∃l:List α,l.length=n∧∀i (h:i<l.length),C i l[i]
 | 0,_=>⟨[],rfl,fun i h=>absurd h (by simp)⟩
 | n+1,h=>by
  obtain⟨l,hl,hc⟩:=fact_list_of n (fun i hi=>h i (by omega));obtain⟨o,ho⟩:=h n (by omega);refine⟨l ++ [o],by simp[hl],fun i hi=> ?_⟩;by_cases hlt:i<l.length
  · rw[List.getElem_append_left hlt];exact hc i hlt
  · have:i=n:=by simp at hi;omega
    subst this;rw[List.getElem_append_right (by omega)];simpa[hl] using ho
theorem open_facts {H:Type} {enc:TypeId×Value→H} {W:World} {a0:Option Addr} {len cap:Nat} {d:DataW H} {p:List MemPlace} {sp:Nat→Bool} (h:DataW.Trod enc Tryz.prog W 0 sp true 22 (.slice a0 len cap) d p):∃fs,ReadFacts W (.slice a0 len cap) fs∧∀f∈fs,F64 f.ex:=by
 obtain⟨fuel,hf⟩:=h;rcases open_slice Tryz.underlying22 hf with⟨hcs,hx⟩ | ⟨a,len',cap',m,n,D,Pl,hcs,hb,hl,hm,hmm,hx,hall⟩
 · simp[Value.cells] at hcs;obtain⟨rfl,rfl,rfl⟩:=hcs;exact⟨[],⟨none,0,rfl,fun h=>absurd rfl h⟩,by simp⟩
 · simp[Value.cells] at hcs;obtain⟨rfl,rfl,rfl⟩:=hcs;have hlm:len≤m:=by rw[hmm];split<;>omega
   have each:∀i,i<len→∃o:SFact,W.cell? (a.add (i*14))=some (.int .i64 o.k)∧W.cell? (a.add (i*14+1))=some (.int .i64 o.an)∧W.cell? (a.add (i*14+2))=some (.int .i64 o.aq)∧W.cell? (a.add (i*14+3))=some (.int .i64 o.rg)∧W.cell? (a.add (i*14+4))=some (.int .i64 o.nd)∧W.cell? (a.add (i*14+5))=some (.int .i64 o.pt)∧W.cell? (a.add (i*14+6))=some (.int .i64 o.pr)∧W.cell? (a.add (i*14+7))=some (.int .i64 o.oc)∧W.cell? (a.add (i*14+8))=some (.int .i64 o.dp)∧W.cell? (a.add (i*14+9))=some (.int .i64 o.pa)∧W.cell? (a.add (i*14+10))=some (.int .i64 o.st)∧W.cell? (a.add (i*14+11))=some (.int .i64 o.hw)∧W.cell? (a.add (i*14+12))=some (.int .i64 o.de)∧W.cell? (a.add (i*14+13))=some (.float .f64 o.ex)∧F64 o.ex:=by
    intro i hi;obtain⟨cs',h1,h2⟩:=hall i (by omega);rw[show Tryz.prog.cellsOf 39=14 by kernel_rfl] at h1;obtain⟨_,hlen,hcell⟩:=World.cells?_some h1;obtain⟨xs,k,hk,hxy,_,hxl,hfs⟩:=DataW.trod_struct Tryz.underlying39 h2
    match xs,hxl,cs',hlen with
    | [y0,y1,y2,y3,y4,y5,y6,y7,y8,y9,y10,y11,y12],_,[v0,v1,v2,v3,v4,v5,v6,v7,v8,v9,v10,v11,v12,v13],_=>
     have g0:=hfs 0 _ rfl;have g1:=hfs 1 _ rfl;have g2:=hfs 2 _ rfl;have g3:=hfs 3 _ rfl;have g4:=hfs 4 _ rfl;have g5:=hfs 5 _ rfl;have g6:=hfs 6 _ rfl;have g7:=hfs 7 _ rfl;have g8:=hfs 8 _ rfl;have g9:=hfs 9 _ rfl;have g10:=hfs 10 _ rfl;have g11:=hfs 11 _ rfl;have g12:=hfs 12 _ rfl
     simp[show Tryz.prog.cellsOf 3=1 by kernel_rfl,show Tryz.prog.cellsOf 37=1 by kernel_rfl,show Tryz.prog.cellsOf 36=2 by kernel_rfl] at g0 g1 g2 g3 g4 g5 g6 g7 g8 g9 g10 g11 g12;obtain⟨zs,k2,hk2,_,_,hzl,hgs⟩:=DataW.trod_struct Tryz.underlying36 g1
     match zs,hzl with
     | [z0,z1],_=>
      have ga:=hgs 0 _ rfl;have gb:=hgs 1 _ rfl;simp[show Tryz.prog.cellsOf 3=1 by kernel_rfl] at ga gb;obtain⟨n0,e0,_⟩:=DataW.trod_int Tryz.underlying3 g0;obtain⟨n1,e1,_⟩:=DataW.trod_int Tryz.underlying3 ga;obtain⟨n2,e2,_⟩:=DataW.trod_int Tryz.underlying3 gb;obtain⟨n3,e3,_⟩:=DataW.trod_int Tryz.underlying3 g2;obtain⟨n4,e4,_⟩:=DataW.trod_int Tryz.underlying3 g3
      obtain⟨n5,e5,_⟩:=DataW.trod_int Tryz.underlying3 g4;obtain⟨n6,e6,_⟩:=DataW.trod_int Tryz.underlying3 g5;obtain⟨n7,e7,_⟩:=DataW.trod_int Tryz.underlying3 g6;obtain⟨n8,e8,_⟩:=DataW.trod_int Tryz.underlying3 g7;obtain⟨n9,e9,_⟩:=DataW.trod_int Tryz.underlying3 g8;obtain⟨n10,e10,_⟩:=DataW.trod_int Tryz.underlying3 g9;obtain⟨n11,e11,_⟩:=DataW.trod_int Tryz.underlying3 g10
      obtain⟨n12,e12,_⟩:=DataW.trod_int Tryz.underlying3 g11;obtain⟨n13,e13,hf13⟩:=trod_f64 Tryz.underlying37 g12;simp only[List.cons.injEq,and_true] at e0;simp only[List.cons.injEq,and_true] at e1;simp only[List.cons.injEq,and_true] at e2;simp only[List.cons.injEq,and_true] at e3;simp only[List.cons.injEq,and_true] at e4;simp only[List.cons.injEq,and_true] at e5
      simp only[List.cons.injEq,and_true] at e6;simp only[List.cons.injEq,and_true] at e7;simp only[List.cons.injEq,and_true] at e8;simp only[List.cons.injEq,and_true] at e9;simp only[List.cons.injEq,and_true] at e10;simp only[List.cons.injEq,and_true] at e11;simp only[List.cons.injEq,and_true] at e12
      (try simp only[List.cons.injEq,and_true] at e13)
      subst e0 e1 e2 e3 e4 e5 e6 e7 e8 e9 e10 e11 e12 e13;have c0:=hcell 0 (by omega);have c1:=hcell 1 (by omega);have c2:=hcell 2 (by omega);have c3:=hcell 3 (by omega);have c4:=hcell 4 (by omega);have c5:=hcell 5 (by omega);have c6:=hcell 6 (by omega);have c7:=hcell 7 (by omega);have c8:=hcell 8 (by omega);have c9:=hcell 9 (by omega);have c10:=hcell 10 (by omega);have c11:=hcell 11 (by omega)
      have c12:=hcell 12 (by omega);have c13:=hcell 13 (by omega);rw[add_add] at c0 c1 c2 c3 c4 c5 c6 c7 c8 c9 c10 c11 c12 c13
      exact⟨⟨n0,n1,n2,n3,n4,n5,n6,n7,n8,n9,n10,n11,n12,n13⟩,by simpa using c0,by simpa using c1,by simpa using c2,by simpa using c3,by simpa using c4,by simpa using c5,by simpa using c6,by simpa using c7,by simpa using c8,by simpa using c9,by simpa using c10,by simpa using c11,by simpa using c12,by simpa using c13,hf13⟩
   obtain⟨fs,hlen,hc⟩:=fact_list_of len each;subst hlen;refine⟨fs,⟨some a,cap,rfl,fun hne=> ?_⟩,fun f hf=> ?_⟩
   · have h0:0<fs.length:=List.length_pos_iff.2 hne;have hs0:a.spot=none:=by simpa[Addr.add] using World.cell?_spot (hc 0 h0).1
     obtain⟨b,off,spot⟩:=a;have hsp:spot=none:=hs0;subst hsp;have hlt:=World.block_lt_of_cell? W _ (hc 0 h0).1;refine⟨b,off,rfl,by simpa[Addr.add] using hlt,fun i hi=> ?_⟩;obtain⟨c0,c1,c2,c3,c4,c5,c6,c7,c8,c9,c10,c11,c12,c13,_⟩:=hc i hi;simp only[Addr.add_lit] at c0 c1 c2 c3 c4 c5 c6 c7 c8 c9 c10 c11 c12 c13;exact⟨c0,c1,c2,c3,c4,c5,c6,c7,c8,c9,c10,c11,c12,c13⟩
   · obtain⟨j,hj,rfl⟩:=List.getElem_of_mem hf;exact(hc j hj).2.2.2.2.2.2.2.2.2.2.2.2.2.2
open Go.ChangeShapes Go.WideShapes Go.ChangeAt Go.WideMaps Go.WideElems Go.RowKit
theorem Tryz.own:ownKnob Tryz.prog.godebug=none:=by kernel_rfl
theorem Tryz.laidOut:laidOutB Tryz.prog=true:=by kernel_rfl
theorem starE : "*" ++ "errors.errorString" = "*errors.errorString" := by decide
theorem rowE (u : TypeId) (h : Tryz.prog.typeName? 3 u = some "*errors.errorString") : u = 387 :=
 typeName_ptr_named (nm := "errors.errorString") (by rw [starE]; kernel_rfl) (by kernel_rfl) (by decide) u (by rw [starE]; exact h)
theorem cellsE:Tryz.prog.cellsOf 410=1:=by kernel_rfl
theorem cellsS:Tryz.prog.cellsOf 9=1:=by kernel_rfl
structure LaidE where
 num:Int
 name:String
 g:Nat
 text:List UInt8
def LaidE.datum (x : LaidE) : String × DataW Unit := (x.name, .iface "*errors.errorString" (.ptr (.agg [.lit (.string x.text)])))
def LaidE.ok (x:LaidE):Prop:=Tryz.prog.globalNamed x.name=some x.g∧(Tryz.prog.globals[x.g]?).map (·.type)=some 26
theorem sentinels {W : World} : ∀ (L : List LaidE) (ps : List MemPlace), (L.map (·.num)).Nodup → (∀ x ∈ L, x.ok) → DataW.LaidVars Tryz.prog W (L.map LaidE.datum) ps → ps.Nodup →
    (∀b off,MemPlace.cell b off∈ps→(∃c t,W.heap[b]? =some (.cells c t (0,0)))∧∀u v,W.cell? ⟨b,off,none⟩=some (.iface u v)→Value.okWide Tryz.prog W .any 0 u v)→
    ∃ea:Int→Addr,(∀x∈L,ErrIs W x.g (ea x.num)∧MemPlace.cell (ea x.num).block (ea x.num).off∈ps)∧(∀x∈L,∀y∈L,ea x.num=ea y.num→x.num=y.num):=by
 intro L
 induction L with
 | nil=>intro ps _ _ _ _ _;exact⟨fun _=>⟨0,0,none⟩,fun x hx=>by simp at hx,fun x hx=>by simp at hx⟩
 | cons x L ih=>
  intro ps hnum hok h hnd hrows;obtain⟨g0,t0,cs0,f0,p0,q0,hg0,ht0,hv0,hd0,hrest,e0⟩:=h;have hx:=hok x (by simp);obtain rfl:=Option.some.inj (hx.1.symm.trans hg0);obtain rfl:=Option.some.inj (hx.2.symm.trans ht0);subst e0;obtain⟨l0⟩:=cs0;have ok0:∀u v,l0=[.iface u v]→Value.okWide Tryz.prog W .any 0 u v:=fun u v e=>by
   subst e;exact(hrows x.g 0 (by simp[MemPlace.row])).2 u v (by simpa using World.var?_cell hg0 hv0 0)
  obtain⟨a0,s0,rfl,hc0,hs0,hz0,rfl⟩:=errorString_of_trod Tryz.underlying26 rowE Tryz.underlying387 Tryz.underlying410 rfl rfl Tryz.underlying9 cellsE cellsS hd0 ok0;have hn2:=List.nodup_append.1 hnd;obtain⟨ea,h1,h2⟩:=ih q0 (by simpa using(List.nodup_cons.1 hnum).2) (fun y hy=>hok y (by simp[hy])) hrest hn2.2.1 (fun b off hb=>hrows b off (by simp[hb]))
  have hne:∀y∈L,y.num≠x.num:=fun y hy he=>(List.nodup_cons.1 hnum).1 (by
    have:=List.mem_map_of_mem (f:=LaidE.num) hy;rw[he] at this;exact this)
  have hin:MemPlace.cell a0.block a0.off∈MemPlace.row ⟨x.g,0,none⟩ #[Value.iface 387 (.pointer (some a0))].size ++MemPlace.row a0 1:=by simp[MemPlace.row]
  have hcx:ErrIs W x.g a0:=by
   have:=World.var?_cell hg0 hv0 0;simpa[ErrIs] using this
  refine⟨fun m=>if m=x.num then a0 else ea m,fun y hy=> ?_,fun y hy z hz he=> ?_⟩
  · rcases List.mem_cons.1 hy with e | hy'
    · subst e;simp only[if_true];exact⟨hcx,List.mem_append_left _ hin⟩
    · simp only[if_neg (hne y hy')];exact⟨(h1 y hy').1,List.mem_append_right _ (h1 y hy').2⟩
  · rcases List.mem_cons.1 hy with e | hy'<;>rcases List.mem_cons.1 hz with e' | hz'
    · rw[e,e']
    · simp only[e,if_true,if_neg (hne z hz')] at he;have hz2:=(h1 z hz').2;rw[←he] at hz2;exact absurd rfl (hn2.2.2 _ hin _ hz2)
    · simp only[e',if_true,if_neg (hne y hy')] at he;have hy2:=(h1 y hy').2;rw[he] at hy2;exact absurd rfl (hn2.2.2 _ hin _ hy2)
    · simp only[if_neg (hne y hy'),if_neg (hne z hz')] at he;exact h2 y hy' z hz' he
section frame
variable {H:Type} {enc:TypeId×Value→H}
theorem trodAll_below {W W' : World} (hb : Below W.heap.size W W') : ∀ (ts : List TypeId) (vs : List Value) (ds : List (DataW H)) (ps : List MemPlace), (∀ t ∈ ts, Tryz.prog.readableRec t = true ∧ t < Tryz.prog.types.size) →
    DataW.TrodAll enc Tryz.prog W 0 (fun _=>true) true ts vs ds ps→(∀x∈ps,x.block<W.heap.size)→DataW.TrodAll enc Tryz.prog W' 0 (fun b=>decide (b<W.heap.size)) true ts vs ds ps:=by
 intro ts
 induction ts with
 | nil=>
  intro vs ds ps _ h _;obtain⟨rfl,rfl,rfl⟩:=trodAll_nil h;exact trodAll_mk0
 | cons t ts ih=>
  intro vs ds ps hts h hlt;obtain⟨v,vs',d,ds',p,q,rfl,rfl,rfl,hd,hrest⟩:=trodAll_cons h;have h1:=Below.trod Tryz.laidOut (hts t (by simp)).1 (hts t (by simp)).2 hd hb (fun x hx=>hlt x (by simp[hx]));exact trodAll_cons_mk h1 (ih vs' ds' q (fun u hu=>hts u (by simp[hu])) hrest (fun x hx=>hlt x (by simp[hx])))
theorem trodAll_len {W:World} {base:Nat} {sp:Nat→Bool} {held:Bool}:∀{ts:List TypeId} {vs:List Value} {ds:List (DataW H)} {ps:List MemPlace},DataW.TrodAll enc Tryz.prog W base sp held ts vs ds ps→ds.length=ts.length:=by
 intro ts
 induction ts with
 | nil=>
  intro vs ds ps h;obtain⟨rfl,rfl,rfl⟩:=trodAll_nil h;rfl
 | cons t ts ih=>
  intro vs ds ps h;obtain⟨v,vs',d,ds',p,q,rfl,rfl,rfl,hd,hrest⟩:=trodAll_cons h;simp[ih hrest]
theorem frame_post {fn : Func} {s : ChangeSpec} {W W' : World} {args : Array Value} {ds gs : List (DataW H)} {before : List MemPlace}
    (hts:∀t∈fn.params.toList,Tryz.prog.readableRec t=true∧t<Tryz.prog.types.size) (hres:fn.resultTypes= #[4]) (hvars:s.vars=[])
    (hspec:∀ds:List (DataW H),ds.length=fn.params.toList.length→(s.fn H ds).results=[.lit (.bool true)]∧(s.fn H ds).args=ds∧(s.fn H ds).vars=[])
    (hW:DataW.Whole enc Tryz.prog fn.params.toList s.vars false W args.toList ds gs before) (hb:Below W.heap.size W W'):
    s.post enc Tryz.prog fn false true false false W args (.bool true) W':=by
 have hW':=hW;have hlt:=hW.lt;obtain⟨p,q,hA,hV,rfl,hfz,hnd⟩:=hW;rw[hvars] at hV;obtain⟨rfl,rfl⟩:gs=[]∧q=[]:=by
  cases gs with
  | nil=>exact⟨rfl,hV⟩
  | cons g r=>exact absurd hV (by intro h;cases h)
 have hlen:ds.length=fn.params.toList.length:=trodAll_len hA;obtain⟨e1,e2,e3⟩:=hspec ds hlen;refine⟨ds,[],p ++ [],[],p,[],hW',?_,?_,?_,hb.frame _,fun h=>by cases h⟩
 · rw[List.append_nil,e1,hres];exact trodAll_mk1 (shut_bool Tryz.underlying4 true)
 · rw[List.append_nil,e2];exact trodAll_below hb _ _ _ _ hts hA (fun x hx=>hlt x (by simp[hx]))
 · rw[List.append_nil,e3,hvars];rfl
end frame
def err1 : LaidE := ⟨1, "liaison/api.ErrRange", 0, [108, 105, 97, 105, 115, 111, 110, 58, 32, 114, 97, 110, 103, 101]⟩
theorem ok_err1:err1.ok:=⟨by kernel_rfl,by kernel_rfl⟩
def err2 : LaidE := ⟨2, "liaison/api.ErrShort", 1, [108, 105, 97, 105, 115, 111, 110, 58, 32, 115, 104, 111, 114, 116]⟩
theorem ok_err2:err2.ok:=⟨by kernel_rfl,by kernel_rfl⟩
def err3 : LaidE := ⟨3, "liaison/api.ErrLong", 2, [108, 105, 97, 105, 115, 111, 110, 58, 32, 108, 111, 110, 103]⟩
theorem ok_err3:err3.ok:=⟨by kernel_rfl,by kernel_rfl⟩
def err4 : LaidE := ⟨4, "liaison/api.ErrForm", 3, [108, 105, 97, 105, 115, 111, 110, 58, 32, 102, 111, 114, 109]⟩
theorem ok_err4:err4.ok:=⟨by kernel_rfl,by kernel_rfl⟩
def err5 : LaidE := ⟨5, "liaison/api.ErrCheck", 4, [108, 105, 97, 105, 115, 111, 110, 58, 32, 99, 104, 101, 99, 107]⟩
theorem ok_err5:err5.ok:=⟨by kernel_rfl,by kernel_rfl⟩
def err6 : LaidE := ⟨6, "liaison/api.ErrFull", 5, [108, 105, 97, 105, 115, 111, 110, 58, 32, 102, 117, 108, 108]⟩
theorem ok_err6:err6.ok:=⟨by kernel_rfl,by kernel_rfl⟩
def err7 : LaidE := ⟨7, "liaison/api.ErrPower", 6, [108, 105, 97, 105, 115, 111, 110, 58, 32, 112, 111, 119, 101, 114]⟩
theorem ok_err7:err7.ok:=⟨by kernel_rfl,by kernel_rfl⟩
def err8 : LaidE := ⟨8, "liaison/api.ErrNone", 7, [108, 105, 97, 105, 115, 111, 110, 58, 32, 110, 111, 110, 101]⟩
theorem ok_err8:err8.ok:=⟨by kernel_rfl,by kernel_rfl⟩
def err9 : LaidE := ⟨9, "liaison/api.ErrState", 8, [108, 105, 97, 105, 115, 111, 110, 58, 32, 115, 116, 97, 116, 101]⟩
theorem ok_err9:err9.ok:=⟨by kernel_rfl,by kernel_rfl⟩
def err10 : LaidE := ⟨10, "liaison/api.ErrTwice", 9, [108, 105, 97, 105, 115, 111, 110, 58, 32, 116, 119, 105, 99, 101]⟩
theorem ok_err10:err10.ok:=⟨by kernel_rfl,by kernel_rfl⟩
def err11 : LaidE := ⟨11, "liaison/api.ErrDepth", 10, [108, 105, 97, 105, 115, 111, 110, 58, 32, 100, 101, 112, 116, 104]⟩
theorem ok_err11:err11.ok:=⟨by kernel_rfl,by kernel_rfl⟩
def err12 : LaidE := ⟨12, "liaison/api.ErrExpired", 11, [108, 105, 97, 105, 115, 111, 110, 58, 32, 101, 120, 112, 105, 114, 101, 100]⟩
theorem ok_err12:err12.ok:=⟨by kernel_rfl,by kernel_rfl⟩
def err13 : LaidE := ⟨13, "liaison/api.ErrPanic", 12, [108, 105, 97, 105, 115, 111, 110, 58, 32, 112, 97, 110, 105, 99]⟩
theorem ok_err13:err13.ok:=⟨by kernel_rfl,by kernel_rfl⟩
def err14 : LaidE := ⟨14, "liaison/api.ErrProtocol", 13, [108, 105, 97, 105, 115, 111, 110, 58, 32, 112, 114, 111, 116, 111, 99, 111, 108]⟩
theorem ok_err14:err14.ok:=⟨by kernel_rfl,by kernel_rfl⟩
def errs14:List LaidE:=[err1,err2,err3,err4,err5,err6,err7,err8,err9,err10,err11,err12,err13,err14]
theorem num14 (i:Int) (h1:1≤i) (h2:i≤14):∃x∈errs14,x.num=i:=by
 obtain⟨n,rfl⟩:=nat14 ⟨h1,h2⟩;have h0:n≠0:=fun h=>by rw[h] at h1;exact absurd h1 (by decide)
 revert n;decide
theorem ok14:∀x∈errs14,x.ok:=by
 intro x hx;simp only[errs14,List.mem_cons,List.not_mem_nil,or_false] at hx;rcases hx with rfl | rfl | rfl | rfl | rfl | rfl | rfl | rfl | rfl | rfl | rfl | rfl | rfl | rfl
 · exact ok_err1
 · exact ok_err2
 · exact ok_err3
 · exact ok_err4
 · exact ok_err5
 · exact ok_err6
 · exact ok_err7
 · exact ok_err8
 · exact ok_err9
 · exact ok_err10
 · exact ok_err11
 · exact ok_err12
 · exact ok_err13
 · exact ok_err14
theorem errs_of_laid {W:World} {l:List (String×DataW Unit)} (hl:l=errs14.map LaidE.datum) (h:laidMetH Tryz.prog l W):∃ea,Errs ea W:=by
 rw[MakeChecks.laidMetH_plain _ _ _ (by rw[hl];rfl)] at h;obtain⟨ps,h,hnd,hrows⟩:=h;rw[hl] at h;obtain⟨ea,h1,h2⟩:=sentinels errs14 ps (by decide) ok14 h hnd hrows;have hm:∀i:Int,1≤i→i≤14→∃x∈errs14,x.num=i:=num14
 refine⟨ea,(h1 err1 (by simp[errs14])).1,(h1 err2 (by simp[errs14])).1,(h1 err3 (by simp[errs14])).1,(h1 err4 (by simp[errs14])).1,(h1 err5 (by simp[errs14])).1,(h1 err6 (by simp[errs14])).1,(h1 err7 (by simp[errs14])).1,(h1 err8 (by simp[errs14])).1,(h1 err9 (by simp[errs14])).1,(h1 err10 (by simp[errs14])).1,(h1 err11 (by simp[errs14])).1,(h1 err12 (by simp[errs14])).1,(h1 err13 (by simp[errs14])).1,(h1 err14 (by simp[errs14])).1,?_,?_⟩
 · intro i j a b c d he;obtain⟨x,hx,rfl⟩:=hm i a b;obtain⟨y,hy,rfl⟩:=hm j c d;exact h2 x hx y hy he
 · intro i a b;obtain⟨x,hx,rfl⟩:=hm i a b;exact(hrows _ _ (h1 x hx).2).1
section wrap
variable {H:Type} {enc:TypeId×Value→H}
theorem handed_and_shaped {a : Assume} {C : Checked} {os : Os} {f : FuncId} {fn : Func} {s : ChangeSpec} {conds : List PathCond} {apart fresh handsOn again : Bool} {X : World → Array Value → Prop}
    (hX:∀(w w':World) (args:Array Value),w.heap=w'.heap→X w args→X w' args)
    (own:ownKnob C.prog.godebug=none) (started:os.Started) (noInit:C.prog.inits.idxOf? f=none) (hfn:C.prog.funcs[f]? =some fn)
    (witness:∃(w:World) (tape:Tape) (i:Input),w.os=os∧(w.forCall tape i).Shaped C.prog∧i.vars=[]∧Input.okWide C.prog (w.forCall tape i) .any w.heap.size f i∧
      ((s.pre enc C.prog fn conds apart (w.forCall tape i).memory i.args∧X (w.forCall tape i).memory i.args)∧sizedMet enc C.prog fn (OpenSpec.ofChange s) apart (w.forCall tape i).memory i.args)∧a.holds C.prog (lone (Frame.enter C.prog f i.args .normal) [] (w.forCall tape i)))
    (contract:∀(W:World) (base:Nat) (args:Array Value) (ds gs:List (DataW H)) (before:List MemPlace),
      (∀(j:Nat) t v,fn.params[j]? =some t→args[j]? =some v→Value.okWide C.prog W .any base t v)→
      DataW.Whole enc C.prog fn.params.toList s.vars apart W args.toList ds gs before→
      conds.all (PathCond.test C.prog ⟨fn.params.toList,ds,s.plain.varTypes C.prog,gs⟩)=true→
      (DataW.weightsEach C.prog (fn.params.toList ++s.plain.varTypes C.prog) (ds ++gs)).all (·≤reachBytes)=true→X W args→W.ShapedOpen C.prog→
      a.holds C.prog (lone (Frame.enter C.prog f args .normal) [] W)→
      Calls C.prog f args W fun e W'=>∃v,e=.returned v∧s.post enc C.prog fn apart fresh handsOn again W args v W'):
    ReturnsInHanded a C os f .any (fun w args=>(s.pre enc C.prog fn conds apart w args∧X w args)∧sizedMet enc C.prog fn (OpenSpec.ofChange s) apart w args) (s.post enc C.prog fn apart fresh handsOn again):=by
 refine returnsInHanded_of_calls own started noInit witness ?_;intro w tape i _ hsh _ hok hpre hholds;obtain⟨_,_,_,fn',hfn',_,_,_,_,hval⟩:=hok;have e:fn'=fn:=Option.some.inj (hfn'.symm.trans hfn);subst e;obtain⟨⟨⟨ds,gs,before,hw,hc⟩,hx⟩,hz⟩:=hpre;have hw':=DataW.Whole.of_heap (w':=w.forCall tape i) (by rfl) hw
 refine(contract (w.forCall tape i) w.heap.size i.args ds gs before hval hw' hc (hz.weights hw) (hX _ _ _ (by rfl) hx) hsh hholds).mono fun e W' ⟨v,he,hp⟩=> ?_
 subst he;exact ChangeSpec.post_blind hp
end wrap
theorem laidVars_parts {P:Program} {W:World}:∀(A B:List (String×DataW Unit)) (ps:List MemPlace),DataW.LaidVars P W (A ++B) ps→∃p q,ps=p ++q∧DataW.LaidVars P W A p∧DataW.LaidVars P W B q
 | [],_,ps,h=>⟨[],ps,rfl,rfl,h⟩
 | (n,d)::A,B,ps,h=>by
  obtain⟨g0,t0,cs0,f0,p0,q0,hg0,ht0,hv0,hd0,hrest,e0⟩:=h;obtain⟨p,q,rfl,h1,h2⟩:=laidVars_parts A B q0 hrest;exact⟨MemPlace.row ⟨g0,0,none⟩ cs0.size ++p0 ++p,q,by rw[e0];simp[List.append_assoc],⟨g0,t0,cs0,f0,p0,p,hg0,ht0,hv0,hd0,h1,rfl⟩,h2⟩
theorem laidMet_parts {P:Program} {W:World} {A B:List (String×DataW Unit)} (h:laidMet P (A ++B) W):laidMet P A W∧laidMet P B W:=by
 obtain⟨ps,h,hnd,hrows⟩:=h;obtain⟨p,q,rfl,h1,h2⟩:=laidVars_parts A B ps h;have hn:=List.nodup_append.1 hnd;exact⟨⟨p,h1,hn.1,fun b off hb=>hrows b off (List.mem_append_left _ hb)⟩,⟨q,h2,hn.2.1,fun b off hb=>hrows b off (List.mem_append_right _ hb)⟩⟩
theorem pow10_dataS:(Lib.tabData .u64 Lib.pow10Tab:DataW Unit)=Rows.laid_internal_strconv_uint64pow10:=by kernel_rfl
theorem errsS_of_met {W:World} (h:laidMet Tryz.prog (errs14.map LaidE.datum) W):∃ea,Errs ea W:=
 errs_of_laid rfl (by rw[MakeChecks.laidMetH_plain _ _ _ (by rfl)];exact h)
theorem envS_of_laid {W : World} {A : List (String × DataW Unit)} {B : List (String × DataW Unit)} {l : List (String × DataW Unit)}
    (hl : l = A ++ (("internal/strconv.uint64pow10", Lib.tabData .u64 Lib.pow10Tab) :: B) ∧ ∃ D, B = errs14.map LaidE.datum ++ D) (hp : (l.all fun x => x.2.handleName?.isNone) = true) (h : laidMetH Tryz.prog l W) : ∃ ea, EnvS ea W := by
 rw[MakeChecks.laidMetH_plain _ _ _ hp] at h;obtain⟨rfl,D,rfl⟩:=hl;have h2:=(laidMet_parts h).2
 have h3 := (laidMet_parts (A := [("internal/strconv.uint64pow10", Lib.tabData .u64 Lib.pow10Tab)]) (B := errs14.map LaidE.datum ++ D) h2).2
 have h4:=(laidMet_parts h3).1;obtain⟨ea,he⟩:=errsS_of_met h4;exact⟨ea,he,Lib.tabIs_of_head (g:=15) (t:=380) (e:=202) (n:=20) (by kernel_rfl) (by kernel_rfl) Tryz.underlying380 Tryz.underlying202 (by kernel_rfl) (by kernel_rfl) h2⟩
theorem open_direct {H:Type} {enc:TypeId×Value→H} {W:World} {v:Value} {r:Reach} {b0:Nat} {d:DataW H} {p:List MemPlace} {sp:Nat→Bool} (hv:Value.okWide Tryz.prog W r b0 132 v) (h:DataW.Trod enc Tryz.prog W 0 sp true 132 v d p):∃(n0:Int) (n1:Int) (n2:Int) (n3:Int) (x4:Nat),v=.agg #[n0,n1,n2,n3,.float .f64 x4]∧F64 x4:=by
 obtain⟨cs,rfl,hsz⟩:=okWide_struct Tryz.underlying132 hv;obtain⟨l⟩:=cs
 match l,hsz.trans (show Tryz.prog.cellsOf 132=5 by kernel_rfl) with
 | [v0,v1,v2,v3,v4],_=>
  obtain⟨fuel,hf⟩:=h;obtain⟨xs0,k0,hk0,hxy0,_,hxl0,hfs0⟩:=DataW.trod_struct Tryz.underlying132 hf
  match xs0,hxl0 with
  | [y0_0,y0_1,y0_2,y0_3],_=>
   have g0_0:=hfs0 0 _ rfl;have g0_1:=hfs0 1 _ rfl;have g0_2:=hfs0 2 _ rfl;have g0_3:=hfs0 3 _ rfl;simp[Value.cells,show Tryz.prog.cellsOf 36=2 by kernel_rfl,show Tryz.prog.cellsOf 37=1 by kernel_rfl,show Tryz.prog.cellsOf 3=1 by kernel_rfl] at g0_0 g0_1 g0_2 g0_3;obtain⟨xs1,k1,hk1,hxy1,_,hxl1,hfs1⟩:=DataW.trod_struct Tryz.underlying36 g0_0
   match xs1,hxl1 with
   | [y1_0,y1_1],_=>
    have g1_0:=hfs1 0 _ rfl;have g1_1:=hfs1 1 _ rfl;simp[Value.cells,show Tryz.prog.cellsOf 3=1 by kernel_rfl] at g1_0 g1_1;obtain⟨z0,e0,_⟩:=DataW.trod_int Tryz.underlying3 g1_0
    (try simp only[List.cons.injEq,and_true] at e0)
    obtain⟨z1,e1,_⟩:=DataW.trod_int Tryz.underlying3 g1_1
    (try simp only[List.cons.injEq,and_true] at e1)
    obtain⟨z2,e2,_⟩:=DataW.trod_int Tryz.underlying3 g0_1
    (try simp only[List.cons.injEq,and_true] at e2)
    obtain⟨z3,e3,_⟩:=DataW.trod_int Tryz.underlying3 g0_2
    (try simp only[List.cons.injEq,and_true] at e3)
    obtain⟨z4,e4,w4⟩:=trod_f64 Tryz.underlying37 g0_3
    (try simp only[List.cons.injEq,and_true] at e4)
    subst e0 e1 e2 e3 e4;exact⟨z0,z1,z2,z3,z4,rfl,w4⟩
theorem leadDirects_laid {l:List (String×DataW Unit)} (hl:l=Rows.leadDirectsRow.laid) {W:World} (h:laidMetH Tryz.prog l W):∃ea,EnvS ea W:=by
 subst hl;exact envS_of_laid (A:=Rows.leadDirectsRow.laid.take 2) (B:=Rows.leadDirectsRow.laid.drop 3) ⟨by rw[pow10_dataS];rfl,Rows.leadDirectsRow.laid.drop 17,rfl⟩ (by kernel_rfl) h
theorem leadDirects_lifted (os : Os) (started : os.Started) (H : Type) (enc : TypeId × Value → H) :
    ReturnsInHanded {} Tryz.checked os 16 .any (fun w args=>(Rows.leadDirectsSpec.pre enc Tryz.prog Tryz.f16 [] false w args∧laidMetH Tryz.prog Rows.leadDirectsRow.laid w)∧sizedMet enc Tryz.prog Tryz.f16 (OpenSpec.ofChange Rows.leadDirectsSpec) false w args)
     (Rows.leadDirectsSpec.post enc Tryz.prog Tryz.f16 false true false false):=by
 refine handed_and_shaped (C:=Tryz.checked) (X:=fun w _=>laidMetH Tryz.prog Rows.leadDirectsRow.laid w) (fun _ _ _ hh h=>h.of_heap hh) Tryz.own started (by kernel_rfl) Tryz.func16
  (ChangeSpec.witness_shaped (enc:=enc) (C:=Tryz.checked) (os:=os) (X:=fun w _=>laidMetH Tryz.prog Rows.leadDirectsRow.laid w) false (World.laidAll Tryz.prog os Rows.leadDirectsRow.laid) #[.int .i64 0,.slice none 0 0,.agg #[.int .i64 0,.int .i64 0,.int .i64 0,.int .i64 0,.float .f64 0]] 8 (World.laidAll_os _ _ _) (World.shaped_of_ZipB (by kernel_rfl) (by kernel_rfl)) (by kernel_rfl) (by kernel_rfl) (by kernel_rfl)
    (by rw[MakeChecks.laidMetH_plain _ _ _ (by kernel_rfl)];exact laidMet_laidAll _ (by kernel_rfl) (by kernel_rfl))) ?_
 intro W base args ds gs before hval0 hW _ hsz hL hshape _;have hval:∀(j:Nat) t v,Tryz.f16.params[j]? =some t→args[j]? =some v→Value.okWide Tryz.prog W .any base t v:=hval0;have hpost:∀W',Below W.heap.size W W'→Rows.leadDirectsSpec.post enc Tryz.prog Tryz.f16 false true false false W args (.bool true) W':=fun W' hb=>
  frame_post (by rw[Tryz.params16];decide+kernel) rfl rfl (fun ds h=>by rw[Tryz.params16] at h;match ds,h with | [d0,d1,d2],_=>exact⟨rfl,rfl,rfl⟩) hW hb
 obtain⟨p,q,hA0,hV,rfl,hfz,hnd⟩:=hW;have hA:DataW.TrodAll enc Tryz.prog W 0 (fun _=>true) true Tryz.f16.params.toList args.toList ds p:=hA0;rw[Tryz.params16] at hA hval;obtain⟨v0,v1,v2,d0,d1,d2,p0,p1,p2,rfl,rfl,rfl,h0,h1,h2⟩:=trodAll_three hA;obtain⟨x,rfl,_,_,wx⟩:=open_int Tryz.underlying3 (hval 0 _ v0 rfl rfl) h0;obtain⟨a1,n1,c1,rfl⟩:=okWide_slice Tryz.underlying22 (hval 1 _ v1 rfl rfl)
 obtain⟨fs,hR,hF⟩:=open_facts h1;obtain⟨na,qa,rg,k,now,rfl,hn⟩:=open_direct (hval 2 _ v2 rfl rfl) h2;obtain⟨ea,hE⟩:=(leadDirects_laid rfl hL)
 exact(law_ldir x _ fs na qa rg k now ea W hE hR hF hn).mono fun e W' ⟨he,hb⟩=>⟨_,he,hpost W' hb⟩
theorem js_laid:laidOutB Tryz.pinned.checked.prog=true:=by kernel_rfl
theorem js_maps:mapsRowed Tryz.pinned.checked.prog=true:=by kernel_rfl
theorem js_heard:Tryz.pinned.checked.prog.stopsHeard=true:=by kernel_rfl
theorem js_enter:Tryz.pinned.checked.prog.mayEnter=true:=by kernel_rfl
theorem js_plain:(Rows.partnerOnceRow.plainKeys==Tryz.pinned.checked.prog.plainKeys)=true:=by kernel_rfl
theorem js_lift:(Rows.partnerOnceRow.lifted==Tryz.pinned.checked.prog.liftsFinal)=true:=by kernel_rfl
theorem js_make:(Tryz.pinned.checked.prog.make==some Rows.partnerOnceRow.make)=true:=by kernel_rfl
theorem leadDirects_joined:joinedFacts Tryz.pinned.checked.prog 16 Tryz.f16 Rows.leadDirectsSpec Rows.leadDirectsRow=true:=by
 unfold joinedFacts;simp only[Bool.and_eq_true]
 repeat' apply And.intro
 · as_aux_lemma=>kernel_rfl
 · exact js_laid
 · exact js_maps
 · as_aux_lemma=>kernel_rfl
 · as_aux_lemma=>kernel_rfl
 · as_aux_lemma=>kernel_rfl
 · as_aux_lemma=>kernel_rfl
 · as_aux_lemma=>kernel_rfl
 · as_aux_lemma=>kernel_rfl
 · as_aux_lemma=>kernel_rfl
 · as_aux_lemma=>kernel_rfl
 · as_aux_lemma=>kernel_rfl
 · as_aux_lemma=>kernel_rfl
 · as_aux_lemma=>kernel_rfl
 · as_aux_lemma=>kernel_rfl
 · as_aux_lemma=>kernel_rfl
 · as_aux_lemma=>kernel_rfl
 · as_aux_lemma=>kernel_rfl
 · as_aux_lemma=>kernel_rfl
 · as_aux_lemma=>kernel_rfl
 · as_aux_lemma=>kernel_rfl
 · as_aux_lemma=>kernel_rfl
 · exact js_plain
 · as_aux_lemma=>kernel_rfl
 · exact js_heard
 · exact js_enter
 · exact js_lift
 · exact js_make
 · as_aux_lemma=>kernel_rfl
 · as_aux_lemma=>kernel_rfl
 · as_aux_lemma=>kernel_rfl
 · as_aux_lemma=>kernel_rfl
end Go.Proofs.YtlkajejbfojkeaaGreatDoor
