/- LwVDec, LwVDec2, LwVDecW, VerdictDecidesL, VerdictDecidesJ -/
import Derived.Test.YtlkajejbfojkeaaGreatDoorPRstEToJoinS
import Derived.Lay
set_option linter.unusedSimpArgs false
set_option linter.unusedVariables false
set_option maxRecDepth 100000
set_option maxHeartbeats 16000000
namespace Go.Proofs.YtlkajejbfojkeaaGreatDoor
open Go.RowKit
attribute [local go_sem] store_float
theorem law_vdec_none (node:Int) (v:Value) (fs:List SFact) (na qa:Int) (cl ca:Bool) (ea:Int→Addr) (w:World) (hE:EnvS ea w) (hR:ReadFacts w v fs) (hF:∀f∈fs,F64 f.ex) (hg:lGet (splay node fs) na qa=none):Calls Tryz.prog 12 #[.int .i64 node,v,.agg #[na,qa,.bool cl,.bool ca]] w (Makes (.bool true) w):=by
 obtain⟨av,cap,rfl,hrow⟩:=hR;have hR':∀W,Below w.heap.size w W→ReadFacts W (.slice av fs.length cap) fs:=fun W hW=>⟨av,cap,rfl,fun hn=>by
   obtain⟨b,off,rfl,hb,hf⟩:=hrow hn;exact⟨b,off,rfl,Nat.lt_of_lt_of_le hb hW.size,fun j hj=>(hf j hj).below hW hb⟩⟩
 have HE:=qq hE;have HAL:=qq (fun W (hW:Below w.heap.size w W)=>alive18 W);have HBN:=qq (fun W (hW:Below w.heap.size w W) h=>built18_no node _ fs ea W (hE.below hW) (hR' W hW) h);have HBY:=qq (fun W (hW:Below w.heap.size w W) h1 h2=>built18_yes node _ fs ea W (hE.below hW) (hR' W hW) hF h1 h2);have HGD:=qq (fun h=>splay_good (node:=node) h fs);obtain⟨n,hn⟩:∃n,n=fs.length:=⟨_,rfl⟩
 obtain⟨S,hS⟩:∃S,S=splay node fs:=⟨_,rfl⟩
 rw[←hn] at HBN HBY⊢;rw[←hS] at HBY HGD;rw[←hS] at hg;have HCa:=qq (fun L W h1 h2 h3=>vcarry_of L S na qa ea W h1 h2 h3);have HFd:=qq (fun R W h1 (h2:StoGood S)=>rfind_of R S na qa W h1 h2.acts);have HDe:=qq (fun L W h1 h2 h3=>vdecide_of L S na qa cl ea W h1 h2 h3);have HRe:=qq (fun R W h1 h2=>rdecide18_of R S na qa cl W h1 h2);have HDu:=qq (fun L W h1 h2=>vdue_of L S W h1 h2)
 have HRu:=qq (fun R W h1 h2=>rdue18_of R S W h1 h2);have hr1:vCarry S na qa=res0:=by unfold vCarry;rw[hg]
 have HEX1:=qq (show ∀f∈([]:List SFact),F64 f.ex from fun f hf=>by cases hf);have HFT1:=qq (show sfit S ([]:List SFact)=(S,true) from rfl);rw[hr1] at HCa;rw[vget_none hg] at HFd;dsimp only[oix] at HFd;unfold ResR at HCa;dsimp only[res0,List.length_nil] at HCa;clear hr1 hg;have HFT2':=qq (fun(h:StoGood S)=>vDecide_fits h na qa cl)
 have hex2:=vDecide_ex (S:=S) (n:=na) (q:=qa) (cl:=cl);have hnm2:=vDecide_num (S:=S) (n:=na) (q:=qa) (cl:=cl);have HLN2':=qq (fun(h:StoGood S)=>vDecide_len h (n:=na) (q:=qa) (cl:=cl));obtain⟨r2,hr2⟩:∃r,r=(vDecide S na qa cl).1:=⟨_,rfl⟩
 obtain⟨en2,hen2⟩:∃r,r=(vDecide S na qa cl).2:=⟨_,rfl⟩
 obtain⟨ids,hids⟩:∃x,x=vDue S:=⟨_,rfl⟩
 rw[←hr2] at HDe HRe HFT2' hex2 HLN2';rw[←hen2] at HDe HRe hnm2;rw[←hids] at HDu HRu;have HDL:=qq (fun(h:StoGood S)=>(show ids.length≤8 by rw[hids];exact vDue_len h));have HNM2:=qq (fun W hW=>num_of en2 hnm2 ea W hW);have HEX2:=qq (show ∀f∈r2.fs,F64 f.ex by intro f hf;rw[hex2 f hf];unfold F64;decide);clear hr2 hen2 hids hex2 hnm2;obtain⟨fs2,ms2,wk2⟩:=r2;unfold DirEnds at HDe;unfold RDoEnds at HRe
 dsimp only at HDe HRe HFT2' HLN2' HEX2;have hnn2:(en2 !=en2)=false:=by simp
 clear hE hR' hrow hF hn hS;by_cases hok:(0≤node∧node≤3)∧n≤60
 case neg=>
  go_enter Tryz.func12,Tryz.ntmps12;go_wp2_with fail;refine(HAL.out _ (by go_grown)).mono ?_;rintro e w1 ⟨rfl,hb1⟩;have B1:Below w.heap.size w w1:=below_then (by go_grown) hb1;go_wp2_with fail;refine(HBN.out _ B1 hok).mono ?_;rintro e w2 ⟨rfl,hb2⟩;have B2:Below w.heap.size w w2:=below_then B1 hb2;go_wp2_with fail;go_ret;exact⟨rfl,B2⟩
 obtain⟨hnd,hln⟩:=hok;have HGS:=qq (HGD.out hnd);obtain⟨T2,hfit2⟩:=HFT2'.out HGS.out;have HFT2:=qq hfit2;have HLN2:=qq (HLN2'.out HGS.out);clear hfit2;go_enter Tryz.func12,Tryz.ntmps12;go_wp2_with fail;refine(HAL.out _ (by go_grown)).mono ?_;rintro e w1 ⟨rfl,hb1⟩;have B1:Below w.heap.size w w1:=below_then (by go_grown) hb1;have HX:=qq ((Blk.fresh w #[na,qa,.bool cl,.bool ca] 110 _ rfl).below hb1)
 clear hb1;go_wp2_with fail;refine(HBY.out _ B1 hnd hln).mono ?_;rintro e w2 ⟨L,R,rfl,hB⟩;have B2:Below w.heap.size w w2:=below_then B1 hB.be;have HNL:Hid (∀k∈L.foot,w1.heap.size≤k):=qq hB.nl;have HW1:=qq (show w1.heap.size≤w2.heap.size from hB.be.size);have HB1:=qq B1;have HB12:=qq hB.be;have HX:=qq (HX.out.below hB.be);have HL:=qq hB.st;have HR:=qq hB.rs;clear hB B1;obtain⟨lHX,qHX,fHX⟩:=HX.out
 go_wp2_with fail;clear qHX fHX lHX;refine(HCa.out L _ (HE.out.below (below_then B2 (Below.refl w2.heap.size w2))) (HL.out.below (Below.refl w2.heap.size w2)) HGS.out).mono ?_;rintro e w211 ⟨a1,c1,b1,d1,rfl,hR1,hb11⟩;have HAP1:Hid (∀k,sliceBlock (.slice a1 0 c1)=some k→k∉L.foot):=qq (fun k hk hl=>by have h1:=hR1.ff k hk;have h2:=HL.out.lt k hl;omega);have HX:=qq (HX.out.below hb11)
 have HB:=qq (below_then (Below.refl w2.heap.size w2) hb11);have z11:=HB.out.size;clear hb11;have HF1:=qq (show ReadFacts _ (.slice a1 0 c1) ([]:List SFact) from hR1.f);have HM1:=qq (show ReadMsgs _ (.slice b1 0 d1) ([]:List SMsg) from hR1.m)
 (try clear hR1)
 have o1HX:=HX.out.lt;obtain⟨lHX,qHX,fHX⟩:=HX.out;go_wp2_with fail;clear qHX fHX lHX;refine(HFd.out R _ (HR.out.below (bel_alloc HB.out _)) HGS.out).mono ?_;rintro e w212 ⟨rfl,hb12⟩;have HX:=qq ((HX.out.alloc _).below hb12);have HF1:=qq ((HF1.out.below (by go_grown)).below hb12);have HM1:=qq ((HM1.out.below (by go_grown)).below hb12)
 have K1:=qq ((Blk.fresh _ _ _ (w211.heap.size) (by simp)).below hb12);have HB:=qq (below_then (bel_alloc HB.out _) hb12);have z12:=HB.out.size;clear hb12;have o2HX:=HX.out.lt;have o2K1:=K1.out.lt;obtain⟨lHX,qHX,fHX⟩:=HX.out;obtain⟨lK1,qK1,fK1⟩:=K1.out;go_wp2_with fail;clear qHX fHX lHX qK1 fK1 lK1
 refine reg_start (fun w'=>Blk w' _ _∧ReadFacts w' _ _∧ReadMsgs w' _ _∧Blk w' _ _∧Blk w' _ _∧Below w2.heap.size w2 w') (by kernel_rfl) ⟨(HX.out.alloc _).drew,(HF1.out.below (by go_grown)),(HM1.out.below (by go_grown)),(K1.out.alloc _).drew,(Blk.fresh _ _ _ (w212.heap.size) (by simp)).drew,(bel_drew (bel_alloc HB.out _))⟩ ?_;rintro w213 hHeld;obtain⟨HX',HF1',HM1',K1',K2',HB'⟩:=id hHeld
 have HX:=qq HX';have HF1:=qq HF1';have HM1:=qq HM1';have K1:=qq K1';have K2:=qq K2';have HB:=qq HB';clear HX' HF1' HM1' K1' K2' HB';have z13:=HB.out.size;refine takeM (d:=some 53) 0 rfl rfl hHeld (fun w' hS'=>by have qA:=hS'.2.2.2.1.cell;clear hS';go_simp;(try rfl)) ?_;simp only[puts]
 refine takeM (d:=some 55) 2 rfl rfl hHeld (fun w' hS'=>by have qA:=hS'.2.2.2.2.1.cell;clear hS';go_simp;(try rfl)) ?_;simp only[puts];refine one_M 1 (by kernel_rfl) ?_;refine wpOp_call (d:=some 54) 1 54 _ _ [.agg #[.slice a1 0 c1,.slice b1 0 d1,.int .i64 0]] rfl rfl rfl (enters_of Tryz.func54 (by kernel_rfl) rfl) (by rfl) (by rfl) ?_
 refine(told18_of a1 b1 c1 0 d1 ([]:List SFact) 0 _ HF1.out (by first | (have:=HLN1.out.1;omega) | simp)).mono ?_;rintro e w214 ⟨a1t,c1t,rfl,hft,hb14⟩;clear hHeld;have HX:=qq (HX.out.below hb14);have HF1:=qq (HF1.out.below hb14);have HM1:=qq (HM1.out.below hb14);have K1:=qq (K1.out.below hb14);have K2:=qq (K2.out.below hb14);have HB:=qq (below_then HB.out hb14);have z14:=HB.out.size;clear hb14
 have HF1t:=qq (show ReadFacts _ (.slice a1t 0 c1t) ([]:List SFact) from hft)
 (try clear hft)
 refine ret_S ⟨HX.out,HF1.out,HM1.out,K1.out,K2.out,HB.out⟩ (fun hHeld=> ?_);simp only[puts];refine one_M 3 (by kernel_rfl) ?_;refine wpOp_call (d:=some 56) 3 42 _ _ [.agg #[.slice a1t 0 c1t,.slice b1 0 d1,.int .i64 0],.agg #[.slice none 0 0,.slice none 0 0,.int .i64 0]] rfl rfl rfl (enters_of Tryz.func42 (by kernel_rfl) rfl) (by rfl) (by rfl) ?_
 refine(rsame16_self a1t none b1 none c1t 0 d1 0 ([]:List SFact) ([]:List SMsg) 0 _ HF1t.out read_nil HM1.out read_mnil HEX1.out (by first | (have:=HLN1.out.1;omega) | simp) (by first | (have:=HLN1.out.2;omega) | simp)).mono ?_;rintro e w215 ⟨rfl,hb15⟩;clear hHeld;have HX:=qq (HX.out.below hb15);have HF1:=qq (HF1.out.below hb15);have HM1:=qq (HM1.out.below hb15);have K1:=qq (K1.out.below hb15)
 have K2:=qq (K2.out.below hb15);have HF1t:=qq (HF1t.out.below hb15);have HB:=qq (below_then HB.out hb15);have z15:=HB.out.size;clear hb15;refine ret_S ⟨HX.out,HF1.out,HM1.out,K1.out,K2.out,HB.out⟩ (fun hHeld=> ?_);simp only[puts];refine takeM (d:=some 57) 4 rfl rfl hHeld (fun w' _=>by go_simp;(try rfl)) ?_;simp only[puts];refine doneM (by kernel_rfl) ?_ _;clear hHeld;obtain⟨lHX,qHX,fHX⟩:=HX.out
 obtain⟨lK1,qK1,fK1⟩:=K1.out;obtain⟨lK2,qK2,fK2⟩:=K2.out;go_wp2_with fail;clear qHX fHX lHX qK1 fK1 lK1 qK2 fK2 lK2;refine(HDu.out L _ (HL.out.below HB.out) HGS.out).mono ?_;rintro e w216 ⟨Bd3,vd3,rfl,hrd3,hb16⟩;obtain⟨a3,c3,hvd3⟩:=row_slice hrd3;subst hvd3;have HX:=qq (HX.out.below hb16);have HF1:=qq (HF1.out.below hb16);have K1:=qq (K1.out.below hb16);have HB:=qq (below_then HB.out hb16)
 have z16:=HB.out.size;clear hb16;have HD1:=qq (show ReadIds _ (.slice a3 ids.length c3) ids from read_ids hrd3)
 (try clear hrd3)
 obtain⟨lHX,qHX,fHX⟩:=HX.out;obtain⟨lK1,qK1,fK1⟩:=K1.out;go_wp2_with fail;clear qHX fHX lHX qK1 fK1 lK1;refine(HRu.out R _ (HR.out.below HB.out) HGS.out).mono ?_;rintro e w217 ⟨Bd4,vd4,rfl,hrd4,hb17⟩;obtain⟨a4,c4,hvd4⟩:=row_slice hrd4;subst hvd4;have HX:=qq (HX.out.below hb17);have HF1:=qq (HF1.out.below hb17);have K1:=qq (K1.out.below hb17);have HD1:=qq (HD1.out.below hb17)
 have HB:=qq (below_then HB.out hb17);have z17:=HB.out.size;clear hb17;have HD2:=qq (show ReadIds _ (.slice a4 ids.length c4) ids from read_ids hrd4)
 (try clear hrd4)
 obtain⟨lHX,qHX,fHX⟩:=HX.out;obtain⟨lK1,qK1,fK1⟩:=K1.out;go_wp2_with fail;clear qHX fHX lHX qK1 fK1 lK1;have HDA:=qq (show ReadIds w217 (.slice a3 ids.length c3) ids from HD1.out);have HDB:=qq (show ReadIds w217 (.slice a4 ids.length c4) ids from HD2.out);obtain⟨nd,hnd⟩:∃n,n=ids.length:=⟨_,rfl⟩
 have HND:=qq hnd;rw[←hnd];obtain⟨wl,hwl⟩:∃W,W=w217:=⟨_,rfl⟩
 rw[←hwl] at HDA HDB⊢;have HX:Hid (Blk wl w.heap.size #[na,qa,.bool cl,.bool ca]):=by rw[hwl];exact qq (HX.out)
 have HF1:=qq (show ReadFacts wl _ _ by rw[hwl];exact HF1.out);have K1:Hid (Blk wl w211.heap.size #[.slice a1 0 c1,.slice b1 0 d1,.int .i64 0]):=by rw[hwl];exact qq (K1.out)
 have HD1:=qq (show ReadIds wl _ _ by rw[hwl];exact HD1.out);have HD2:=qq (show ReadIds wl _ _ by rw[hwl];exact HD2.out);have HB:Hid (Below w2.heap.size w2 wl):=by rw[hwl];exact qq (HB.out)
 clear hwl hnd;go_loopw [69] (fun c wr=>∃k:Nat,k≤nd∧c=.int .i64 (k:Int)∧Hid (Below wl.heap.size wl wr)) (fun c _=>nd - (intOf c).toNat)
 case atStart=>exact⟨0,by omega,by first | rfl | go_num,qq (Below.refl _ _)⟩
 case round=>
  obtain⟨k,hk,rfl,HBL⟩:=hrel;have hnd8:nd≤8:=by rw[HND.out];exact HDL.out HGS.out
  by_cases hlt:k<nd
  · as_aux_lemma=>
    obtain⟨⟨x0,x1⟩,hx⟩:∃x,ids[k]? =some x:=⟨_,List.getElem?_eq_getElem (by rw[←HND.out];exact hlt)⟩
    obtain⟨_,_,hv1,hr1⟩:=HDA.out.below HBL.out;obtain⟨_,_,hv2,hr2⟩:=HDB.out.below HBL.out;simp only[Value.slice.injEq,true_and] at hv1 hv2;obtain⟨rfl,rfl⟩:=hv1;obtain⟨rfl,rfl⟩:=hv2;obtain⟨g1,rfl,hg1,p0,p1⟩:=hr1 k _ hx;obtain⟨g2,rfl,hg2,p2,p3⟩:=hr2 k _ hx;have hk0:(0:Int)≤(k:Int):=by omega
    have hk1:(k:Int)<(nd:Int):=by omega
    dsimp only at p0 p1 p2 p3;have hne:=fun W=>actNe x0 x1 W
    clear hx hr1 hr2;go_wp2_with fail;go_region;go_wp2_with fail;go_roundw
    case rel=>exact⟨k+1,hlt,by have:=hnd8;go_num,qq (bel_drew HBL.out)⟩
    case measure=>simp[intOf];omega
  as_aux_lemma=>
   obtain rfl:k=nd:=by omega
   have hb18:=HBL.out;clear HDA HDB hlt hk;obtain⟨w218,hwe⟩:∃W,W=wr:=⟨_,rfl⟩
   rw[←hwe] at hb18⊢;clear HBL hwe;have HX:=qq (HX.out.below hb18);have HF1:=qq (HF1.out.below hb18);have K1:=qq (K1.out.below hb18);have HD1:=qq (HD1.out.below hb18);have HD2:=qq (HD2.out.below hb18);have HB:=qq (below_then HB.out hb18);have z18:=HB.out.size;clear hb18;obtain⟨lHX,qHX,fHX⟩:=HX.out;obtain⟨lK1,qK1,fK1⟩:=K1.out;go_wp2_with fail;clear qHX fHX lHX qK1 fK1 lK1
   refine(HDe.out L _ (HE.out.below (below_then B2 HB.out)) (HL.out.below HB.out) HGS.out).mono ?_;rintro e w219 ⟨a2,c2,b2,d2,rfl,hR2,hb19⟩;have HAP2:Hid (∀k,sliceBlock (.slice a2 fs2.length c2)=some k→k∉L.foot):=qq (fun k hk hl=>by have h1:=hR2.ff k hk;have h2:=HL.out.lt k hl;omega);have HX:=qq (HX.out.below hb19);have HF1:=qq (HF1.out.below hb19);have K1:=qq (K1.out.below hb19)
   have HD1:=qq (HD1.out.below hb19);have HD2:=qq (HD2.out.below hb19);have HB:=qq (below_then HB.out hb19);have z19:=HB.out.size;clear hb19;have HF2:=qq (show ReadFacts _ (.slice a2 fs2.length c2) fs2 from hR2.f);have HM2:=qq (show ReadMsgs _ (.slice b2 ms2.length d2) ms2 from hR2.m)
   (try clear hR2)
   have o3HX:=HX.out.lt;have o3K1:=K1.out.lt;obtain⟨lHX,qHX,fHX⟩:=HX.out;obtain⟨lK1,qK1,fK1⟩:=K1.out;go_wp2_with fail;clear qHX fHX lHX qK1 fK1 lK1;refine(HRe.out R _ (HR.out.below (bel_alloc HB.out _)) HGS.out).mono ?_;rintro e w220 ⟨fv2,mv2,rfl,hf2,hm2,hb20⟩;have hf2:=hf2;have hm2:=hm2;obtain⟨a2r,c2r,rfl,_⟩:=hf2;obtain⟨b2r,d2r,rfl,_⟩:=hm2;have HX:=qq ((HX.out.alloc _).below hb20)
   have HF1:=qq ((HF1.out.below (by go_grown)).below hb20);have K1:=qq ((K1.out.alloc _).below hb20);have HD1:=qq ((HD1.out.below (by go_grown)).below hb20);have HD2:=qq ((HD2.out.below (by go_grown)).below hb20);have HF2:=qq ((HF2.out.below (by go_grown)).below hb20);have HM2:=qq ((HM2.out.below (by go_grown)).below hb20);have K3:=qq ((Blk.fresh _ _ _ (w219.heap.size) (by simp)).below hb20)
   have HB:=qq (below_then (bel_alloc HB.out _) hb20);have z20:=HB.out.size;clear hb20;have HF2r:=qq (show ReadFacts _ (.slice a2r fs2.length c2r) fs2 from hf2);have HM2r:=qq (show ReadMsgs _ (.slice b2r ms2.length d2r) ms2 from hm2)
   (try clear hf2 hm2)
   have o4HX:=HX.out.lt;have o4K1:=K1.out.lt;have o4K3:=K3.out.lt;obtain⟨lHX,qHX,fHX⟩:=HX.out;obtain⟨lK1,qK1,fK1⟩:=K1.out;obtain⟨lK3,qK3,fK3⟩:=K3.out;go_wp2_with fail;clear qHX fHX lHX qK1 fK1 lK1 qK3 fK3 lK3
   refine reg_start (fun w'=>Blk w' _ _∧ReadFacts w' _ _∧Blk w' _ _∧ReadIds w' _ _∧ReadIds w' _ _∧ReadFacts w' _ _∧ReadMsgs w' _ _∧Blk w' _ _∧ReadFacts w' _ _∧ReadMsgs w' _ _∧Blk w' _ _∧Below w2.heap.size w2 w') (by kernel_rfl) ⟨(HX.out.alloc _).drew,(HF1.out.below (by go_grown)),(K1.out.alloc _).drew,(HD1.out.below (by go_grown)),(HD2.out.below (by go_grown)),(HF2.out.below (by go_grown)),(HM2.out.below (by go_grown)),(K3.out.alloc _).drew,(HF2r.out.below (by go_grown)),(HM2r.out.below (by go_grown)),(Blk.fresh _ _ _ (w220.heap.size) (by simp)).drew,(bel_drew (bel_alloc HB.out _))⟩ ?_
   rintro w221 hHeld;obtain⟨HX',HF1',K1',HD1',HD2',HF2',HM2',K3',HF2r',HM2r',K4',HB'⟩:=id hHeld;have HX:=qq HX';have HF1:=qq HF1';have K1:=qq K1';have HD1:=qq HD1';have HD2:=qq HD2';have HF2:=qq HF2';have HM2:=qq HM2';have K3:=qq K3';have HF2r:=qq HF2r';have HM2r:=qq HM2r';have K4:=qq K4';have HB:=qq HB';clear HX' HF1' K1' HD1' HD2' HF2' HM2' K3' HF2r' HM2r' K4' HB';have z21:=HB.out.size
   refine takeM (d:=some 100) 0 rfl rfl hHeld (fun w' hS'=>by have qA:=hS'.2.2.2.2.2.2.2.1.cell;clear hS';go_simp;(try rfl)) ?_;simp only[puts];refine takeM (d:=some 102) 2 rfl rfl hHeld (fun w' hS'=>by have qA:=hS'.2.2.2.2.2.2.2.2.2.2.1.cell;clear hS';go_simp;(try rfl)) ?_;simp only[puts];refine one_M 1 (by kernel_rfl) ?_
   refine wpOp_call (d:=some 101) 1 54 _ _ [.agg #[.slice a2 fs2.length c2,.slice b2 ms2.length d2,wk2]] rfl rfl rfl (enters_of Tryz.func54 (by kernel_rfl) rfl) (by rfl) (by rfl) ?_;refine(told18_of a2 b2 c2 (ms2.length) d2 fs2 wk2 _ HF2.out (by first | (have:=HLN2.out.1;omega) | simp)).mono ?_;rintro e w222 ⟨a2t,c2t,rfl,hft,hb22⟩;clear hHeld;have HX:=qq (HX.out.below hb22)
   have HF1:=qq (HF1.out.below hb22);have K1:=qq (K1.out.below hb22);have HD1:=qq (HD1.out.below hb22);have HD2:=qq (HD2.out.below hb22);have HF2:=qq (HF2.out.below hb22);have HM2:=qq (HM2.out.below hb22);have K3:=qq (K3.out.below hb22);have HF2r:=qq (HF2r.out.below hb22);have HM2r:=qq (HM2r.out.below hb22);have K4:=qq (K4.out.below hb22);have HB:=qq (below_then HB.out hb22);have z22:=HB.out.size
   clear hb22;have HF2t:=qq (show ReadFacts _ (.slice a2t fs2.length c2t) fs2 from hft)
   (try clear hft)
   refine ret_S ⟨HX.out,HF1.out,K1.out,HD1.out,HD2.out,HF2.out,HM2.out,K3.out,HF2r.out,HM2r.out,K4.out,HB.out⟩ (fun hHeld=> ?_);simp only[puts];refine one_M 3 (by kernel_rfl) ?_
   refine wpOp_call (d:=some 103) 3 42 _ _ [.agg #[.slice a2t fs2.length c2t,.slice b2 ms2.length d2,wk2],.agg #[.slice a2r fs2.length c2r,.slice b2r ms2.length d2r,wk2]] rfl rfl rfl (enters_of Tryz.func42 (by kernel_rfl) rfl) (by rfl) (by rfl) ?_
   refine(rsame16_self a2t a2r b2 b2r c2t c2r d2 d2r fs2 ms2 wk2 _ HF2t.out HF2r.out HM2.out HM2r.out HEX2.out (by first | (have:=HLN2.out.1;omega) | simp) (by first | (have:=HLN2.out.2;omega) | simp)).mono ?_;rintro e w223 ⟨rfl,hb23⟩;clear hHeld;have HX:=qq (HX.out.below hb23);have HF1:=qq (HF1.out.below hb23);have K1:=qq (K1.out.below hb23);have HD1:=qq (HD1.out.below hb23)
   have HD2:=qq (HD2.out.below hb23);have HF2:=qq (HF2.out.below hb23);have HM2:=qq (HM2.out.below hb23);have K3:=qq (K3.out.below hb23);have HF2r:=qq (HF2r.out.below hb23);have HM2r:=qq (HM2r.out.below hb23);have K4:=qq (K4.out.below hb23);have HF2t:=qq (HF2t.out.below hb23);have HB:=qq (below_then HB.out hb23);have z23:=HB.out.size;clear hb23
   refine ret_S ⟨HX.out,HF1.out,K1.out,HD1.out,HD2.out,HF2.out,HM2.out,K3.out,HF2r.out,HM2r.out,K4.out,HB.out⟩ (fun hHeld=> ?_);simp only[puts];refine takeM (d:=some 104) 4 rfl rfl hHeld (fun w' _=>by go_simp;(try rfl)) ?_;simp only[puts];refine takeM (d:=some 105) 5 rfl rfl hHeld (fun w' _=>by go_simp;(try rfl)) ?_;simp only[puts]
   refine takeM (d:=some 106) 6 rfl rfl hHeld (fun w' _=>by go_simp;(try rfl)) ?_;simp only[puts];refine takeM (d:=some 108) 8 rfl rfl hHeld (fun w' _=>by go_simp;(try rfl)) ?_;simp only[puts];refine one_M 7 (by kernel_rfl) ?_;refine wpOp_call (d:=some 107) 7 20 _ _ [errOf ea en2] rfl rfl rfl (enters_of Tryz.func20 (by kernel_rfl) rfl) (by rfl) (by rfl) ?_
   refine(HNM2.out _ (HE.out.below (below_then B2 HB.out))).mono ?_;rintro e w224 ⟨rfl,hb24⟩;clear hHeld;have HX:=qq (HX.out.below hb24);have HF1:=qq (HF1.out.below hb24);have K1:=qq (K1.out.below hb24);have HD1:=qq (HD1.out.below hb24);have HD2:=qq (HD2.out.below hb24);have HF2:=qq (HF2.out.below hb24);have HM2:=qq (HM2.out.below hb24);have K3:=qq (K3.out.below hb24)
   have HF2r:=qq (HF2r.out.below hb24);have HM2r:=qq (HM2r.out.below hb24);have K4:=qq (K4.out.below hb24);have HF2t:=qq (HF2t.out.below hb24);have HB:=qq (below_then HB.out hb24);have z24:=HB.out.size;clear hb24;refine ret_S ⟨HX.out,HF1.out,K1.out,HD1.out,HD2.out,HF2.out,HM2.out,K3.out,HF2r.out,HM2r.out,K4.out,HB.out⟩ (fun hHeld=> ?_);simp only[puts]
   refine takeM (d:=some 109) 9 rfl rfl hHeld (fun w' _=>by go_simp;(try rfl)) ?_;simp only[puts];refine takeM (d:=some 110) 10 rfl rfl hHeld (fun w' _=>by go_simp;(try rfl)) ?_;simp only[puts];refine doneM (by kernel_rfl) ?_ _;clear hHeld
   have HFI1:=qq (fit18_of L S (.slice a1 0 c1) ([]:List SFact) ea w _ HE.out (below_then B2 HB.out) (fun k hk=>Nat.le_trans HB1.out.size (HNL.out k hk)) (HL.out.below HB.out) HGS.out HF1.out HAP1.out HEX1.out (by first | (have:=HLN1.out.1;omega) | simp));rw[HFT1.out] at HFI1
   have HFI2:=qq (fit18_of L S (.slice a2 fs2.length c2) fs2 ea w _ HE.out (below_then B2 HB.out) (fun k hk=>Nat.le_trans HB1.out.size (HNL.out k hk)) (HL.out.below HB.out) HGS.out HF2.out HAP2.out HEX2.out (by first | (have:=HLN2.out.1;omega) | simp));rw[HFT2.out] at HFI2;have HBE:=qq (below_then B2 HB.out);obtain⟨lHX,qHX,fHX⟩:=HX.out;obtain⟨lK1,qK1,fK1⟩:=K1.out;obtain⟨lK3,qK3,fK3⟩:=K3.out
   obtain⟨lK4,qK4,fK4⟩:=K4.out
   cases ca
   · go_wp2_with fail;refine HFI2.out.mono ?_;rintro e w90 ⟨rfl,hs⟩;obtain⟨L4,hL4,hS4,hg4⟩:=hs;have B14:Below w.heap.size w w90:=HBE.out.trans (hg4.below (fun k hk=>Nat.le_trans HB1.out.size (HNL.out k hk)) HBE.out.size);clear hg4 hS4;go_wp2_with fail;go_ret;exact⟨rfl,B14⟩
   · go_wp2_with fail;refine HFI1.out.mono ?_;rintro e w90 ⟨rfl,hs⟩;obtain⟨L4,hL4,hS4,hg4⟩:=hs;have B14:Below w.heap.size w w90:=HBE.out.trans (hg4.below (fun k hk=>Nat.le_trans HB1.out.size (HNL.out k hk)) HBE.out.size);clear hg4 hS4;go_wp2_with fail;go_ret;exact⟨rfl,B14⟩
theorem law_vdec_some (node:Int) (v:Value) (fs:List SFact) (na qa:Int) (cl ca:Bool) (ea:Int→Addr) (w:World) (hE:EnvS ea w) (hR:ReadFacts w v fs) (hF:∀f∈fs,F64 f.ex) (i:Nat) (a:SAct) (hg:lGet (splay node fs) na qa=some (i,a)):Calls Tryz.prog 12 #[.int .i64 node,v,.agg #[na,qa,.bool cl,.bool ca]] w (Makes (.bool true) w):=by
 obtain⟨av,cap,rfl,hrow⟩:=hR;have hR':∀W,Below w.heap.size w W→ReadFacts W (.slice av fs.length cap) fs:=fun W hW=>⟨av,cap,rfl,fun hn=>by
   obtain⟨b,off,rfl,hb,hf⟩:=hrow hn;exact⟨b,off,rfl,Nat.lt_of_lt_of_le hb hW.size,fun j hj=>(hf j hj).below hW hb⟩⟩
 have HE:=qq hE;have HAL:=qq (fun W (hW:Below w.heap.size w W)=>alive18 W);have HBN:=qq (fun W (hW:Below w.heap.size w W) h=>built18_no node _ fs ea W (hE.below hW) (hR' W hW) h);have HBY:=qq (fun W (hW:Below w.heap.size w W) h1 h2=>built18_yes node _ fs ea W (hE.below hW) (hR' W hW) hF h1 h2);have HGD:=qq (fun h=>splay_good (node:=node) h fs);obtain⟨n,hn⟩:∃n,n=fs.length:=⟨_,rfl⟩
 obtain⟨S,hS⟩:∃S,S=splay node fs:=⟨_,rfl⟩
 rw[←hn] at HBN HBY⊢;rw[←hS] at HBY HGD;rw[←hS] at hg;have HCa:=qq (fun L W h1 h2 h3=>vcarry_of L S na qa ea W h1 h2 h3);have HFd:=qq (fun R W h1 (h2:StoGood S)=>rfind_of R S na qa W h1 h2.acts);have HDe:=qq (fun L W h1 h2 h3=>vdecide_of L S na qa cl ea W h1 h2 h3);have HRe:=qq (fun R W h1 h2=>rdecide18_of R S na qa cl W h1 h2);have HDu:=qq (fun L W h1 h2=>vdue_of L S W h1 h2)
 have HRu:=qq (fun R W h1 h2=>rdue18_of R S W h1 h2);obtain⟨hf,ha,hmem,_,_⟩:=lGet_some hg;have hr1:vCarry S na qa=⟨vFs a.de a,vMs S a.de a,0⟩:=by unfold vCarry vRes;rw[hg]
 have hln1:=fun(h:StoGood S)=>vCarry_len h (n:=na) (q:=qa)
 have hex1:=vCarry_ex (S:=S) (n:=na) (q:=qa);have hft1:=fun(h:StoGood S)=>vCarry_fits h na qa
 have HRc:=qq (fun R W h1 h2=>rcarry18_of R S i a a.de W h1 h2 ha);rw[hr1] at HCa hln1 hex1 hft1;obtain⟨fs1,hfs1⟩:∃x,x=vFs a.de a:=⟨_,rfl⟩
 obtain⟨ms1,hms1⟩:∃x,x=vMs S a.de a:=⟨_,rfl⟩
 rw[←hfs1,←hms1] at HCa hln1 HRc;rw[←hfs1] at hex1 hft1;rw[hf] at HFd;dsimp only[oix] at HFd;unfold ResR at HCa;unfold RCarEnds at HRc;dsimp only at HCa hln1 hex1 hft1;have HLN1':=qq hln1;have HFT1':=qq hft1;have HEX1:=qq (show ∀f∈fs1,F64 f.ex by intro f hf;rw[hex1 f hf];unfold F64;decide);have HHA:=qq ha;clear hr1 hg hf ha hmem hfs1 hms1 hln1 hex1 hft1
 have HFT2':=qq (fun(h:StoGood S)=>vDecide_fits h na qa cl);have hex2:=vDecide_ex (S:=S) (n:=na) (q:=qa) (cl:=cl);have hnm2:=vDecide_num (S:=S) (n:=na) (q:=qa) (cl:=cl);have HLN2':=qq (fun(h:StoGood S)=>vDecide_len h (n:=na) (q:=qa) (cl:=cl));obtain⟨r2,hr2⟩:∃r,r=(vDecide S na qa cl).1:=⟨_,rfl⟩
 obtain⟨en2,hen2⟩:∃r,r=(vDecide S na qa cl).2:=⟨_,rfl⟩
 obtain⟨ids,hids⟩:∃x,x=vDue S:=⟨_,rfl⟩
 rw[←hr2] at HDe HRe HFT2' hex2 HLN2';rw[←hen2] at HDe HRe hnm2;rw[←hids] at HDu HRu;have HDL:=qq (fun(h:StoGood S)=>(show ids.length≤8 by rw[hids];exact vDue_len h));have HNM2:=qq (fun W hW=>num_of en2 hnm2 ea W hW);have HEX2:=qq (show ∀f∈r2.fs,F64 f.ex by intro f hf;rw[hex2 f hf];unfold F64;decide);clear hr2 hen2 hids hex2 hnm2;obtain⟨fs2,ms2,wk2⟩:=r2;unfold DirEnds at HDe;unfold RDoEnds at HRe
 dsimp only at HDe HRe HFT2' HLN2' HEX2;have hnn2:(en2 !=en2)=false:=by simp
 clear hE hR' hrow hF hn hS;by_cases hok:(0≤node∧node≤3)∧n≤60
 case neg=>
  go_enter Tryz.func12,Tryz.ntmps12;go_wp2_with fail;refine(HAL.out _ (by go_grown)).mono ?_;rintro e w1 ⟨rfl,hb1⟩;have B1:Below w.heap.size w w1:=below_then (by go_grown) hb1;go_wp2_with fail;refine(HBN.out _ B1 hok).mono ?_;rintro e w2 ⟨rfl,hb2⟩;have B2:Below w.heap.size w w2:=below_then B1 hb2;go_wp2_with fail;go_ret;exact⟨rfl,B2⟩
 obtain⟨hnd,hln⟩:=hok;have HGS:=qq (HGD.out hnd);obtain⟨T2,hfit2⟩:=HFT2'.out HGS.out;have HFT2:=qq hfit2;have HLN2:=qq (HLN2'.out HGS.out);clear hfit2;obtain⟨T1,hfit1⟩:=HFT1'.out HGS.out;have HFT1:=qq hfit1;have HLN1:=qq (HLN1'.out HGS.out);clear hfit1;go_enter Tryz.func12,Tryz.ntmps12;go_wp2_with fail;refine(HAL.out _ (by go_grown)).mono ?_;rintro e w1 ⟨rfl,hb1⟩
 have B1:Below w.heap.size w w1:=below_then (by go_grown) hb1;have HX:=qq ((Blk.fresh w #[na,qa,.bool cl,.bool ca] 110 _ rfl).below hb1);clear hb1;go_wp2_with fail;refine(HBY.out _ B1 hnd hln).mono ?_;rintro e w2 ⟨L,R,rfl,hB⟩;have B2:Below w.heap.size w w2:=below_then B1 hB.be;have HNL:Hid (∀k∈L.foot,w1.heap.size≤k):=qq hB.nl;have HW1:=qq (show w1.heap.size≤w2.heap.size from hB.be.size)
 have HB1:=qq B1;have HB12:=qq hB.be;have HX:=qq (HX.out.below hB.be);have HL:=qq hB.st;have HR:=qq hB.rs;clear hB B1;have h:=HR.out;have hG:=HGS.out;have ha:=HHA.out;obtain⟨g,n,cap,va,vc,hin,hn8,hv6,hQ,hRR⟩:=ract_at h hG ha;obtain⟨nd,hnd⟩:∃nd,nd=S.node:=⟨_,rfl⟩
 have hi0:(0:Int)≤(i:Int):=by omega
 have hi1:(i:Int)<(n:Int):=by omega
 have hge:decide ((0:Int)≤(i:Int))=true:=decide_eq_true (by omega);obtain⟨an,aq,oc,dp,ex,pa,de,rs⟩:=a;unfold ActC at hQ;dsimp only at*;obtain⟨vn,hvn⟩:∃n,n=rs.length:=⟨_,rfl⟩
 rw[←hvn] at hQ hv6;have HQ:=qq hQ;clear h hG ha hnd hvn hQ hRR;obtain⟨xl,gl,xn,xa,a0,a1,a2,a3,a4,a5,a6,a7⟩:=HQ.out _ (Below.refl _ _);obtain⟨lHX,qHX,fHX⟩:=HX.out;go_wp2_with fail;clear qHX fHX lHX xl gl xn xa a0 a1 a2 a3 a4 a5 a6 a7;refine(HCa.out L _ (HE.out.below (below_then B2 (Below.refl w2.heap.size w2))) (HL.out.below (Below.refl w2.heap.size w2)) HGS.out).mono ?_
 rintro e w211 ⟨a1,c1,b1,d1,rfl,hR1,hb11⟩;have HAP1:Hid (∀k,sliceBlock (.slice a1 fs1.length c1)=some k→k∉L.foot):=qq (fun k hk hl=>by have h1:=hR1.ff k hk;have h2:=HL.out.lt k hl;omega);have HX:=qq (HX.out.below hb11);have HB:=qq (below_then (Below.refl w2.heap.size w2) hb11);have z11:=HB.out.size;clear hb11;have HF1:=qq (show ReadFacts _ (.slice a1 fs1.length c1) fs1 from hR1.f)
 have HM1:=qq (show ReadMsgs _ (.slice b1 ms1.length d1) ms1 from hR1.m)
 (try clear hR1)
 have o1HX:=HX.out.lt;obtain⟨xl,gl,xn,xa,a0,a1,a2,a3,a4,a5,a6,a7⟩:=HQ.out _ HB.out;obtain⟨lHX,qHX,fHX⟩:=HX.out;go_wp2_with fail;clear qHX fHX lHX xl gl xn xa a0 a1 a2 a3 a4 a5 a6 a7;refine(HFd.out R _ (HR.out.below (bel_alloc HB.out _)) HGS.out).mono ?_;rintro e w212 ⟨rfl,hb12⟩;have HX:=qq ((HX.out.alloc _).below hb12);have HF1:=qq ((HF1.out.below (by go_grown)).below hb12)
 have HM1:=qq ((HM1.out.below (by go_grown)).below hb12);have K1:=qq ((Blk.fresh _ _ _ (w211.heap.size) (by simp)).below hb12);have HB:=qq (below_then (bel_alloc HB.out _) hb12);have z12:=HB.out.size;clear hb12;have o2HX:=HX.out.lt;have o2K1:=K1.out.lt;obtain⟨xl,gl,xn,xa,a0,a1,a2,a3,a4,a5,a6,a7⟩:=HQ.out _ HB.out;obtain⟨lHX,qHX,fHX⟩:=HX.out;obtain⟨lK1,qK1,fK1⟩:=K1.out;go_wp2_with fail
 clear qHX fHX lHX qK1 fK1 lK1 xl gl xn xa a0 a1 a2 a3 a4 a5 a6 a7;refine(HRc.out R _ (HR.out.below (bel_alloc HB.out _)) HGS.out).mono ?_;rintro e w213 ⟨a1r,c1r,b1r,d1r,rfl,hrf,hrm,_,hbx⟩;have hB:=below_then (bel_alloc HB.out _) hbx;have hZ:=(Blk.fresh w212 #[.slice none 0 0,.slice none 0 0,.int .i64 0] 95 _ rfl).below hbx
 have hZ0:w212.heap.size+1≤w213.heap.size:=by have:=hbx.size;simp at this;omega
 have hZc:=hZ;obtain⟨lz,qz,fz⟩:=hZc;go_wp2_with fail;clear lz qz fz
 have hS:Below w212.heap.size w212 (((w213.setCell ⟨w212.heap.size,0,none⟩ (.slice a1r fs1.length c1r)).setCell ⟨w212.heap.size,1,none⟩ (.slice b1r ms1.length d1r)).setCell ⟨w212.heap.size,2,none⟩ (.int .i64 0)):=((((((Below.refl w212.heap.size w212).alloc (Nat.le_refl _) (.cells #[.slice none 0 0,.slice none 0 0,.int .i64 0] 95)).trans (hbx.mono (by simp))).setCell (by simp) _).setCell (by simp) _).setCell (by simp) _)
 have hk:∀k,k≠w212.heap.size→(((w213.setCell ⟨w212.heap.size,0,none⟩ (.slice a1r fs1.length c1r)).setCell ⟨w212.heap.size,1,none⟩ (.slice b1r ms1.length d1r)).setCell ⟨w212.heap.size,2,none⟩ (.int .i64 0)).heap[k]? =w213.heap[k]? :=fun k hk=>by rw[Below.heap_setCell _ _ _ _ hk,Below.heap_setCell _ _ _ _ hk,Below.heap_setCell _ _ _ _ hk]
 have HF1r:=qq (show ReadFacts (((w213.setCell ⟨w212.heap.size,0,none⟩ (.slice a1r fs1.length c1r)).setCell ⟨w212.heap.size,1,none⟩ (.slice b1r ms1.length d1r)).setCell ⟨w212.heap.size,2,none⟩ (.int .i64 0)) (.slice a1r fs1.length c1r) fs1 from read_frow18 (row_heap hrf (fun k h=>hk k (by have:=(hrf.lt k h).1;simp at this;omega))))
 have HM1r:=qq (show ReadMsgs (((w213.setCell ⟨w212.heap.size,0,none⟩ (.slice a1r fs1.length c1r)).setCell ⟨w212.heap.size,1,none⟩ (.slice b1r ms1.length d1r)).setCell ⟨w212.heap.size,2,none⟩ (.int .i64 0)) (.slice b1r ms1.length d1r) ms1 from read_mrow (row_heap hrm (fun k h=>hk k (by have:=(hrm.lt k h).1;simp at this;omega))))
 have K2:=qq (((hZ.set' 0 (by simp) (.slice a1r fs1.length c1r)).set' 1 (by simp) (.slice b1r ms1.length d1r)).set' 2 (by simp) (.int .i64 0));have HX:=qq (HX.out.below hS);have HF1:=qq (HF1.out.below hS);have HM1:=qq (HM1.out.below hS);have K1:=qq (K1.out.below hS)
 have HB:=qq (show Below w2.heap.size w2 (((w213.setCell ⟨w212.heap.size,0,none⟩ (.slice a1r fs1.length c1r)).setCell ⟨w212.heap.size,1,none⟩ (.slice b1r ms1.length d1r)).setCell ⟨w212.heap.size,2,none⟩ (.int .i64 0)) from below_then HB.out hS)
 generalize(((w213.setCell ⟨w212.heap.size,0,none⟩ (.slice a1r fs1.length c1r)).setCell ⟨w212.heap.size,1,none⟩ (.slice b1r ms1.length d1r)).setCell ⟨w212.heap.size,2,none⟩ (.int .i64 0))=w214 at*;clear hS hk hrf hrm hbx hB hZ hZ0;have z14:=HB.out.size
 refine reg_start (fun w'=>Blk w' _ _∧ReadFacts w' _ _∧ReadMsgs w' _ _∧Blk w' _ _∧Blk w' _ _∧ReadFacts w' _ _∧ReadMsgs w' _ _∧Below w2.heap.size w2 w') (by kernel_rfl) ⟨HX.out.drew,(HF1.out.below (by go_grown)),(HM1.out.below (by go_grown)),K1.out.drew,K2.out.drew,(HF1r.out.below (by go_grown)),(HM1r.out.below (by go_grown)),(bel_drew HB.out)⟩ ?_;rintro w215 hHeld
 obtain⟨HX',HF1',HM1',K1',K2',HF1r',HM1r',HB'⟩:=id hHeld;have HX:=qq HX';have HF1:=qq HF1';have HM1:=qq HM1';have K1:=qq K1';have K2:=qq K2';have HF1r:=qq HF1r';have HM1r:=qq HM1r';have HB:=qq HB';clear HX' HF1' HM1' K1' K2' HF1r' HM1r' HB';have z15:=HB.out.size;refine takeM (d:=some 53) 0 rfl rfl hHeld (fun w' hS'=>by have qA:=hS'.2.2.2.1.cell;clear hS';go_simp;(try rfl)) ?_;simp only[puts]
 refine takeM (d:=some 55) 2 rfl rfl hHeld (fun w' hS'=>by have qA:=hS'.2.2.2.2.1.cell;clear hS';go_simp;(try rfl)) ?_;simp only[puts];refine one_M 1 (by kernel_rfl) ?_;refine wpOp_call (d:=some 54) 1 54 _ _ [.agg #[.slice a1 fs1.length c1,.slice b1 ms1.length d1,.int .i64 0]] rfl rfl rfl (enters_of Tryz.func54 (by kernel_rfl) rfl) (by rfl) (by rfl) ?_
 refine(told18_of a1 b1 c1 (ms1.length) d1 fs1 0 _ HF1.out (by first | (have:=HLN1.out.1;omega) | simp)).mono ?_;rintro e w216 ⟨a1t,c1t,rfl,hft,hb16⟩;clear hHeld;have HX:=qq (HX.out.below hb16);have HF1:=qq (HF1.out.below hb16);have HM1:=qq (HM1.out.below hb16);have K1:=qq (K1.out.below hb16);have K2:=qq (K2.out.below hb16);have HF1r:=qq (HF1r.out.below hb16);have HM1r:=qq (HM1r.out.below hb16)
 have HB:=qq (below_then HB.out hb16);have z16:=HB.out.size;clear hb16;have HF1t:=qq (show ReadFacts _ (.slice a1t fs1.length c1t) fs1 from hft)
 (try clear hft)
 refine ret_S ⟨HX.out,HF1.out,HM1.out,K1.out,K2.out,HF1r.out,HM1r.out,HB.out⟩ (fun hHeld=> ?_);simp only[puts];refine one_M 3 (by kernel_rfl) ?_
 refine wpOp_call (d:=some 56) 3 42 _ _ [.agg #[.slice a1t fs1.length c1t,.slice b1 ms1.length d1,.int .i64 0],.agg #[.slice a1r fs1.length c1r,.slice b1r ms1.length d1r,.int .i64 0]] rfl rfl rfl (enters_of Tryz.func42 (by kernel_rfl) rfl) (by rfl) (by rfl) ?_
 refine(rsame16_self a1t a1r b1 b1r c1t c1r d1 d1r fs1 ms1 0 _ HF1t.out HF1r.out HM1.out HM1r.out HEX1.out (by first | (have:=HLN1.out.1;omega) | simp) (by first | (have:=HLN1.out.2;omega) | simp)).mono ?_;rintro e w217 ⟨rfl,hb17⟩;clear hHeld;have HX:=qq (HX.out.below hb17);have HF1:=qq (HF1.out.below hb17);have HM1:=qq (HM1.out.below hb17);have K1:=qq (K1.out.below hb17)
 have K2:=qq (K2.out.below hb17);have HF1r:=qq (HF1r.out.below hb17);have HM1r:=qq (HM1r.out.below hb17);have HF1t:=qq (HF1t.out.below hb17);have HB:=qq (below_then HB.out hb17);have z17:=HB.out.size;clear hb17;refine ret_S ⟨HX.out,HF1.out,HM1.out,K1.out,K2.out,HF1r.out,HM1r.out,HB.out⟩ (fun hHeld=> ?_);simp only[puts];refine takeM (d:=some 57) 4 rfl rfl hHeld (fun w' _=>by go_simp;(try rfl)) ?_
 simp only[puts];refine doneM (by kernel_rfl) ?_ _;clear hHeld;obtain⟨xl,gl,xn,xa,a0,a1,a2,a3,a4,a5,a6,a7⟩:=HQ.out _ HB.out;obtain⟨lHX,qHX,fHX⟩:=HX.out;obtain⟨lK1,qK1,fK1⟩:=K1.out;obtain⟨lK2,qK2,fK2⟩:=K2.out;go_wp2_with fail;clear qHX fHX lHX qK1 fK1 lK1 qK2 fK2 lK2 xl gl xn xa a0 a1 a2 a3 a4 a5 a6 a7;refine(HDu.out L _ (HL.out.below HB.out) HGS.out).mono ?_;rintro e w218 ⟨Bd3,vd3,rfl,hrd3,hb18⟩
 obtain⟨a3,c3,hvd3⟩:=row_slice hrd3;subst hvd3;have HX:=qq (HX.out.below hb18);have HF1:=qq (HF1.out.below hb18);have HM1:=qq (HM1.out.below hb18);have K1:=qq (K1.out.below hb18);have HB:=qq (below_then HB.out hb18);have z18:=HB.out.size;clear hb18;have HD1:=qq (show ReadIds _ (.slice a3 ids.length c3) ids from read_ids hrd3)
 (try clear hrd3)
 obtain⟨xl,gl,xn,xa,a0,a1,a2,a3,a4,a5,a6,a7⟩:=HQ.out _ HB.out;obtain⟨lHX,qHX,fHX⟩:=HX.out;obtain⟨lK1,qK1,fK1⟩:=K1.out;go_wp2_with fail;clear qHX fHX lHX qK1 fK1 lK1 xl gl xn xa a0 a1 a2 a3 a4 a5 a6 a7;refine(HRu.out R _ (HR.out.below HB.out) HGS.out).mono ?_;rintro e w219 ⟨Bd4,vd4,rfl,hrd4,hb19⟩;obtain⟨a4,c4,hvd4⟩:=row_slice hrd4;subst hvd4;have HX:=qq (HX.out.below hb19)
 have HF1:=qq (HF1.out.below hb19);have HM1:=qq (HM1.out.below hb19);have K1:=qq (K1.out.below hb19);have HD1:=qq (HD1.out.below hb19);have HB:=qq (below_then HB.out hb19);have z19:=HB.out.size;clear hb19;have HD2:=qq (show ReadIds _ (.slice a4 ids.length c4) ids from read_ids hrd4)
 (try clear hrd4)
 obtain⟨xl,gl,xn,xa,a0,a1,a2,a3,a4,a5,a6,a7⟩:=HQ.out _ HB.out;obtain⟨lHX,qHX,fHX⟩:=HX.out;obtain⟨lK1,qK1,fK1⟩:=K1.out;go_wp2_with fail;clear qHX fHX lHX qK1 fK1 lK1 xl gl xn xa a0 a1 a2 a3 a4 a5 a6 a7;have HDA:=qq (show ReadIds w219 (.slice a3 ids.length c3) ids from HD1.out);have HDB:=qq (show ReadIds w219 (.slice a4 ids.length c4) ids from HD2.out);obtain⟨nd,hnd⟩:∃n,n=ids.length:=⟨_,rfl⟩
 have HND:=qq hnd;rw[←hnd];obtain⟨wl,hwl⟩:∃W,W=w219:=⟨_,rfl⟩
 rw[←hwl] at HDA HDB⊢;have HX:Hid (Blk wl w.heap.size #[na,qa,.bool cl,.bool ca]):=by rw[hwl];exact qq (HX.out)
 have HF1:=qq (show ReadFacts wl _ _ by rw[hwl];exact HF1.out);have HM1:=qq (show ReadMsgs wl _ _ by rw[hwl];exact HM1.out);have K1:Hid (Blk wl w211.heap.size #[.slice a1 fs1.length c1,.slice b1 ms1.length d1,.int .i64 0]):=by rw[hwl];exact qq (K1.out)
 have HD1:=qq (show ReadIds wl _ _ by rw[hwl];exact HD1.out);have HD2:=qq (show ReadIds wl _ _ by rw[hwl];exact HD2.out);have HB:Hid (Below w2.heap.size w2 wl):=by rw[hwl];exact qq (HB.out)
 clear hwl hnd;go_loopw [69] (fun c wr=>∃k:Nat,k≤nd∧c=.int .i64 (k:Int)∧Hid (Below wl.heap.size wl wr)) (fun c _=>nd - (intOf c).toNat)
 case atStart=>exact⟨0,by omega,by first | rfl | go_num,qq (Below.refl _ _)⟩
 case round=>
  obtain⟨k,hk,rfl,HBL⟩:=hrel;have hnd8:nd≤8:=by rw[HND.out];exact HDL.out HGS.out
  by_cases hlt:k<nd
  · as_aux_lemma=>
    obtain⟨⟨x0,x1⟩,hx⟩:∃x,ids[k]? =some x:=⟨_,List.getElem?_eq_getElem (by rw[←HND.out];exact hlt)⟩
    obtain⟨_,_,hv1,hr1⟩:=HDA.out.below HBL.out;obtain⟨_,_,hv2,hr2⟩:=HDB.out.below HBL.out;simp only[Value.slice.injEq,true_and] at hv1 hv2;obtain⟨rfl,rfl⟩:=hv1;obtain⟨rfl,rfl⟩:=hv2;obtain⟨g1,rfl,hg1,p0,p1⟩:=hr1 k _ hx;obtain⟨g2,rfl,hg2,p2,p3⟩:=hr2 k _ hx;have hk0:(0:Int)≤(k:Int):=by omega
    have hk1:(k:Int)<(nd:Int):=by omega
    dsimp only at p0 p1 p2 p3;have hne:=fun W=>actNe x0 x1 W
    clear hx hr1 hr2;go_wp2_with fail;go_region;go_wp2_with fail;go_roundw
    case rel=>exact⟨k+1,hlt,by have:=hnd8;go_num,qq (bel_drew HBL.out)⟩
    case measure=>simp[intOf];omega
  as_aux_lemma=>
   obtain rfl:k=nd:=by omega
   have hb20:=HBL.out;clear HDA HDB hlt hk;obtain⟨w220,hwe⟩:∃W,W=wr:=⟨_,rfl⟩
   rw[←hwe] at hb20⊢;clear HBL hwe;have HX:=qq (HX.out.below hb20);have HF1:=qq (HF1.out.below hb20);have HM1:=qq (HM1.out.below hb20);have K1:=qq (K1.out.below hb20);have HD1:=qq (HD1.out.below hb20);have HD2:=qq (HD2.out.below hb20);have HB:=qq (below_then HB.out hb20);have z20:=HB.out.size;clear hb20;obtain⟨xl,gl,xn,xa,a0,a1,a2,a3,a4,a5,a6,a7⟩:=HQ.out _ HB.out;obtain⟨lHX,qHX,fHX⟩:=HX.out
   obtain⟨lK1,qK1,fK1⟩:=K1.out;go_wp2_with fail;clear qHX fHX lHX qK1 fK1 lK1 xl gl xn xa a0 a1 a2 a3 a4 a5 a6 a7;refine(HDe.out L _ (HE.out.below (below_then B2 HB.out)) (HL.out.below HB.out) HGS.out).mono ?_;rintro e w221 ⟨a2,c2,b2,d2,rfl,hR2,hb21⟩;have HAP2:Hid (∀k,sliceBlock (.slice a2 fs2.length c2)=some k→k∉L.foot):=qq (fun k hk hl=>by have h1:=hR2.ff k hk;have h2:=HL.out.lt k hl;omega)
   have HX:=qq (HX.out.below hb21);have HF1:=qq (HF1.out.below hb21);have HM1:=qq (HM1.out.below hb21);have K1:=qq (K1.out.below hb21);have HD1:=qq (HD1.out.below hb21);have HD2:=qq (HD2.out.below hb21);have HB:=qq (below_then HB.out hb21);have z21:=HB.out.size;clear hb21;have HF2:=qq (show ReadFacts _ (.slice a2 fs2.length c2) fs2 from hR2.f)
   have HM2:=qq (show ReadMsgs _ (.slice b2 ms2.length d2) ms2 from hR2.m)
   (try clear hR2)
   have o3HX:=HX.out.lt;have o3K1:=K1.out.lt;obtain⟨xl,gl,xn,xa,a0,a1,a2,a3,a4,a5,a6,a7⟩:=HQ.out _ HB.out;obtain⟨lHX,qHX,fHX⟩:=HX.out;obtain⟨lK1,qK1,fK1⟩:=K1.out;go_wp2_with fail;clear qHX fHX lHX qK1 fK1 lK1 xl gl xn xa a0 a1 a2 a3 a4 a5 a6 a7;refine(HRe.out R _ (HR.out.below (bel_alloc HB.out _)) HGS.out).mono ?_;rintro e w222 ⟨fv2,mv2,rfl,hf2,hm2,hb22⟩;have hf2:=hf2;have hm2:=hm2
   obtain⟨a2r,c2r,rfl,_⟩:=hf2;obtain⟨b2r,d2r,rfl,_⟩:=hm2;have HX:=qq ((HX.out.alloc _).below hb22);have HF1:=qq ((HF1.out.below (by go_grown)).below hb22);have HM1:=qq ((HM1.out.below (by go_grown)).below hb22);have K1:=qq ((K1.out.alloc _).below hb22);have HD1:=qq ((HD1.out.below (by go_grown)).below hb22);have HD2:=qq ((HD2.out.below (by go_grown)).below hb22)
   have HF2:=qq ((HF2.out.below (by go_grown)).below hb22);have HM2:=qq ((HM2.out.below (by go_grown)).below hb22);have K3:=qq ((Blk.fresh _ _ _ (w221.heap.size) (by simp)).below hb22);have HB:=qq (below_then (bel_alloc HB.out _) hb22);have z22:=HB.out.size;clear hb22;have HF2r:=qq (show ReadFacts _ (.slice a2r fs2.length c2r) fs2 from hf2)
   have HM2r:=qq (show ReadMsgs _ (.slice b2r ms2.length d2r) ms2 from hm2)
   (try clear hf2 hm2)
   have o4HX:=HX.out.lt;have o4K1:=K1.out.lt;have o4K3:=K3.out.lt;obtain⟨xl,gl,xn,xa,a0,a1,a2,a3,a4,a5,a6,a7⟩:=HQ.out _ HB.out;obtain⟨lHX,qHX,fHX⟩:=HX.out;obtain⟨lK1,qK1,fK1⟩:=K1.out;obtain⟨lK3,qK3,fK3⟩:=K3.out;go_wp2_with fail;clear qHX fHX lHX qK1 fK1 lK1 qK3 fK3 lK3 xl gl xn xa a0 a1 a2 a3 a4 a5 a6 a7
   refine reg_start (fun w'=>Blk w' _ _∧ReadFacts w' _ _∧ReadMsgs w' _ _∧Blk w' _ _∧ReadIds w' _ _∧ReadIds w' _ _∧ReadFacts w' _ _∧ReadMsgs w' _ _∧Blk w' _ _∧ReadFacts w' _ _∧ReadMsgs w' _ _∧Blk w' _ _∧Below w2.heap.size w2 w') (by kernel_rfl) ⟨(HX.out.alloc _).drew,(HF1.out.below (by go_grown)),(HM1.out.below (by go_grown)),(K1.out.alloc _).drew,(HD1.out.below (by go_grown)),(HD2.out.below (by go_grown)),(HF2.out.below (by go_grown)),(HM2.out.below (by go_grown)),(K3.out.alloc _).drew,(HF2r.out.below (by go_grown)),(HM2r.out.below (by go_grown)),(Blk.fresh _ _ _ (w222.heap.size) (by simp)).drew,(bel_drew (bel_alloc HB.out _))⟩ ?_
   rintro w223 hHeld;obtain⟨HX',HF1',HM1',K1',HD1',HD2',HF2',HM2',K3',HF2r',HM2r',K4',HB'⟩:=id hHeld;have HX:=qq HX';have HF1:=qq HF1';have HM1:=qq HM1';have K1:=qq K1';have HD1:=qq HD1';have HD2:=qq HD2';have HF2:=qq HF2';have HM2:=qq HM2';have K3:=qq K3';have HF2r:=qq HF2r';have HM2r:=qq HM2r';have K4:=qq K4';have HB:=qq HB';clear HX' HF1' HM1' K1' HD1' HD2' HF2' HM2' K3' HF2r' HM2r' K4' HB'
   have z23:=HB.out.size;refine takeM (d:=some 100) 0 rfl rfl hHeld (fun w' hS'=>by have qA:=hS'.2.2.2.2.2.2.2.2.1.cell;clear hS';go_simp;(try rfl)) ?_;simp only[puts];refine takeM (d:=some 102) 2 rfl rfl hHeld (fun w' hS'=>by have qA:=hS'.2.2.2.2.2.2.2.2.2.2.2.1.cell;clear hS';go_simp;(try rfl)) ?_;simp only[puts];refine one_M 1 (by kernel_rfl) ?_
   refine wpOp_call (d:=some 101) 1 54 _ _ [.agg #[.slice a2 fs2.length c2,.slice b2 ms2.length d2,wk2]] rfl rfl rfl (enters_of Tryz.func54 (by kernel_rfl) rfl) (by rfl) (by rfl) ?_;refine(told18_of a2 b2 c2 (ms2.length) d2 fs2 wk2 _ HF2.out (by first | (have:=HLN2.out.1;omega) | simp)).mono ?_;rintro e w224 ⟨a2t,c2t,rfl,hft,hb24⟩;clear hHeld;have HX:=qq (HX.out.below hb24)
   have HF1:=qq (HF1.out.below hb24);have HM1:=qq (HM1.out.below hb24);have K1:=qq (K1.out.below hb24);have HD1:=qq (HD1.out.below hb24);have HD2:=qq (HD2.out.below hb24);have HF2:=qq (HF2.out.below hb24);have HM2:=qq (HM2.out.below hb24);have K3:=qq (K3.out.below hb24);have HF2r:=qq (HF2r.out.below hb24);have HM2r:=qq (HM2r.out.below hb24);have K4:=qq (K4.out.below hb24)
   have HB:=qq (below_then HB.out hb24);have z24:=HB.out.size;clear hb24;have HF2t:=qq (show ReadFacts _ (.slice a2t fs2.length c2t) fs2 from hft)
   (try clear hft)
   refine ret_S ⟨HX.out,HF1.out,HM1.out,K1.out,HD1.out,HD2.out,HF2.out,HM2.out,K3.out,HF2r.out,HM2r.out,K4.out,HB.out⟩ (fun hHeld=> ?_);simp only[puts];refine one_M 3 (by kernel_rfl) ?_
   refine wpOp_call (d:=some 103) 3 42 _ _ [.agg #[.slice a2t fs2.length c2t,.slice b2 ms2.length d2,wk2],.agg #[.slice a2r fs2.length c2r,.slice b2r ms2.length d2r,wk2]] rfl rfl rfl (enters_of Tryz.func42 (by kernel_rfl) rfl) (by rfl) (by rfl) ?_
   refine(rsame16_self a2t a2r b2 b2r c2t c2r d2 d2r fs2 ms2 wk2 _ HF2t.out HF2r.out HM2.out HM2r.out HEX2.out (by first | (have:=HLN2.out.1;omega) | simp) (by first | (have:=HLN2.out.2;omega) | simp)).mono ?_;rintro e w225 ⟨rfl,hb25⟩;clear hHeld;have HX:=qq (HX.out.below hb25);have HF1:=qq (HF1.out.below hb25);have HM1:=qq (HM1.out.below hb25);have K1:=qq (K1.out.below hb25)
   have HD1:=qq (HD1.out.below hb25);have HD2:=qq (HD2.out.below hb25);have HF2:=qq (HF2.out.below hb25);have HM2:=qq (HM2.out.below hb25);have K3:=qq (K3.out.below hb25);have HF2r:=qq (HF2r.out.below hb25);have HM2r:=qq (HM2r.out.below hb25);have K4:=qq (K4.out.below hb25);have HF2t:=qq (HF2t.out.below hb25);have HB:=qq (below_then HB.out hb25);have z25:=HB.out.size;clear hb25
   refine ret_S ⟨HX.out,HF1.out,HM1.out,K1.out,HD1.out,HD2.out,HF2.out,HM2.out,K3.out,HF2r.out,HM2r.out,K4.out,HB.out⟩ (fun hHeld=> ?_);simp only[puts];refine takeM (d:=some 104) 4 rfl rfl hHeld (fun w' _=>by go_simp;(try rfl)) ?_;simp only[puts];refine takeM (d:=some 105) 5 rfl rfl hHeld (fun w' _=>by go_simp;(try rfl)) ?_;simp only[puts]
   refine takeM (d:=some 106) 6 rfl rfl hHeld (fun w' _=>by go_simp;(try rfl)) ?_;simp only[puts];refine takeM (d:=some 108) 8 rfl rfl hHeld (fun w' _=>by go_simp;(try rfl)) ?_;simp only[puts];refine one_M 7 (by kernel_rfl) ?_;refine wpOp_call (d:=some 107) 7 20 _ _ [errOf ea en2] rfl rfl rfl (enters_of Tryz.func20 (by kernel_rfl) rfl) (by rfl) (by rfl) ?_
   refine(HNM2.out _ (HE.out.below (below_then B2 HB.out))).mono ?_;rintro e w226 ⟨rfl,hb26⟩;clear hHeld;have HX:=qq (HX.out.below hb26);have HF1:=qq (HF1.out.below hb26);have HM1:=qq (HM1.out.below hb26);have K1:=qq (K1.out.below hb26);have HD1:=qq (HD1.out.below hb26);have HD2:=qq (HD2.out.below hb26);have HF2:=qq (HF2.out.below hb26);have HM2:=qq (HM2.out.below hb26)
   have K3:=qq (K3.out.below hb26);have HF2r:=qq (HF2r.out.below hb26);have HM2r:=qq (HM2r.out.below hb26);have K4:=qq (K4.out.below hb26);have HF2t:=qq (HF2t.out.below hb26);have HB:=qq (below_then HB.out hb26);have z26:=HB.out.size;clear hb26;refine ret_S ⟨HX.out,HF1.out,HM1.out,K1.out,HD1.out,HD2.out,HF2.out,HM2.out,K3.out,HF2r.out,HM2r.out,K4.out,HB.out⟩ (fun hHeld=> ?_);simp only[puts]
   refine takeM (d:=some 109) 9 rfl rfl hHeld (fun w' _=>by go_simp;(try rfl)) ?_;simp only[puts];refine takeM (d:=some 110) 10 rfl rfl hHeld (fun w' _=>by go_simp;(try rfl)) ?_;simp only[puts];refine doneM (by kernel_rfl) ?_ _;clear hHeld
   have HFI1:=qq (fit18_of L S (.slice a1 fs1.length c1) fs1 ea w _ HE.out (below_then B2 HB.out) (fun k hk=>Nat.le_trans HB1.out.size (HNL.out k hk)) (HL.out.below HB.out) HGS.out HF1.out HAP1.out HEX1.out (by first | (have:=HLN1.out.1;omega) | simp));rw[HFT1.out] at HFI1
   have HFI2:=qq (fit18_of L S (.slice a2 fs2.length c2) fs2 ea w _ HE.out (below_then B2 HB.out) (fun k hk=>Nat.le_trans HB1.out.size (HNL.out k hk)) (HL.out.below HB.out) HGS.out HF2.out HAP2.out HEX2.out (by first | (have:=HLN2.out.1;omega) | simp));rw[HFT2.out] at HFI2;have HBE:=qq (below_then B2 HB.out);obtain⟨xl,gl,xn,xa,a0,a1,a2,a3,a4,a5,a6,a7⟩:=HQ.out _ HB.out;obtain⟨lHX,qHX,fHX⟩:=HX.out
   obtain⟨lK1,qK1,fK1⟩:=K1.out;obtain⟨lK3,qK3,fK3⟩:=K3.out;obtain⟨lK4,qK4,fK4⟩:=K4.out
   cases ca
   · go_wp2_with fail;refine HFI2.out.mono ?_;rintro e w90 ⟨rfl,hs⟩;obtain⟨L4,hL4,hS4,hg4⟩:=hs;have B14:Below w.heap.size w w90:=HBE.out.trans (hg4.below (fun k hk=>Nat.le_trans HB1.out.size (HNL.out k hk)) HBE.out.size);clear hg4 hS4;go_wp2_with fail;go_ret;exact⟨rfl,B14⟩
   · go_wp2_with fail;refine HFI1.out.mono ?_;rintro e w90 ⟨rfl,hs⟩;obtain⟨L4,hL4,hS4,hg4⟩:=hs;have B14:Below w.heap.size w w90:=HBE.out.trans (hg4.below (fun k hk=>Nat.le_trans HB1.out.size (HNL.out k hk)) HBE.out.size);clear hg4 hS4;go_wp2_with fail;go_ret;exact⟨rfl,B14⟩
theorem law_vdec (node:Int) (v:Value) (fs:List SFact) (na qa:Int) (cl ca:Bool) (ea:Int→Addr) (w:World) (hE:EnvS ea w) (hR:ReadFacts w v fs) (hF:∀f∈fs,F64 f.ex):Calls Tryz.prog 12 #[.int .i64 node,v,.agg #[na,qa,.bool cl,.bool ca]] w (Makes (.bool true) w):=by
 cases hg:lGet (splay node fs) na qa with
 | none=>exact law_vdec_none node v fs na qa cl ca ea w hE hR hF hg
 | some x=>exact law_vdec_some node v fs na qa cl ca ea w hE hR hF x.1 x.2 hg
open Go.ChangeShapes Go.WideShapes Go.ChangeAt Go.WideMaps Go.WideElems Go.RowKit Go.Joins
theorem verdictDecides_laid {l:List (String×DataW Unit)} (hl:l=Rows.verdictDecidesRow.laid) {W:World} (h:laidMetH Tryz.prog l W):∃ea,EnvS ea W:=by
 subst hl;exact envS_of_laid (A:=Rows.verdictDecidesRow.laid.take 2) (B:=Rows.verdictDecidesRow.laid.drop 3) ⟨by rw[pow10_dataS];rfl,Rows.verdictDecidesRow.laid.drop 17,rfl⟩ (by kernel_rfl) h
theorem verdictDecides_lifted (os : Os) (started : os.Started) (H : Type) (enc : TypeId × Value → H) :
    ReturnsInHanded {} Tryz.checked os 12 .any (fun w args=>(Rows.verdictDecidesSpec.pre enc Tryz.prog Tryz.f12 [] false w args∧laidMetH Tryz.prog Rows.verdictDecidesRow.laid w)∧sizedMet enc Tryz.prog Tryz.f12 (OpenSpec.ofChange Rows.verdictDecidesSpec) false w args)
     (Rows.verdictDecidesSpec.post enc Tryz.prog Tryz.f12 false true false false):=by
 refine handed_and_shaped (C:=Tryz.checked) (X:=fun w _=>laidMetH Tryz.prog Rows.verdictDecidesRow.laid w) (fun _ _ _ hh h=>h.of_heap hh) Tryz.own started (by kernel_rfl) Tryz.func12
  (ChangeSpec.witness_shaped (enc:=enc) (C:=Tryz.checked) (os:=os) (X:=fun w _=>laidMetH Tryz.prog Rows.verdictDecidesRow.laid w) false (World.laidAll Tryz.prog os Rows.verdictDecidesRow.laid) #[.int .i64 0,.slice none 0 0,.agg #[.int .i64 0,.int .i64 0,.bool false,.bool false]] 8 (World.laidAll_os _ _ _) (World.shaped_of_ZipB (by kernel_rfl) (by kernel_rfl)) (by kernel_rfl) (by kernel_rfl) (by kernel_rfl)
    (by rw[MakeChecks.laidMetH_plain _ _ _ (by kernel_rfl)];exact laidMet_laidAll _ (by kernel_rfl) (by kernel_rfl))) ?_
 intro W base args ds gs before hval0 hW _ hsz hL hshape _;have hval:∀(j:Nat) t v,Tryz.f12.params[j]? =some t→args[j]? =some v→Value.okWide Tryz.prog W .any base t v:=hval0;have hpost:∀W',Below W.heap.size W W'→Rows.verdictDecidesSpec.post enc Tryz.prog Tryz.f12 false true false false W args (.bool true) W':=fun W' hb=>
  frame_post (by rw[Tryz.params12];decide+kernel) rfl rfl (fun ds h=>by rw[Tryz.params12] at h;match ds,h with | [d0,d1,d2],_=>exact⟨rfl,rfl,rfl⟩) hW hb
 obtain⟨p,q,hA0,hV,rfl,hfz,hnd⟩:=hW;have hA:DataW.TrodAll enc Tryz.prog W 0 (fun _=>true) true Tryz.f12.params.toList args.toList ds p:=hA0;rw[Tryz.params12] at hA hval;obtain⟨v0,v1,v2,d0,d1,d2,p0,p1,p2,rfl,rfl,rfl,h0,h1,h2⟩:=trodAll_three hA;obtain⟨x,rfl,_,_,wx⟩:=open_int Tryz.underlying3 (hval 0 _ v0 rfl rfl) h0;obtain⟨a1,n1,c1,rfl⟩:=okWide_slice Tryz.underlying22 (hval 1 _ v1 rfl rfl)
 obtain⟨fs,hR,hF⟩:=open_facts h1;obtain⟨na,qa,cl,ca,rfl⟩:=open_dec (hval 2 _ v2 rfl rfl) h2;obtain⟨ea,hE⟩:=(verdictDecides_laid rfl hL)
 exact(law_vdec x _ fs na qa cl ca ea W hE hR hF).mono fun e W' ⟨he,hb⟩=>⟨_,he,hpost W' hb⟩
theorem verdictDecides_joined:joinedFacts Tryz.pinned.checked.prog 12 Tryz.f12 Rows.verdictDecidesSpec Rows.verdictDecidesRow=true:=by
 unfold joinedFacts;simp only[Bool.and_eq_true]
 repeat' apply And.intro
 · as_aux_lemma=>kernel_rfl
 · exact js_laid
 · exact js_maps
 · as_aux_lemma=>kernel_rfl
 · as_aux_lemma=>kernel_rfl
 · as_aux_lemma=>kernel_rfl
 · as_aux_lemma=>kernel_rfl
 · as_aux_lemma=>kernel_rfl
 · as_aux_lemma=>kernel_rfl
 · as_aux_lemma=>kernel_rfl
 · as_aux_lemma=>kernel_rfl
 · as_aux_lemma=>kernel_rfl
 · as_aux_lemma=>kernel_rfl
 · as_aux_lemma=>kernel_rfl
 · as_aux_lemma=>kernel_rfl
 · as_aux_lemma=>kernel_rfl
 · as_aux_lemma=>kernel_rfl
 · as_aux_lemma=>kernel_rfl
 · as_aux_lemma=>kernel_rfl
 · as_aux_lemma=>kernel_rfl
 · as_aux_lemma=>kernel_rfl
 · as_aux_lemma=>kernel_rfl
 · exact js_plain
 · as_aux_lemma=>kernel_rfl
 · exact js_heard
 · exact js_enter
 · exact js_lift
 · exact js_make
 · as_aux_lemma=>kernel_rfl
 · as_aux_lemma=>kernel_rfl
 · as_aux_lemma=>kernel_rfl
 · as_aux_lemma=>kernel_rfl
end Go.Proofs.YtlkajejbfojkeaaGreatDoor
