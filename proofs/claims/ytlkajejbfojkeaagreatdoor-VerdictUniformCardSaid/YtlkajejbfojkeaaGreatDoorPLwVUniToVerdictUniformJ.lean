/- LwVUni, LwVUni2, LwVUni3, LwVUniW, VerdictUniformL, VerdictUniformJ -/
import Derived.Test.YtlkajejbfojkeaaGreatDoorPRstEToJoinS
import Derived.Lay
set_option linter.unusedSimpArgs false
set_option linter.unusedVariables false
set_option maxRecDepth 100000
set_option maxHeartbeats 16000000
namespace Go.Proofs.YtlkajejbfojkeaaGreatDoor
open Go.RowKit
attribute [local go_sem] store_float
theorem vDecide_err {S:Sto} {n q:Int} {cl:Bool} (h:(vDecide S n q cl).2≠0):(vDecide S n q cl).1=res0:=by
 unfold vDecide at h⊢;split
 · rfl
 · split
   · rfl
   · rename_i i a hg hn
     rw[hg] at h;simp only at h;rw[if_neg hn] at h;exact absurd rfl h
theorem vDecide_ok {S:Sto} {n q:Int} {cl:Bool} (h:(vDecide S n q cl).2=0):∃i a,lGet S n q=some (i,a)∧a.oc=1∧a.de=0∧(cl=true→vReady a=true)∧(vDecide S n q cl).1=⟨fDecide n q (vDec cl)::vFs (vDec cl) a,vMs S (vDec cl) a,0⟩:=by
 unfold vDecide at h⊢
 cases hg:lGet S n q with
 | none=>rw[hg] at h;simp at h
 | some x=>
  obtain⟨i,a⟩:=x;rw[hg] at h;simp only at h⊢;by_cases hn:a.oc≠1∨a.de≠0∨(cl=true∧vReady a=false)
  · rw[if_pos hn] at h;simp at h
  · rw[if_neg hn];refine⟨i,a,rfl,Classical.byContradiction fun e=>hn (.inl e),Classical.byContradiction fun e=>hn (.inr (.inl e)),fun hc=> ?_,rfl⟩
    cases hv:vReady a with
    | true=>rfl
    | false=>exact absurd (.inr (.inr ⟨hc,hv⟩)) hn
theorem sfit_good {S:Sto} (hS:StoGood S) (l:List SFact):StoGood (sfit S l).1:=by
 induction l generalizing S with
 | nil=>exact hS
 | cons f t ih=>
  unfold sfit;split
  · exact ih (sapply_good hS)
  · exact sapply_good hS
theorem law_vuni_err (node:Int) (v:Value) (fs:List SFact) (na qa:Int) (cl ca:Bool) (ea:Int→Addr) (w:World) (hE:EnvS ea w) (hR:ReadFacts w v fs) (hF:∀f∈fs,F64 f.ex) (hen:(vDecide (splay node fs) na qa cl).2≠0):Calls Tryz.prog 13 #[.int .i64 node,v,.agg #[na,qa,.bool cl,.bool ca]] w (Makes (.bool true) w):=by
 obtain⟨av,cap,rfl,hrow⟩:=hR;have hR':∀W,Below w.heap.size w W→ReadFacts W (.slice av fs.length cap) fs:=fun W hW=>⟨av,cap,rfl,fun hn=>by
   obtain⟨b,off,rfl,hb,hf⟩:=hrow hn;exact⟨b,off,rfl,Nat.lt_of_lt_of_le hb hW.size,fun j hj=>(hf j hj).below hW hb⟩⟩
 have HE:=qq hE;have HAL:=qq (fun W (hW:Below w.heap.size w W)=>alive18 W);have HBN:=qq (fun W (hW:Below w.heap.size w W) h=>built18_no node _ fs ea W (hE.below hW) (hR' W hW) h);have HBY:=qq (fun W (hW:Below w.heap.size w W) h1 h2=>built18_yes node _ fs ea W (hE.below hW) (hR' W hW) hF h1 h2);have HGD:=qq (fun h=>splay_good (node:=node) h fs);obtain⟨n,hn⟩:∃n,n=fs.length:=⟨_,rfl⟩
 obtain⟨S,hS⟩:∃S,S=splay node fs:=⟨_,rfl⟩
 rw[←hn] at HBN HBY⊢;rw[←hS] at HBY HGD;rw[←hS] at hen;have HDe:=qq (fun L W h1 h2 h3=>vdecide_of L S na qa cl ea W h1 h2 h3);rw[vDecide_err hen] at HDe;unfold DirEnds at HDe;obtain⟨en,hen2⟩:∃n,n=(vDecide S na qa cl).2:=⟨_,rfl⟩
 rw[←hen2] at HDe hen;have hee:errOf ea en=errV (ea en):=by unfold errOf;rw[if_neg hen]
 rw[hee] at HDe;unfold errV at HDe;dsimp only[res0,List.length_nil] at HDe;obtain⟨ep,hep⟩:∃p,p=ea en:=⟨_,rfl⟩
 rw[←hep] at HDe;have hne:∀W:World,(binOp .neq 26 (.iface 387 (.pointer (some ep))) .nilIface).run Tryz.prog W=.ok (.bool true) W:=fun W=>by kernel_rfl
 clear hen hen2 hee hep;clear hE hR' hrow hF hn hS;by_cases hok:(0≤node∧node≤3)∧n≤60
 case neg=>
  go_enter Tryz.func13,Tryz.ntmps13;go_wp2_with fail;refine(HAL.out _ (by go_grown)).mono ?_;rintro e w1 ⟨rfl,hb1⟩;have B1:Below w.heap.size w w1:=below_then (by go_grown) hb1;go_wp2_with fail;refine(HBN.out _ B1 hok).mono ?_;rintro e w2 ⟨rfl,hb2⟩;have B2:Below w.heap.size w w2:=below_then B1 hb2;go_wp2_with fail;go_ret;exact⟨rfl,B2⟩
 obtain⟨hnd,hln⟩:=hok;have HGS:=qq (HGD.out hnd);go_enter Tryz.func13,Tryz.ntmps13;go_wp2_with fail;refine(HAL.out _ (by go_grown)).mono ?_;rintro e w1 ⟨rfl,hb1⟩;have B1:Below w.heap.size w w1:=below_then (by go_grown) hb1;have HX:=qq ((Blk.fresh w #[na,qa,.bool cl,.bool ca] 110 _ rfl).below hb1);clear hb1;go_wp2_with fail;refine(HBY.out _ B1 hnd hln).mono ?_;rintro e w2 ⟨L,R,rfl,hB⟩
 have B2:Below w.heap.size w w2:=below_then B1 hB.be;have HNL:Hid (∀k∈L.foot,w1.heap.size≤k):=qq hB.nl;have HW1:=qq (show w1.heap.size≤w2.heap.size from hB.be.size);have HB1:=qq B1;have HB12:=qq hB.be;have HX:=qq (HX.out.below hB.be);have HL:=qq hB.st;have HR:=qq hB.rs;clear hB B1;obtain⟨lHX,qHX,fHX⟩:=HX.out;go_wp2_with fail;clear qHX fHX lHX
 refine(HDe.out L _ (HE.out.below B2) HL.out HGS.out).mono ?_;rintro e w11 ⟨a2,c2,b2,d2,rfl,hR2,hb11⟩;have HBE:=qq (below_then B2 hb11);clear hR2 hb11;go_wp2_with fail;go_ret;exact⟨rfl,below_then HBE.out (by go_grown)⟩
theorem fieldR0v (x y z:Value):∀w,(Instr.field 87 (.agg #[x,y,z]) 0).run Tryz.prog w=.ok x w:=fun _=>by kernel_rfl
theorem law_vuni_yes (node:Int) (v:Value) (fs:List SFact) (na qa:Int) (ca:Bool) (ea:Int→Addr) (w:World) (hE:EnvS ea w) (hR:ReadFacts w v fs) (hF:∀f∈fs,F64 f.ex) (hen:(vDecide (splay node fs) na qa true).2=0):Calls Tryz.prog 13 #[.int .i64 node,v,.agg #[na,qa,.bool true,.bool ca]] w (Makes (.bool true) w):=by
 obtain⟨av,cap,rfl,hrow⟩:=hR;have hR':∀W,Below w.heap.size w W→ReadFacts W (.slice av fs.length cap) fs:=fun W hW=>⟨av,cap,rfl,fun hn=>by
   obtain⟨b,off,rfl,hb,hf⟩:=hrow hn;exact⟨b,off,rfl,Nat.lt_of_lt_of_le hb hW.size,fun j hj=>(hf j hj).below hW hb⟩⟩
 have HE:=qq hE;have HAL:=qq (fun W (hW:Below w.heap.size w W)=>alive18 W);have HBN:=qq (fun W (hW:Below w.heap.size w W) h=>built18_no node _ fs ea W (hE.below hW) (hR' W hW) h);have HBY:=qq (fun W (hW:Below w.heap.size w W) h1 h2=>built18_yes node _ fs ea W (hE.below hW) (hR' W hW) hF h1 h2);have HGD:=qq (fun h=>splay_good (node:=node) h fs);obtain⟨n,hn⟩:∃n,n=fs.length:=⟨_,rfl⟩
 obtain⟨S,hS⟩:∃S,S=splay node fs:=⟨_,rfl⟩
 rw[←hn] at HBN HBY⊢;rw[←hS] at HBY HGD;rw[←hS] at hen;have HDe:=qq (fun L W h1 h2 h3=>vdecide_of L S na qa true ea W h1 h2 h3);have HLN:=qq (fun(h:StoGood S)=>vDecide_len h (n:=na) (q:=qa) (cl:=true));obtain⟨i,a,hg,ho,h0,hrd,hr2⟩:=vDecide_ok hen;have hex2:=vDecide_ex (S:=S) (n:=na) (q:=qa) (cl:=true);rw[hr2] at HDe HLN hex2;rw[hen] at HDe
 have HFT:=qq (fun(h:StoGood S)=>decide_fits h hg ho h0 (d:=vDec true) (by unfold vDec;simp));have HDA:=qq (fun(h:StoGood S) T hT=>decide_after (T:=T) (cl:=true) h hg ho h0 hrd hT);have hlm:(vFs (vDec true) a).length=(vMs S (vDec true) a).length:=vFs_ms S (vDec true) a;dsimp only at hex2 HLN;obtain⟨fs2,hfs2⟩:∃x,x=fDecide na qa (vDec true)::vFs (vDec true) a:=⟨_,rfl⟩
 obtain⟨ms2,hms2⟩:∃x,x=vMs S (vDec true) a:=⟨_,rfl⟩
 rw[←hfs2] at HDe HLN hex2 HFT HDA;rw[←hms2] at HDe HLN hlm;have hln:fs2.length=ms2.length+1:=by rw[hfs2,List.length_cons,hlm]
 have HEX:=qq (show ∀f∈fs2,F64 f.ex by intro f hf;rw[hex2 f hf];unfold F64;decide);have e0:errOf ea 0=.nilIface:=rfl;unfold DirEnds at HDe;rw[e0] at HDe;dsimp only at HDe;obtain⟨nm,hnm⟩:∃n,n=ms2.length:=⟨_,rfl⟩
 rw[←hnm] at HDe hln HLN;rw[hln] at HDe HLN;have HL2:=qq hln;clear hen hg ho h0 hrd hr2 hex2 hfs2 hms2 hlm e0 hnm hln;clear hE hR' hrow hF hn hS;by_cases hok:(0≤node∧node≤3)∧n≤60
 case neg=>
  go_enter Tryz.func13,Tryz.ntmps13;go_wp2_with fail;refine(HAL.out _ (by go_grown)).mono ?_;rintro e w1 ⟨rfl,hb1⟩;have B1:Below w.heap.size w w1:=below_then (by go_grown) hb1;go_wp2_with fail;refine(HBN.out _ B1 hok).mono ?_;rintro e w2 ⟨rfl,hb2⟩;have B2:Below w.heap.size w w2:=below_then B1 hb2;go_wp2_with fail;go_ret;exact⟨rfl,B2⟩
 obtain⟨hnd,hln⟩:=hok;have HGS:=qq (HGD.out hnd);go_enter Tryz.func13,Tryz.ntmps13;go_wp2_with fail;refine(HAL.out _ (by go_grown)).mono ?_;rintro e w1 ⟨rfl,hb1⟩;have B1:Below w.heap.size w w1:=below_then (by go_grown) hb1;have HX0:=qq (show w.heap.size<w1.heap.size by have:=hb1.size;simp at this;omega);have HX:=qq ((Blk.fresh w #[na,qa,.bool true,.bool ca] 110 _ rfl).below hb1);clear hb1
 go_wp2_with fail;refine(HBY.out _ B1 hnd hln).mono ?_;rintro e w2 ⟨L,R,rfl,hB⟩;have B2:Below w.heap.size w w2:=below_then B1 hB.be;have HNL:Hid (∀k∈L.foot,w1.heap.size≤k):=qq hB.nl;have HW1:=qq (show w1.heap.size≤w2.heap.size from hB.be.size);have HB1:=qq B1;have HB12:=qq hB.be;have HX:=qq (HX.out.below hB.be);have HL:=qq hB.st;have HR:=qq hB.rs;clear hB B1;have hfit:=HFT.out HGS.out
 obtain⟨T,hTe⟩:∃T:Sto,T=(sfit S fs2).1:=⟨_,rfl⟩
 have hfT:sfit S fs2=(T,true):=by rw[hTe,hfit]
 have HFT:=qq hfT;have HGT:=qq (show StoGood T by rw[hTe];exact sfit_good HGS.out fs2);obtain⟨c,hgc,hde,hz,hyes,hno⟩:=HDA.out HGS.out T hfT;have HGC:=qq hgc;have HND:=qq (not_due HGT.out hgc hz);have hcn:vCarry T na qa=res0:=by unfold vCarry;rw[hgc];exact vRes_nil hz
 have HCA:=qq (fun W h1 (L:SLoc) h2=>vcarry_of L T na qa ea W h1 h2 HGT.out);rw[hcn] at HCA;have HLC:=qq (HGT.out.act c (lGet_some hgc).2.2.1).len;have HYES:=qq (hyes (by first | rfl | trivial));have HLN:=qq (HLN.out HGS.out);clear hfit hTe hfT hgc hde hz hyes hno hcn HDA;obtain⟨lHX,qHX,fHX⟩:=HX.out;go_wp2_with fail;clear qHX fHX lHX;refine(HDe.out L _ (HE.out.below B2) HL.out HGS.out).mono ?_
 rintro e w11 ⟨a2,c2,b2,d2,rfl,hR2,hb11⟩;have HAP:Hid (∀k,sliceBlock (.slice a2 (nm+1) c2)=some k→k∉L.foot):=qq (fun k hk hl=>by have h1:=hR2.ff k hk;have h2:=HL.out.lt k hl;omega);have HF2:Hid (ReadFacts w11 (.slice a2 fs2.length c2) fs2):=qq (by rw[HL2.out];exact hR2.f);have HX:=qq (HX.out.below hb11);have HL1:=qq (HL.out.below hb11);have HBE:=qq (below_then B2 hb11)
 have HFL:Hid (∀k∈L.foot,k<w11.heap.size):=qq HL1.out.lt;have HNX:Hid (w.heap.size∉L.foot):=qq (fun hk=>by have h1:=HNL.out _ hk;have h2:=HB1.out.size;have h3:=HX0.out;omega);have z11:=hb11.size;clear hR2 hb11;have hal:=(Below.refl w11.heap.size w11).alloc (Nat.le_refl _) (.cells #[.slice a2 (nm+1) c2,.slice b2 nm d2,.int .i64 0] 87)
 have HFI:=qq (fit18_of L S (.slice a2 fs2.length c2) fs2 ea w _ HE.out (below_then HBE.out hal) (fun k hk=>Nat.le_trans HB1.out.size (HNL.out k hk)) (HL1.out.below hal) HGS.out (HF2.out.below hal) (by rw[HL2.out];exact HAP.out) HEX.out (by have:=HLN.out.1;have:=HL2.out;omega));rw[HFT.out,HL2.out] at HFI;have HX2:=qq (HX.out.below hal);have HBE2:=qq (below_then HBE.out hal)
 have K0:=qq (Blk.fresh w11 #[.slice a2 (nm+1) c2,.slice b2 nm d2,.int .i64 0] 87 _ rfl);clear hal;go_wp2_with fail;refine HFI.out.mono ?_;rintro e w13 ⟨rfl,hs⟩;obtain⟨L4,hL4,hS4,hg4⟩:=hs;have HB13:=qq (HBE2.out.trans (hg4.below (fun k hk=>Nat.le_trans HB1.out.size (HNL.out k hk)) HBE2.out.size))
 have K0:=qq (hg4.blk K0.out (fun hk=>by have:=HFL.out _ hk;omega));have HX:=qq (hg4.blk HX2.out HNX.out);have HST:=qq hS4;rw[←hL4];obtain⟨l0,q0,f0⟩:=K0.out;obtain⟨lx,qx,fx⟩:=HX.out;have hlen9:nm≤7:=by have:=HLN.out.2;omega
 clear hg4 hS4 hL4 HX2 HBE2 HFI HF2 HL1;go_wp2_with fail;have HF:=qq (fun W hW=>Find_yes L4 T na qa _ c W hW HGT.out HGC.out);unfold ActOut actC at HF;have HCR:=HYES.out;refine(HF.out _ HST.out).mono ?_;rintro e w14 ⟨v',rfl,ho,hb14⟩;have hrr:=regRow_of ho;obtain⟨va,vc,rfl,hlen,hrow⟩:=reg_row ho
 have HX:=qq (HX.out.below hb14);have HST:=qq (HST.out.below hb14);have HB14:=qq (below_then HB13.out hb14);obtain⟨m,hm⟩:∃m,m=c.regs.length:=⟨_,rfl⟩
 rw[←hm];have HROW:Hid (∀(k:Nat) (r:SReg),c.regs[k]? =some r→∃g,va=some ⟨g,0,none⟩∧g<w14.heap.size∧RegC w14 g (k*6) r):=qq (fun k r hk=>by
   obtain⟨g,h1,h2,_,h3⟩:=hrow (by have:=(List.getElem?_eq_some_iff.1 hk).1;omega);exact⟨g,h1,h2,h3 k r hk⟩)
 have HRR:=qq hrr;rw[←hm] at HRR;have HM:=qq hm;have hm6:m≤6:=by rw[hm];exact HLC.out
 have HUN:=qq (fun W (hW:Below w14.heap.size w14 W)=>vuniform_of c (.slice va c.regs.length vc) c.regs W (hrr.below hW) (by have:=HLC.out;omega));rw[←hm] at HUN;clear ho hb14 hrow hlen q0 f0 l0 qx fx lx hrr hm HF;obtain⟨an,aq,oc,dp,ex,pa,de,rs⟩:=c;dsimp only[vactV,vactC] at*;obtain⟨w15,hw15⟩:∃W,W=w14.alloc (.cells #[an,aq,oc,dp,.float .f64 ex,pa,de,.slice va m vc] 51):=⟨_,rfl⟩
 have HB15:=qq (show Below w14.heap.size w14 w15 by rw[hw15];exact(Below.refl _ _).alloc (Nat.le_refl _) _);have KA:=qq (show Blk w15 w14.heap.size #[an,aq,oc,dp,.float .f64 ex,pa,de,.slice va m vc] by rw[hw15];exact Blk.fresh _ _ _ _ rfl);obtain⟨AB,hAB⟩:∃b,b=w14.heap.size:=⟨_,rfl⟩
 obtain⟨lx,qx,fx⟩:=HX.out;have HX:=qq (HX.out.below HB15.out);have HST:=qq (HST.out.below HB15.out);have HBW:=qq (below_then HB14.out HB15.out);go_wp2_with fail;rw[←hw15];rw[←hAB] at KA;simp only[←hAB];clear hw15 hAB qx fx lx;go_loopw [75] (fun cc wr=>∃k:Nat,k≤m∧cc=.int .i64 (k:Int)∧Hid (Below w15.heap.size w15 wr)) (fun cc _=>m - (intOf cc).toNat)
 case atStart=>exact⟨0,by omega,by first | rfl | go_num,qq (Below.refl _ _)⟩
 case round=>
  obtain⟨k,hk,rfl,HBL⟩:=hrel;by_cases hlt:k<m
  · as_aux_lemma=>
    obtain⟨r,hrk⟩:∃r,rs[k]? =some r:=⟨_,List.getElem?_eq_getElem (by have:=HM.out;omega)⟩
    obtain⟨g,rfl,hg1,hcell⟩:=HROW.out k r hrk;have hy:=HYES.out.1 r (List.mem_of_getElem? hrk);obtain⟨rn,rp,⟨sp,sd,ss,sh⟩⟩:=r;have hbW:=below_then HB15.out HBL.out;obtain⟨p0,p1,p2,p3,p4,p5⟩:=hcell.below hbW hg1;have hgl:=Nat.lt_of_lt_of_le hg1 hbW.size;have hk0:(0:Int)≤(k:Int):=by omega
    have hk1:(k:Int)<(m:Int):=by omega
    obtain⟨lx,qx,fx⟩:=HX.out.below HBL.out;dsimp only at p0 p1 p2 p3 p4 p5 hy;clear hrk hcell hg1 hbW;have hor:((!(ss==6)) && (!(sh==1)))=false:=by rcases hy with e | e<;>simp[e]
    by_cases hs6:ss=6
    · have e6:(ss !=6)=false:=by simp[hs6]
      clear hy hor hs6;go_wp2_with fail;go_roundw
      case rel=>exact⟨k+1,by omega,by go_num,qq (bel_alloc HBL.out _)⟩
      case measure=>simp[intOf];omega
    · have e6:(ss !=6)=true:=by simp[hs6]
      have e1:(sh !=1)=false:=by rcases hy with e | e;exact absurd e hs6;simp[e]
      clear hy hor hs6;go_wp2_with fail;go_roundw
      case rel=>exact⟨k+1,by omega,by go_num,qq (bel_alloc HBL.out _)⟩
      case measure=>simp[intOf];omega
  as_aux_lemma=>
   obtain rfl:k=m:=by omega
   have hbw:=HBL.out;obtain⟨w16,hw16⟩:∃W,W=wr:=⟨_,rfl⟩
   rw[←hw16] at hbw⊢;have HX:=qq (HX.out.below hbw);have HST:=qq (HST.out.below hbw);have HBW:=qq (below_then HBW.out hbw);have KA:=qq (KA.out.below hbw);have HB14W:=qq (below_then HB15.out hbw);clear hbw HBL hw16 hlt hk;go_wp2_with fail;refine(vdue_of L4 T _ HST.out HGT.out).mono ?_;rintro e w17 ⟨Bd,vd,rfl,hrd,hb17⟩;have hids:=read_ids hrd;obtain⟨a3,c3,hvd⟩:=row_slice hrd;subst hvd
   have HDD:=qq hids;have hd8:=vDue_len HGT.out;obtain⟨nd,hnd⟩:∃n,n=(vDue T).length:=⟨_,rfl⟩
   rw[←hnd] at hd8⊢;have HNDL:=qq hnd;have HX:=qq (HX.out.below hb17);have HST:=qq (HST.out.below hb17);have HBW:=qq (below_then HBW.out hb17);have KA:=qq (KA.out.below hb17);have HB14W:=qq (below_then HB14W.out hb17);clear hrd hids hb17 hnd;go_wp2_with fail;go_loopw [118] (fun cc wr=>∃k:Nat,k≤nd∧cc=.int .i64 (k:Int)∧Hid (Below w17.heap.size w17 wr)) (fun cc _=>nd - (intOf cc).toNat)
   case atStart=>exact⟨0,by omega,by first | rfl | go_num,qq (Below.refl _ _)⟩
   case round=>
    obtain⟨j,hj,rfl,HBL⟩:=hrel;by_cases hlt:j<nd
    · as_aux_lemma=>
      obtain⟨x,hx⟩:∃x,(vDue T)[j]? =some x:=⟨_,List.getElem?_eq_getElem (by rw[←HNDL.out];exact hlt)⟩
      obtain⟨_,_,hv1,hr1⟩:=HDD.out.below HBL.out;simp only[Value.slice.injEq,true_and] at hv1;obtain⟨rfl,rfl⟩:=hv1;obtain⟨g1,rfl,hg1,p0,p1⟩:=hr1 j x hx;have hnex:¬(x.1=na∧x.2=qa):=fun e=>HND.out (by have h1:=List.mem_of_getElem? hx;obtain⟨x1,x2⟩:=x;rw[←e.1,←e.2];exact h1)
      obtain⟨x0,x1⟩:=x;have heq:∀W:World,(binOp .eql 36 (.agg #[x0,x1]) (.agg #[na,qa])).run Tryz.prog W=.ok (.bool false) W:=fun W=>by rw[actEq,decide_eq_false hnex]
      have hk0:(0:Int)≤(j:Int):=by omega
      have hk1:(j:Int)<(nd:Int):=by omega
      obtain⟨lx,qx,fx⟩:=HX.out.below HBL.out;dsimp only at p0 p1;clear hx hr1 hnex;go_wp2_with fail;go_roundw
      case rel=>exact⟨j+1,by omega,by go_num,qq (bel_alloc HBL.out _)⟩
      case measure=>simp[intOf];omega
    as_aux_lemma=>
     obtain rfl:j=nd:=by omega
     have hbw:=HBL.out;obtain⟨w18,hw18⟩:∃W,W=wr:=⟨_,rfl⟩
     rw[←hw18] at hbw⊢;have HX:=qq (HX.out.below hbw);have HST:=qq (HST.out.below hbw);have HBW:=qq (below_then HBW.out hbw);have KA:=qq (KA.out.below hbw);have HB14W:=qq (below_then HB14W.out hbw);clear hbw HBL hw18 hlt hj;obtain⟨lx,qx,fx⟩:=HX.out;obtain⟨la,qA,fA⟩:=KA.out;go_wp2_with fail;have hunt:((rs.all fun s=> !qCloses s) || (rs.all fun s=> !qUndoes s))=true:=by rw[HYES.out.2,Bool.or_true]
     rw[hunt] at HUN;refine(HUN.out _ HB14W.out).mono ?_;rintro e w19 ⟨rfl,hb19⟩;have HX:=qq (HX.out.below hb19);have HST:=qq (HST.out.below hb19);have HBW:=qq (below_then HBW.out hb19);clear qx fx lx la qA fA hb19 hunt;obtain⟨lx,qx,fx⟩:=HX.out;go_wp2_with fail;refine(HCA.out _ (HE.out.below HBW.out) L4 HST.out).mono ?_;rintro e w20 ⟨a5,c5,b5,d5,rfl,_,hb20⟩;have HBW:=qq (below_then HBW.out hb20)
     have hfd:=fieldR0v;dsimp only[res0,List.length_nil];clear hb20;go_wp2_with fail;go_ret;exact⟨rfl,HBW.out⟩
theorem law_vuni_no (node:Int) (v:Value) (fs:List SFact) (na qa:Int) (ca:Bool) (ea:Int→Addr) (w:World) (hE:EnvS ea w) (hR:ReadFacts w v fs) (hF:∀f∈fs,F64 f.ex) (hen:(vDecide (splay node fs) na qa false).2=0):Calls Tryz.prog 13 #[.int .i64 node,v,.agg #[na,qa,.bool false,.bool ca]] w (Makes (.bool true) w):=by
 obtain⟨av,cap,rfl,hrow⟩:=hR;have hR':∀W,Below w.heap.size w W→ReadFacts W (.slice av fs.length cap) fs:=fun W hW=>⟨av,cap,rfl,fun hn=>by
   obtain⟨b,off,rfl,hb,hf⟩:=hrow hn;exact⟨b,off,rfl,Nat.lt_of_lt_of_le hb hW.size,fun j hj=>(hf j hj).below hW hb⟩⟩
 have HE:=qq hE;have HAL:=qq (fun W (hW:Below w.heap.size w W)=>alive18 W);have HBN:=qq (fun W (hW:Below w.heap.size w W) h=>built18_no node _ fs ea W (hE.below hW) (hR' W hW) h);have HBY:=qq (fun W (hW:Below w.heap.size w W) h1 h2=>built18_yes node _ fs ea W (hE.below hW) (hR' W hW) hF h1 h2);have HGD:=qq (fun h=>splay_good (node:=node) h fs);obtain⟨n,hn⟩:∃n,n=fs.length:=⟨_,rfl⟩
 obtain⟨S,hS⟩:∃S,S=splay node fs:=⟨_,rfl⟩
 rw[←hn] at HBN HBY⊢;rw[←hS] at HBY HGD;rw[←hS] at hen;have HDe:=qq (fun L W h1 h2 h3=>vdecide_of L S na qa false ea W h1 h2 h3);have HLN:=qq (fun(h:StoGood S)=>vDecide_len h (n:=na) (q:=qa) (cl:=false));obtain⟨i,a,hg,ho,h0,hrd,hr2⟩:=vDecide_ok hen;have hex2:=vDecide_ex (S:=S) (n:=na) (q:=qa) (cl:=false);rw[hr2] at HDe HLN hex2;rw[hen] at HDe
 have HFT:=qq (fun(h:StoGood S)=>decide_fits h hg ho h0 (d:=vDec false) (by unfold vDec;simp));have HDA:=qq (fun(h:StoGood S) T hT=>decide_after (T:=T) (cl:=false) h hg ho h0 hrd hT);have hlm:(vFs (vDec false) a).length=(vMs S (vDec false) a).length:=vFs_ms S (vDec false) a;dsimp only at hex2 HLN;obtain⟨fs2,hfs2⟩:∃x,x=fDecide na qa (vDec false)::vFs (vDec false) a:=⟨_,rfl⟩
 obtain⟨ms2,hms2⟩:∃x,x=vMs S (vDec false) a:=⟨_,rfl⟩
 rw[←hfs2] at HDe HLN hex2 HFT HDA;rw[←hms2] at HDe HLN hlm;have hln:fs2.length=ms2.length+1:=by rw[hfs2,List.length_cons,hlm]
 have HEX:=qq (show ∀f∈fs2,F64 f.ex by intro f hf;rw[hex2 f hf];unfold F64;decide);have e0:errOf ea 0=.nilIface:=rfl;unfold DirEnds at HDe;rw[e0] at HDe;dsimp only at HDe;obtain⟨nm,hnm⟩:∃n,n=ms2.length:=⟨_,rfl⟩
 rw[←hnm] at HDe hln HLN;rw[hln] at HDe HLN;have HL2:=qq hln;clear hen hg ho h0 hrd hr2 hex2 hfs2 hms2 hlm e0 hnm hln;clear hE hR' hrow hF hn hS;by_cases hok:(0≤node∧node≤3)∧n≤60
 case neg=>
  go_enter Tryz.func13,Tryz.ntmps13;go_wp2_with fail;refine(HAL.out _ (by go_grown)).mono ?_;rintro e w1 ⟨rfl,hb1⟩;have B1:Below w.heap.size w w1:=below_then (by go_grown) hb1;go_wp2_with fail;refine(HBN.out _ B1 hok).mono ?_;rintro e w2 ⟨rfl,hb2⟩;have B2:Below w.heap.size w w2:=below_then B1 hb2;go_wp2_with fail;go_ret;exact⟨rfl,B2⟩
 obtain⟨hnd,hln⟩:=hok;have HGS:=qq (HGD.out hnd);go_enter Tryz.func13,Tryz.ntmps13;go_wp2_with fail;refine(HAL.out _ (by go_grown)).mono ?_;rintro e w1 ⟨rfl,hb1⟩;have B1:Below w.heap.size w w1:=below_then (by go_grown) hb1;have HX0:=qq (show w.heap.size<w1.heap.size by have:=hb1.size;simp at this;omega);have HX:=qq ((Blk.fresh w #[na,qa,.bool false,.bool ca] 110 _ rfl).below hb1);clear hb1
 go_wp2_with fail;refine(HBY.out _ B1 hnd hln).mono ?_;rintro e w2 ⟨L,R,rfl,hB⟩;have B2:Below w.heap.size w w2:=below_then B1 hB.be;have HNL:Hid (∀k∈L.foot,w1.heap.size≤k):=qq hB.nl;have HW1:=qq (show w1.heap.size≤w2.heap.size from hB.be.size);have HB1:=qq B1;have HB12:=qq hB.be;have HX:=qq (HX.out.below hB.be);have HL:=qq hB.st;have HR:=qq hB.rs;clear hB B1;have hfit:=HFT.out HGS.out
 obtain⟨T,hTe⟩:∃T:Sto,T=(sfit S fs2).1:=⟨_,rfl⟩
 have hfT:sfit S fs2=(T,true):=by rw[hTe,hfit]
 have HFT:=qq hfT;have HGT:=qq (show StoGood T by rw[hTe];exact sfit_good HGS.out fs2);obtain⟨c,hgc,hde,hz,hyes,hno⟩:=HDA.out HGS.out T hfT;have HGC:=qq hgc;have HND:=qq (not_due HGT.out hgc hz);have hcn:vCarry T na qa=res0:=by unfold vCarry;rw[hgc];exact vRes_nil hz
 have HCA:=qq (fun W h1 (L:SLoc) h2=>vcarry_of L T na qa ea W h1 h2 HGT.out);rw[hcn] at HCA;have HLC:=qq (HGT.out.act c (lGet_some hgc).2.2.1).len;have HYES:=qq (hno (by first | rfl | trivial));have HLN:=qq (HLN.out HGS.out);clear hfit hTe hfT hgc hde hz hyes hno hcn HDA;obtain⟨lHX,qHX,fHX⟩:=HX.out;go_wp2_with fail;clear qHX fHX lHX;refine(HDe.out L _ (HE.out.below B2) HL.out HGS.out).mono ?_
 rintro e w11 ⟨a2,c2,b2,d2,rfl,hR2,hb11⟩;have HAP:Hid (∀k,sliceBlock (.slice a2 (nm+1) c2)=some k→k∉L.foot):=qq (fun k hk hl=>by have h1:=hR2.ff k hk;have h2:=HL.out.lt k hl;omega);have HF2:Hid (ReadFacts w11 (.slice a2 fs2.length c2) fs2):=qq (by rw[HL2.out];exact hR2.f);have HX:=qq (HX.out.below hb11);have HL1:=qq (HL.out.below hb11);have HBE:=qq (below_then B2 hb11)
 have HFL:Hid (∀k∈L.foot,k<w11.heap.size):=qq HL1.out.lt;have HNX:Hid (w.heap.size∉L.foot):=qq (fun hk=>by have h1:=HNL.out _ hk;have h2:=HB1.out.size;have h3:=HX0.out;omega);have z11:=hb11.size;clear hR2 hb11;have hal:=(Below.refl w11.heap.size w11).alloc (Nat.le_refl _) (.cells #[.slice a2 (nm+1) c2,.slice b2 nm d2,.int .i64 0] 87)
 have HFI:=qq (fit18_of L S (.slice a2 fs2.length c2) fs2 ea w _ HE.out (below_then HBE.out hal) (fun k hk=>Nat.le_trans HB1.out.size (HNL.out k hk)) (HL1.out.below hal) HGS.out (HF2.out.below hal) (by rw[HL2.out];exact HAP.out) HEX.out (by have:=HLN.out.1;have:=HL2.out;omega));rw[HFT.out,HL2.out] at HFI;have HX2:=qq (HX.out.below hal);have HBE2:=qq (below_then HBE.out hal)
 have K0:=qq (Blk.fresh w11 #[.slice a2 (nm+1) c2,.slice b2 nm d2,.int .i64 0] 87 _ rfl);clear hal;go_wp2_with fail;refine HFI.out.mono ?_;rintro e w13 ⟨rfl,hs⟩;obtain⟨L4,hL4,hS4,hg4⟩:=hs;have HB13:=qq (HBE2.out.trans (hg4.below (fun k hk=>Nat.le_trans HB1.out.size (HNL.out k hk)) HBE2.out.size))
 have K0:=qq (hg4.blk K0.out (fun hk=>by have:=HFL.out _ hk;omega));have HX:=qq (hg4.blk HX2.out HNX.out);have HST:=qq hS4;rw[←hL4];obtain⟨l0,q0,f0⟩:=K0.out;obtain⟨lx,qx,fx⟩:=HX.out;have hlen9:nm≤7:=by have:=HLN.out.2;omega
 clear hg4 hS4 hL4 HX2 HBE2 HFI HF2 HL1;go_wp2_with fail;have HF:=qq (fun W hW=>Find_yes L4 T na qa _ c W hW HGT.out HGC.out);unfold ActOut actC at HF;have HCR:=HYES.out;refine(HF.out _ HST.out).mono ?_;rintro e w14 ⟨v',rfl,ho,hb14⟩;have hrr:=regRow_of ho;obtain⟨va,vc,rfl,hlen,hrow⟩:=reg_row ho
 have HX:=qq (HX.out.below hb14);have HST:=qq (HST.out.below hb14);have HB14:=qq (below_then HB13.out hb14);obtain⟨m,hm⟩:∃m,m=c.regs.length:=⟨_,rfl⟩
 rw[←hm];have HROW:Hid (∀(k:Nat) (r:SReg),c.regs[k]? =some r→∃g,va=some ⟨g,0,none⟩∧g<w14.heap.size∧RegC w14 g (k*6) r):=qq (fun k r hk=>by
   obtain⟨g,h1,h2,_,h3⟩:=hrow (by have:=(List.getElem?_eq_some_iff.1 hk).1;omega);exact⟨g,h1,h2,h3 k r hk⟩)
 have HRR:=qq hrr;rw[←hm] at HRR;have HM:=qq hm;have hm6:m≤6:=by rw[hm];exact HLC.out
 have HUN:=qq (fun W (hW:Below w14.heap.size w14 W)=>vuniform_of c (.slice va c.regs.length vc) c.regs W (hrr.below hW) (by have:=HLC.out;omega));rw[←hm] at HUN;clear ho hb14 hrow hlen q0 f0 l0 qx fx lx hrr hm HF;obtain⟨an,aq,oc,dp,ex,pa,de,rs⟩:=c;dsimp only[vactV,vactC] at*;obtain⟨w15,hw15⟩:∃W,W=w14.alloc (.cells #[an,aq,oc,dp,.float .f64 ex,pa,de,.slice va m vc] 51):=⟨_,rfl⟩
 have HB15:=qq (show Below w14.heap.size w14 w15 by rw[hw15];exact(Below.refl _ _).alloc (Nat.le_refl _) _);have KA:=qq (show Blk w15 w14.heap.size #[an,aq,oc,dp,.float .f64 ex,pa,de,.slice va m vc] by rw[hw15];exact Blk.fresh _ _ _ _ rfl);obtain⟨AB,hAB⟩:∃b,b=w14.heap.size:=⟨_,rfl⟩
 obtain⟨lx,qx,fx⟩:=HX.out;have HX:=qq (HX.out.below HB15.out);have HST:=qq (HST.out.below HB15.out);have HBW:=qq (below_then HB14.out HB15.out);go_wp2_with fail;rw[←hw15];rw[←hAB] at KA;simp only[←hAB];clear hw15 hAB qx fx lx;go_loopw [75] (fun cc wr=>∃k:Nat,k≤m∧cc=.int .i64 (k:Int)∧Hid (Below w15.heap.size w15 wr)) (fun cc _=>m - (intOf cc).toNat)
 case atStart=>exact⟨0,by omega,by first | rfl | go_num,qq (Below.refl _ _)⟩
 case round=>
  obtain⟨k,hk,rfl,HBL⟩:=hrel;by_cases hlt:k<m
  · as_aux_lemma=>
    obtain⟨r,hrk⟩:∃r,rs[k]? =some r:=⟨_,List.getElem?_eq_getElem (by have:=HM.out;omega)⟩
    obtain⟨g,rfl,hg1,hcell⟩:=HROW.out k r hrk;have hy:=HYES.out r (List.mem_of_getElem? hrk);obtain⟨rn,rp,⟨sp,sd,ss,sh⟩⟩:=r;have hbW:=below_then HB15.out HBL.out;obtain⟨p0,p1,p2,p3,p4,p5⟩:=hcell.below hbW hg1;have hgl:=Nat.lt_of_lt_of_le hg1 hbW.size;have hk0:(0:Int)≤(k:Int):=by omega
    have hk1:(k:Int)<(m:Int):=by omega
    obtain⟨lx,qx,fx⟩:=HX.out.below HBL.out;dsimp only at p0 p1 p2 p3 p4 p5 hy;clear hrk hcell hg1 hbW;obtain⟨y1,y4,y5⟩:=hy;have e1:(ss==1)=false:=by simpa using y1
    have e4:(ss==4)=false:=by simpa using y4
    have e5:(ss==5)=false:=by simpa using y5
    clear y1 y4 y5;go_wp2_with fail;go_roundw
    case rel=>exact⟨k+1,by omega,by go_num,qq (bel_alloc HBL.out _)⟩
    case measure=>simp[intOf];omega
  as_aux_lemma=>
   obtain rfl:k=m:=by omega
   have hbw:=HBL.out;obtain⟨w16,hw16⟩:∃W,W=wr:=⟨_,rfl⟩
   rw[←hw16] at hbw⊢;have HX:=qq (HX.out.below hbw);have HST:=qq (HST.out.below hbw);have HBW:=qq (below_then HBW.out hbw);have KA:=qq (KA.out.below hbw);have HB14W:=qq (below_then HB15.out hbw);clear hbw HBL hw16 hlt hk;go_wp2_with fail;refine(vdue_of L4 T _ HST.out HGT.out).mono ?_;rintro e w17 ⟨Bd,vd,rfl,hrd,hb17⟩;have hids:=read_ids hrd;obtain⟨a3,c3,hvd⟩:=row_slice hrd;subst hvd
   have HDD:=qq hids;have hd8:=vDue_len HGT.out;obtain⟨nd,hnd⟩:∃n,n=(vDue T).length:=⟨_,rfl⟩
   rw[←hnd] at hd8⊢;have HNDL:=qq hnd;have HX:=qq (HX.out.below hb17);have HST:=qq (HST.out.below hb17);have HBW:=qq (below_then HBW.out hb17);have KA:=qq (KA.out.below hb17);have HB14W:=qq (below_then HB14W.out hb17);clear hrd hids hb17 hnd;go_wp2_with fail;go_loopw [118] (fun cc wr=>∃k:Nat,k≤nd∧cc=.int .i64 (k:Int)∧Hid (Below w17.heap.size w17 wr)) (fun cc _=>nd - (intOf cc).toNat)
   case atStart=>exact⟨0,by omega,by first | rfl | go_num,qq (Below.refl _ _)⟩
   case round=>
    obtain⟨j,hj,rfl,HBL⟩:=hrel;by_cases hlt:j<nd
    · as_aux_lemma=>
      obtain⟨x,hx⟩:∃x,(vDue T)[j]? =some x:=⟨_,List.getElem?_eq_getElem (by rw[←HNDL.out];exact hlt)⟩
      obtain⟨_,_,hv1,hr1⟩:=HDD.out.below HBL.out;simp only[Value.slice.injEq,true_and] at hv1;obtain⟨rfl,rfl⟩:=hv1;obtain⟨g1,rfl,hg1,p0,p1⟩:=hr1 j x hx;have hnex:¬(x.1=na∧x.2=qa):=fun e=>HND.out (by have h1:=List.mem_of_getElem? hx;obtain⟨x1,x2⟩:=x;rw[←e.1,←e.2];exact h1)
      obtain⟨x0,x1⟩:=x;have heq:∀W:World,(binOp .eql 36 (.agg #[x0,x1]) (.agg #[na,qa])).run Tryz.prog W=.ok (.bool false) W:=fun W=>by rw[actEq,decide_eq_false hnex]
      have hk0:(0:Int)≤(j:Int):=by omega
      have hk1:(j:Int)<(nd:Int):=by omega
      obtain⟨lx,qx,fx⟩:=HX.out.below HBL.out;dsimp only at p0 p1;clear hx hr1 hnex;go_wp2_with fail;go_roundw
      case rel=>exact⟨j+1,by omega,by go_num,qq (bel_alloc HBL.out _)⟩
      case measure=>simp[intOf];omega
    as_aux_lemma=>
     obtain rfl:j=nd:=by omega
     have hbw:=HBL.out;obtain⟨w18,hw18⟩:∃W,W=wr:=⟨_,rfl⟩
     rw[←hw18] at hbw⊢;have HX:=qq (HX.out.below hbw);have HST:=qq (HST.out.below hbw);have HBW:=qq (below_then HBW.out hbw);have KA:=qq (KA.out.below hbw);have HB14W:=qq (below_then HB14W.out hbw);clear hbw HBL hw18 hlt hj;obtain⟨lx,qx,fx⟩:=HX.out;obtain⟨la,qA,fA⟩:=KA.out;go_wp2_with fail;refine(HCA.out _ (HE.out.below HBW.out) L4 HST.out).mono ?_;rintro e w20 ⟨a5,c5,b5,d5,rfl,_,hb20⟩
     have HBW:=qq (below_then HBW.out hb20);have hfd:=fieldR0v;dsimp only[res0,List.length_nil];clear hb20;go_wp2_with fail;go_ret;exact⟨rfl,HBW.out⟩
theorem law_vuni (node:Int) (v:Value) (fs:List SFact) (na qa:Int) (cl ca:Bool) (ea:Int→Addr) (w:World) (hE:EnvS ea w) (hR:ReadFacts w v fs) (hF:∀f∈fs,F64 f.ex):Calls Tryz.prog 13 #[.int .i64 node,v,.agg #[na,qa,.bool cl,.bool ca]] w (Makes (.bool true) w):=by
 by_cases hen:(vDecide (splay node fs) na qa cl).2=0
 · cases cl
   · exact law_vuni_no node v fs na qa ca ea w hE hR hF hen
   · exact law_vuni_yes node v fs na qa ca ea w hE hR hF hen
 · exact law_vuni_err node v fs na qa cl ca ea w hE hR hF hen
open Go.ChangeShapes Go.WideShapes Go.ChangeAt Go.WideMaps Go.WideElems Go.RowKit Go.Joins
theorem verdictUniform_laid {l:List (String×DataW Unit)} (hl:l=Rows.verdictUniformRow.laid) {W:World} (h:laidMetH Tryz.prog l W):∃ea,EnvS ea W:=by
 subst hl;exact envS_of_laid (A:=Rows.verdictUniformRow.laid.take 2) (B:=Rows.verdictUniformRow.laid.drop 3) ⟨by rw[pow10_dataS];rfl,Rows.verdictUniformRow.laid.drop 17,rfl⟩ (by kernel_rfl) h
theorem verdictUniform_lifted (os : Os) (started : os.Started) (H : Type) (enc : TypeId × Value → H) :
    ReturnsInHanded {} Tryz.checked os 13 .any (fun w args=>(Rows.verdictUniformSpec.pre enc Tryz.prog Tryz.f13 [] false w args∧laidMetH Tryz.prog Rows.verdictUniformRow.laid w)∧sizedMet enc Tryz.prog Tryz.f13 (OpenSpec.ofChange Rows.verdictUniformSpec) false w args)
     (Rows.verdictUniformSpec.post enc Tryz.prog Tryz.f13 false true false false):=by
 refine handed_and_shaped (C:=Tryz.checked) (X:=fun w _=>laidMetH Tryz.prog Rows.verdictUniformRow.laid w) (fun _ _ _ hh h=>h.of_heap hh) Tryz.own started (by kernel_rfl) Tryz.func13
  (ChangeSpec.witness_shaped (enc:=enc) (C:=Tryz.checked) (os:=os) (X:=fun w _=>laidMetH Tryz.prog Rows.verdictUniformRow.laid w) false (World.laidAll Tryz.prog os Rows.verdictUniformRow.laid) #[.int .i64 0,.slice none 0 0,.agg #[.int .i64 0,.int .i64 0,.bool false,.bool false]] 8 (World.laidAll_os _ _ _) (World.shaped_of_ZipB (by kernel_rfl) (by kernel_rfl)) (by kernel_rfl) (by kernel_rfl) (by kernel_rfl)
    (by rw[MakeChecks.laidMetH_plain _ _ _ (by kernel_rfl)];exact laidMet_laidAll _ (by kernel_rfl) (by kernel_rfl))) ?_
 intro W base args ds gs before hval0 hW _ hsz hL hshape _;have hval:∀(j:Nat) t v,Tryz.f13.params[j]? =some t→args[j]? =some v→Value.okWide Tryz.prog W .any base t v:=hval0;have hpost:∀W',Below W.heap.size W W'→Rows.verdictUniformSpec.post enc Tryz.prog Tryz.f13 false true false false W args (.bool true) W':=fun W' hb=>
  frame_post (by rw[Tryz.params13];decide+kernel) rfl rfl (fun ds h=>by rw[Tryz.params13] at h;match ds,h with | [d0,d1,d2],_=>exact⟨rfl,rfl,rfl⟩) hW hb
 obtain⟨p,q,hA0,hV,rfl,hfz,hnd⟩:=hW;have hA:DataW.TrodAll enc Tryz.prog W 0 (fun _=>true) true Tryz.f13.params.toList args.toList ds p:=hA0;rw[Tryz.params13] at hA hval;obtain⟨v0,v1,v2,d0,d1,d2,p0,p1,p2,rfl,rfl,rfl,h0,h1,h2⟩:=trodAll_three hA;obtain⟨x,rfl,_,_,wx⟩:=open_int Tryz.underlying3 (hval 0 _ v0 rfl rfl) h0;obtain⟨a1,n1,c1,rfl⟩:=okWide_slice Tryz.underlying22 (hval 1 _ v1 rfl rfl)
 obtain⟨fs,hR,hF⟩:=open_facts h1;obtain⟨na,qa,cl,ca,rfl⟩:=open_dec (hval 2 _ v2 rfl rfl) h2;obtain⟨ea,hE⟩:=(verdictUniform_laid rfl hL)
 exact(law_vuni x _ fs na qa cl ca ea W hE hR hF).mono fun e W' ⟨he,hb⟩=>⟨_,he,hpost W' hb⟩
theorem verdictUniform_joined:joinedFacts Tryz.pinned.checked.prog 13 Tryz.f13 Rows.verdictUniformSpec Rows.verdictUniformRow=true:=by
 unfold joinedFacts;simp only[Bool.and_eq_true]
 repeat' apply And.intro
 · as_aux_lemma=>kernel_rfl
 · exact js_laid
 · exact js_maps
 · as_aux_lemma=>kernel_rfl
 · as_aux_lemma=>kernel_rfl
 · as_aux_lemma=>kernel_rfl
 · as_aux_lemma=>kernel_rfl
 · as_aux_lemma=>kernel_rfl
 · as_aux_lemma=>kernel_rfl
 · as_aux_lemma=>kernel_rfl
 · as_aux_lemma=>kernel_rfl
 · as_aux_lemma=>kernel_rfl
 · as_aux_lemma=>kernel_rfl
 · as_aux_lemma=>kernel_rfl
 · as_aux_lemma=>kernel_rfl
 · as_aux_lemma=>kernel_rfl
 · as_aux_lemma=>kernel_rfl
 · as_aux_lemma=>kernel_rfl
 · as_aux_lemma=>kernel_rfl
 · as_aux_lemma=>kernel_rfl
 · as_aux_lemma=>kernel_rfl
 · as_aux_lemma=>kernel_rfl
 · exact js_plain
 · as_aux_lemma=>kernel_rfl
 · exact js_heard
 · exact js_enter
 · exact js_lift
 · exact js_make
 · as_aux_lemma=>kernel_rfl
 · as_aux_lemma=>kernel_rfl
 · as_aux_lemma=>kernel_rfl
 · as_aux_lemma=>kernel_rfl
end Go.Proofs.YtlkajejbfojkeaaGreatDoor
