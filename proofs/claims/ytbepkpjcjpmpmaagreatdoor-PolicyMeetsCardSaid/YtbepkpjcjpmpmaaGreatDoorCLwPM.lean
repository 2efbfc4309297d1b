/- LwPM -/
import Derived.Test.YtbepkpjcjpmpmaaGreatDoorCMtD
set_option linter.unusedSimpArgs false
set_option linter.unusedVariables false
set_option maxRecDepth 100000
set_option maxHeartbeats 16000000
namespace Go.Proofs.YtbepkpjcjpmpmaaGreatDoor
open Go.RowKit Go.Shelf
structure MtAt (E F:PE) (names:PAlt) (vn:Value) (ea:Int→Addr) (a b:Option Addr) (c d:Nat) (w W0:World):Prop where
 be:Below w.heap.size w W0
 ke:∃B G,KC B G W0 E.kids a∧G≤W0.heap.size
 kf:∃B G,KC B G W0 F.kids b∧G≤W0.heap.size
 oe:E.nm.length≤100000∧E.kids.len≤100000∧E.kids.small
 of:F.nm.length≤100000∧F.kids.len≤100000∧F.kids.small
 er:Errs ea W0
 nm:NamesV W0 vn names
 nl:names.length≤20
theorem MtAt.toldE {E F:PE} {names:PAlt} {vn:Value} {ea:Int→Addr} {a b:Option Addr} {c d:Nat} {w W0:World} (h:MtAt E F names vn ea a b c d w W0) (W:World) (hW:Below W0.heap.size W0 W):Calls Tryz.prog 13 #[.agg (exA E a c)] W (ExGives E W):=by
 obtain⟨B,G,hk,hg⟩:=h.ke;exact told_go (E.kids.sz+1) E a c B G W (Nat.lt_succ_self _) h.oe.2.1 h.oe.2.2 (hk.below hg hW) (Nat.le_trans hg hW.size)
theorem MtAt.toldF {E F:PE} {names:PAlt} {vn:Value} {ea:Int→Addr} {a b:Option Addr} {c d:Nat} {w W0:World} (h:MtAt E F names vn ea a b c d w W0) (W:World) (hW:Below W0.heap.size W0 W):Calls Tryz.prog 13 #[.agg (exA F b d)] W (ExGives F W):=by
 obtain⟨B,G,hk,hg⟩:=h.kf;exact told_go (F.kids.sz+1) F b d B G W (Nat.lt_succ_self _) h.of.2.1 h.of.2.2 (hk.below hg hW) (Nat.le_trans hg hW.size)
theorem MtAt.exE {E F:PE} {names:PAlt} {vn:Value} {ea:Int→Addr} {a b:Option Addr} {c d:Nat} {w W0:World} (h:MtAt E F names vn ea a b c d w W0) (W:World) (hW:Below W0.heap.size W0 W):∃B G,ExIn B G E a ea W:=by
 obtain⟨B,G,hk,hg⟩:=h.ke;exact⟨B,G,h.oe.1,h.oe.2.1,h.oe.2.2,hk.below hg hW,Nat.le_trans hg hW.size,h.er.below hW⟩
theorem MtAt.exF {E F:PE} {names:PAlt} {vn:Value} {ea:Int→Addr} {a b:Option Addr} {c d:Nat} {w W0:World} (h:MtAt E F names vn ea a b c d w W0) (W:World) (hW:Below W0.heap.size W0 W):∃B G,ExIn B G F b ea W:=by
 obtain⟨B,G,hk,hg⟩:=h.kf;exact⟨B,G,h.of.1,h.of.2.1,h.of.2.2,hk.below hg hW,Nat.le_trans hg hW.size,h.er.below hW⟩
theorem MtAt.meet {E F:PE} {names:PAlt} {vn:Value} {ea:Int→Addr} {a b:Option Addr} {c d:Nat} {w W0:World} (h:MtAt E F names vn ea a b c d w W0) (W:World) (hW:Below W0.heap.size W0 W):Calls Tryz.prog 20 #[.agg (exA E a c),.agg (exA F b d)] W (Alters W.heap.size (pMeet E F) ea W):=by
 obtain⟨B,G,h1⟩:=h.exE W hW;obtain⟨B2,G2,h2⟩:=h.exF W hW;exact meet_of E F a b c d B G B2 G2 ea W h1 h2
theorem MtAt.allows {E F:PE} {names:PAlt} {vn:Value} {ea:Int→Addr} {a b:Option Addr} {c d:Nat} {w W0:World} (h:MtAt E F names vn ea a b c d w W0) (W:World) (hW:Below W0.heap.size W0 W):Calls Tryz.prog 21 #[.agg (exA E a c),vn] W (AllowEnds E names ea W):=by
 obtain⟨B,G,h1⟩:=h.exE W hW;exact allowsN_of E a c B G vn names ea W h1 (h.nm.below hW) (by have:=h.nl;omega)
theorem rnorm_ex {E:PE} {a:Option Addr} {c:Nat} {w:World} (ho:E.nm.length≤100000∧E.kids.len≤100000∧E.kids.small) {B:Nat} (hk:KC B w.heap.size w E.kids a):Calls Tryz.prog 12 #[.agg (exA E a c)] w (RNormalEnds (pNormal E) w):=
 rNormal_of E a c B w.heap.size w ho.1 ho.2.1 ho.2.2 hk (Nat.le_refl _)
theorem law_pmeets (va vb vn:Value) (ra rb:List Pc) (names:PAlt) (ea:Int→Addr) (w:World) (hE:Errs ea w) (hA:PcsV w va ra) (hB:PcsV w vb rb) (hN:NamesV w vn names):Calls Tryz.prog 5 #[va,vb,vn] w (Makes (.bool true) w):=by
 have HA:=qq (alive29_of ea w hE);have HBA:=qq (fun W (hW:Below w.heap.size w W)=>big_of va ra W (hA.below hW));have HBB:=qq (fun W (hW:Below w.heap.size w W)=>big_of vb rb W (hB.below hW));have HEE:=qq hE;have HVA:=qq (fun W (hW:Below w.heap.size w W)=>hA.below hW);have HVB:=qq (fun W (hW:Below w.heap.size w W)=>hB.below hW);have HVN:=qq (fun W (hW:Below w.heap.size w W)=>hN.below hW)
 obtain⟨an,cn,rfl,hn0,hn1⟩:=hN;obtain⟨nn,hnn⟩:∃q,q=names.length:=⟨_,rfl⟩
 have HNN:=qq hnn;have HNV:=qq (fun W (hW:Below w.heap.size w W)=>HVN.out W hW);rw[←hnn] at HNV⊢;clear hE hA hB hn0 hn1 hnn
 cases hba:pBig ra with
 | true=>
  rw[hba] at HBA;clear hba;go_enter Tryz.func5,Tryz.ntmps5;go_wp2_with fail;refine HA.out.mono ?_;rintro e w1 ⟨rfl,hb1⟩;have HB1:=qq hb1;clear hb1;go_wp2_with fail;refine(HBA.out _ HB1.out).mono ?_;rintro e w2 ⟨rfl,hb2⟩;have HB2:=qq (below_then HB1.out hb2);clear hb2;go_wp2_with fail;go_ret;exact⟨rfl,HB2.out⟩
 | false=>
  cases hbb:pBig rb with
  | true=>
   rw[hba] at HBA;rw[hbb] at HBB;clear hba hbb;go_enter Tryz.func5,Tryz.ntmps5;go_wp2_with fail;refine HA.out.mono ?_;rintro e w1 ⟨rfl,hb1⟩;have HB1:=qq hb1;clear hb1;go_wp2_with fail;refine(HBA.out _ HB1.out).mono ?_;rintro e w2 ⟨rfl,hb2⟩;have HB2:=qq (below_then HB1.out hb2);clear hb2;go_wp2_with fail;refine(HBB.out _ HB2.out).mono ?_;rintro e w3 ⟨rfl,hb3⟩;have HB3:=qq (below_then HB2.out hb3)
   clear hb3;go_wp2_with fail;go_ret;exact⟨rfl,HB3.out⟩
  | false=>
   rw[hba] at HBA;rw[hbb] at HBB;by_cases h20:20<nn
   · have h20':(20:Int)<(nn:Int):=by omega
     clear hba hbb h20;go_enter Tryz.func5,Tryz.ntmps5;go_wp2_with fail;refine HA.out.mono ?_;rintro e w1 ⟨rfl,hb1⟩;have HB1:=qq hb1;clear hb1;go_wp2_with fail;refine(HBA.out _ HB1.out).mono ?_;rintro e w2 ⟨rfl,hb2⟩;have HB2:=qq (below_then HB1.out hb2);clear hb2;go_wp2_with fail;refine(HBB.out _ HB2.out).mono ?_;rintro e w3 ⟨rfl,hb3⟩;have HB3:=qq (below_then HB2.out hb3);clear hb3
     go_wp2_with fail;go_ret;exact⟨rfl,HB3.out⟩
   · have h20':¬(20:Int)<(nn:Int):=by omega
     obtain⟨hl1,hl30,_⟩:=pBig_no hba;obtain⟨hm1,hm30,_⟩:=pBig_no hbb;obtain⟨he1,he2,he3⟩:=pTree_ok hba 0;obtain⟨hf1,hf2,hf3⟩:=pTree_ok hbb 0;have HTA:=qq (fun W (hW:Below w.heap.size w W)=>tree_go 30 va ra 0 W (by omega) (by omega) hl30 (HVA.out W hW));have HTB:=qq (fun W (hW:Below w.heap.size w W)=>tree_go 30 vb rb 0 W (by omega) (by omega) hm30 (HVB.out W hW))
     obtain⟨E,hEq⟩:∃E,E=pTree ra 0:=⟨_,rfl⟩
     obtain⟨F,hFq⟩:∃F,F=pTree rb 0:=⟨_,rfl⟩
     rw[←hEq] at he1 he2 he3 HTA;rw[←hFq] at hf1 hf2 hf3 HTB;have HOE:Hid (E.nm.length≤100000∧E.kids.len≤100000∧E.kids.small):=qq ⟨by omega,by omega,he3⟩;have HOF:Hid (F.nm.length≤100000∧F.kids.len≤100000∧F.kids.small):=qq ⟨by omega,by omega,hf3⟩;clear hba hbb hl1 hl30 hm1 hm30 he1 he2 he3 hf1 hf2 hf3 hEq hFq HVA HVB h20;go_enter Tryz.func5,Tryz.ntmps5;go_wp2_with fail;refine HA.out.mono ?_
     rintro e w1 ⟨rfl,hb1⟩;have HB1:=qq hb1;clear hb1;go_wp2_with fail;refine(HBA.out _ HB1.out).mono ?_;rintro e w2 ⟨rfl,hb2⟩;have HB2:=qq (below_then HB1.out hb2);clear hb2;go_wp2_with fail;refine(HBB.out _ HB2.out).mono ?_;rintro e w3 ⟨rfl,hb3⟩;have HB3:=qq (below_then HB2.out hb3);clear hb3;go_wp2_with fail
     go_loopw [37] (fun cc wr=>wr=w3∧∃i:Nat,i≤nn∧cc=.int .i64 (i:Int)) (fun cc _=>nn - (intOf cc).toNat)
     case atStart=>exact⟨by first | rfl | exact True.intro,0,by omega,by first | rfl | go_num⟩
     case round=>
      obtain⟨hwr,i,hi,rfl⟩:=hrel;have hwr2:=hwr.symm;clear hwr;subst hwr2;have hi0:(0:Int)≤(i:Int):=by omega
      by_cases hlt:i<nn
      · have hi1:(i:Int)<(nn:Int):=by omega
        obtain⟨x,hx⟩:∃x,names[i]? =some x:=⟨_,List.getElem?_eq_getElem (by rw[←HNN.out];exact hlt)⟩
        obtain⟨_,_,ev,_,hcx⟩:=HVN.out _ HB3.out;rw[←HNN.out] at ev;injection ev with ev1 _ ev2
        subst ev1 ev2;obtain⟨bb,oo,rfl,hbw,c0⟩:=hcx i x hx;have hsz:=str_size x;simp only[encStr] at c0;clear hcx hx;by_cases hxl:100<x.length
        · have hxl':(100:Int)<(x.length:Int):=by omega
          clear hxl;generalize x.length=q at*;go_wp2_with fail;go_ret;exact⟨rfl,HB3.out⟩
        · have hxl':¬(100:Int)<(x.length:Int):=by omega
          clear hxl;generalize x.length=q at*;go_wp2_with fail;go_roundw
          case rel=>exact⟨by first | rfl | exact True.intro,i+1,by omega,by go_num⟩
          case measure=>simp[intOf];omega
      · obtain rfl:nn=i:=by omega
        clear hi0 hlt;obtain⟨r1,hr1⟩:∃r,r=pNormal E:=⟨_,rfl⟩
        obtain⟨r2,hr2⟩:∃r,r=pNormal F:=⟨_,rfl⟩
        have hnum1:=(pNormal_num E).1;have hnum2:=(pNormal_num F).1;have HO1:=qq (pNormal_ok E);have HO2:=qq (pNormal_ok F);have HPM:Hid (pMeet E F=(if r1.2≠0 then([],r1.2) else if r2.2≠0 then([],r2.2) else(r1.1.filter fun x=>r2.1.any fun z=>decide (z=x),0):List PAlt×Int)):=qq (by rw[hr1,hr2];rfl);rw[←hr1] at hnum1 HO1;rw[←hr2] at hnum2 HO2;have HR1:=qq hr1;have HR2:=qq hr2;clear hr1 hr2
        obtain⟨L1,n1⟩:=r1;obtain⟨L2,n2⟩:=r2;dsimp only at hnum1 hnum2 HO1 HO2 HPM;have HNU1:=qq (fun W (hW:Below w.heap.size w W)=>num_err n1 (by omega) ea W (HEE.out.below hW));have HNU2:=qq (fun W (hW:Below w.heap.size w W)=>num_err n2 (by omega) ea W (HEE.out.below hW));go_wp2_with fail;refine(HTA.out _ HB3.out).mono ?_;rintro e w4 ⟨a,c,rfl,hk4,hb4⟩;have HB4:=qq (below_then HB3.out hb4)
        have HK4:=qq hk4;clear hk4 hb4;go_wp2_with fail;refine(HTB.out _ HB4.out).mono ?_;rintro e w5 ⟨b,d,rfl,hk5,hb5⟩;have HB5:=qq (below_then HB4.out hb5);have HK45:=qq (HK4.out.below (Nat.le_refl _) hb5);have HK5:=qq hk5;have hz45:=hb5.size;clear hk5 hb5;obtain⟨eo,en,eb,ek⟩:=E;obtain⟨fo,fn,fb,fk⟩:=F;unfold exA;dsimp only
        have hab:Below w5.heap.size w5 ((w5.alloc (.cells #[eo,.string ⟨en.toArray⟩,.bool eb,.slice a ek.len c] 27)).alloc (.cells #[fo,.string ⟨fn.toArray⟩,.bool fb,.slice b fk.len d] 27)):=by go_grown
        have HAT:Hid (MtAt ⟨eo,en,eb,ek⟩ ⟨fo,fn,fb,fk⟩ names (.slice an nn cn) ea a b c d w ((w5.alloc (.cells #[eo,.string ⟨en.toArray⟩,.bool eb,.slice a ek.len c] 27)).alloc (.cells #[fo,.string ⟨fn.toArray⟩,.bool fb,.slice b fk.len d] 27))):=qq ⟨below_then HB5.out hab,⟨_,_,HK45.out.below hz45 hab,Nat.le_trans hz45 hab.size⟩,⟨_,_,HK5.out.below (Nat.le_refl _) hab,hab.size⟩,HOE.out,HOF.out,HEE.out.below (below_then HB5.out hab),by rw[HNN.out];exact(by have:=HVN.out _ (below_then HB5.out hab);exact this),by have:=HNN.out;omega⟩
        have KE:Hid (Blk ((w5.alloc (.cells #[eo,.string ⟨en.toArray⟩,.bool eb,.slice a ek.len c] 27)).alloc (.cells #[fo,.string ⟨fn.toArray⟩,.bool fb,.slice b fk.len d] 27)) w5.heap.size #[.int .i64 eo,.string ⟨en.toArray⟩,.bool eb,.slice a ek.len c]):=qq ((Blk.fresh w5 _ _ _ rfl).alloc _)
        have KF:Hid (Blk ((w5.alloc (.cells #[eo,.string ⟨en.toArray⟩,.bool eb,.slice a ek.len c] 27)).alloc (.cells #[fo,.string ⟨fn.toArray⟩,.bool fb,.slice b fk.len d] 27)) (w5.heap.size+1) #[.int .i64 fo,.string ⟨fn.toArray⟩,.bool fb,.slice b fk.len d]):=qq (Blk.fresh _ _ _ _ (by simp));have HBW:=qq HAT.out.be
        generalize hW0:(w5.alloc (.cells #[eo,.string ⟨en.toArray⟩,.bool eb,.slice a ek.len c] 27)).alloc (.cells #[fo,.string ⟨fn.toArray⟩,.bool fb,.slice b fk.len d] 27)=W0 at HAT KE KF HBW;have HTE:=qq (fun W hW=>HAT.out.toldE W hW);have HTF:=qq (fun W hW=>HAT.out.toldF W hW);have HMT:=qq (fun W hW=>HAT.out.meet W hW);have HAL:=qq (fun W hW=>HAT.out.allows W hW)
        have HSE:=qq (fun W (hW:Below W0.heap.size W0 W)=>setN_of (.slice an nn cn) names W (HAT.out.nm.below hW) (by have:=HAT.out.nl;omega));have HNE:=qq (fun(aa:Option Addr) (cc BB:Nat) (W:World) (h:KC BB W.heap.size W ek aa)=>rnorm_ex (E:=⟨eo,en,eb,ek⟩) (c:=cc) HOE.out h)
        have HNF:=qq (fun(aa:Option Addr) (cc BB:Nat) (W:World) (h:KC BB W.heap.size W fk aa)=>rnorm_ex (E:=⟨fo,fn,fb,fk⟩) (c:=cc) HOF.out h);rw[←HR1.out] at HNE;rw[←HR2.out] at HNF
        have HEA:Hid (∀W en' w',AllowEnds ⟨eo,en,eb,ek⟩ names ea W en' w'→en'=.returned (.tuple #[.bool (decide (n1=0) && L1.any fun x=>decide (x=pSet names)),errOf ea n1])∧Below W.heap.size W w'):=qq (fun W en' w' h=>by unfold AllowEnds at h;rw[←HR1.out] at h;exact h);have lE:=KE.out.lt;have lF:=KF.out.lt;unfold exA at HTE HTF HMT HAL HNE HNF;dsimp only at HTE HTF HMT HAL HNE HNF
        obtain⟨l1,q1,f1⟩:=KE.out;obtain⟨l2,q2,f2⟩:=KF.out;have HN20:=qq HAT.out.nl;have HTN:Hid (49≠9):=qq (by decide);obtain⟨i0,ei,ez,es,ebx⟩:=info_parts infoNames;clear HTA HTB HAT HR1 HR2;go_wp2_with fail;clear hW0 hab;refine(HTE.out W0 (Below.refl _ _)).mono ?_;rintro e w6 ⟨a6,c6,rfl,hk6,hb6⟩;unfold exA;dsimp only at hk6⊢;have HC6:=qq hb6;have HNE6:=qq (HNE.out a6 c6 _ w6 hk6)
        clear hk6 hb6 HTE HNE l1 q1 f1 l2 q2 f2;go_wp2_with fail;refine HNE6.out.mono ?_;rintro e w7 ⟨v7,rfl,hv7,hb7⟩;have HC7:=qq (below_then HC6.out hb7);have HV7:=qq (hv7.base (B:=W0.heap.size) HC6.out.size);obtain⟨a7,c7,rfl⟩:=hv7.row;dsimp only at HV7⊢;obtain⟨m1,hm1⟩:∃q,q=L1.length:=⟨_,rfl⟩
        have HM1:=qq hm1;rw[←hm1] at HV7⊢;clear hv7 hb7 HNE6 hm1;obtain⟨l2,q2,f2⟩:=KF.out.below HC7.out;go_wp2_with fail;refine(HTF.out w7 HC7.out).mono ?_;rintro e w8 ⟨a8,c8,rfl,hk8,hb8⟩;unfold exA;dsimp only at hk8⊢;have HC8:=qq (below_then HC7.out hb8);have HD8:=qq hb8;have HNF8:=qq (HNF.out a8 c8 _ w8 hk8);clear hk8 hb8 HTF HNF l2 q2 f2;go_wp2_with fail;refine HNF8.out.mono ?_
        rintro e w9 ⟨v9,rfl,hv9,hb9⟩;have HC9:=qq (below_then HC8.out hb9);have HD9:=qq (below_then HD8.out hb9);have HV9:=qq (hv9.base (B:=W0.heap.size) HC8.out.size);have HV79:=qq (HV7.out.below HD9.out);obtain⟨a9,c9,rfl⟩:=hv9.row;dsimp only at HV9⊢;obtain⟨m2,hm2⟩:∃q,q=L2.length:=⟨_,rfl⟩
        have HM2:=qq hm2;rw[←hm2] at HV9⊢;clear hv9 hb9 HNF8 hm2 HV7 HD8 HD9;obtain⟨l1,q1,f1⟩:=KE.out.below HC9.out;obtain⟨l2,q2,f2⟩:=KF.out.below HC9.out;rcases hnum1 with rfl | rfl | rfl
        · obtain⟨bq,hbq⟩:∃q,q=L1.any fun x=>decide (x=pSet names):=⟨_,rfl⟩
          have HBQ:=qq hbq;clear hbq;rcases hnum2 with rfl | rfl | rfl
          · cases bq with
            | true=>
             have HP:Hid (pMeet ⟨eo,en,eb,ek⟩ ⟨fo,fn,fb,fk⟩=(L1.filter (fun x=>L2.any fun z=>decide (z=x)),0)):=qq (by rw[HPM.out];simp);rw[HP.out] at HMT;have hez:errOf ea 0=.nilIface:=rfl;have he4:errOf ea 4=errV (ea 4):=rfl;have he6:errOf ea 6=errV (ea 6):=rfl
             try rw[hez] at HNU1
             try rw[he4] at HNU1
             try rw[he6] at HNU1
             try rw[hez] at HNU2
             try rw[he4] at HNU2
             try rw[he6] at HNU2
             have hyes:(decide ((0:Int)=0) && L1.any fun x=>decide (x=pSet names))=true:=by simp[←HBQ.out]
             have HYES:=qq hyes;have HE0:=qq hez;have HE4:=qq he4;have HE6:=qq he6;clear hyes HPM hez he4 he6;go_wp2_with fail;refine(HMT.out w9 HC9.out).mono ?_;rintro e w10 ⟨v10,rfl,hv10,hb10⟩;have HC10:=qq (below_then HC9.out hb10);have HV10:=qq (hv10.base (B:=W0.heap.size) HC9.out.size);have HX10:=qq (HV79.out.below hb10);have HY10:=qq (HV9.out.below hb10);obtain⟨a10,c10,rfl⟩:=hv10.row
             dsimp only at HV10⊢
             try rw[List.length_nil] at HV10⊢
             obtain⟨m3,hm3⟩:∃q,q=(L1.filter (fun x=>L2.any fun z=>decide (z=x))).length:=⟨_,rfl⟩
             have HM3:=qq hm3;rw[←hm3] at HV10⊢;clear hm3;clear hv10 hb10 HMT HP l1 q1 f1 l2 q2 f2 HV79 HV9
             first | rw[HE0.out] | rw[HE4.out] | rw[HE6.out]
             obtain⟨l1,q1,f1⟩:=KE.out.below HC10.out;go_wp2_with fail;refine(HAL.out w10 HC10.out).mono ?_;rintro e w11 h11;obtain⟨rfl,hb11⟩:=HEA.out _ _ _ h11;have HF11:=qq hb11;clear h11 hb11 HAL HEA l1 q1 f1;rw[HYES.out]
             first | rw[HE0.out] | rw[HE4.out] | rw[HE6.out]
             clear HYES HE0 HE4 HE6;go_wp2_with fail;refine(HNU1.out w11 (below_then HBW.out (below_then HC10.out HF11.out))).mono ?_;rintro e w12 ⟨rfl,hb12⟩;have HF12:=qq (below_then HF11.out hb12);clear hb12;go_wp2_with fail;refine(HSE.out w12 (below_then HC10.out HF12.out)).mono ?_;rintro e w13 ⟨v13,rfl,hv13,hb13⟩;have HF13:=qq (below_then HF12.out hb13);obtain⟨a13,c13,rfl⟩:=row_slice hv13
             have HHS:=qq (rhas_of W0.heap.size _ a13 c13 _ L1 (pSet names) w13 (HX10.out.below HF13.out) (by have:=HO1.out.1;omega) (fun x hx=>by have:=HO1.out.2 x hx;omega) hv13 (by have h1:=pSet_len names;have h2:=HN20.out;omega));rw[←HBQ.out] at HHS;generalize(pSet names).length=ps at HHS⊢;clear hv13 hb13 HSE;go_wp2_with fail;refine HHS.out.mono ?_;rintro e w14 ⟨rfl,hb14⟩
             have HF14:=qq (below_then HF13.out hb14);clear hb14 HHS HBQ;go_wp2_with fail;have HLX:=qq (fun W (hW:Below w14.heap.size w14 W)=>HX10.out.below (below_then HF14.out hW));have HLY:=qq (fun W (hW:Below w14.heap.size w14 W)=>HY10.out.below (below_then HF14.out hW));have HLZ:=qq (fun W (hW:Below w14.heap.size w14 W)=>HV10.out.below (below_then HF14.out hW))
             have HHX:=qq (fun W (x:PAlt) a2 c2 (hW:Below w14.heap.size w14 W) (hm:x∈L1) (hy:AltV W0.heap.size W (.slice a2 x.length c2) x)=>rhas_of W0.heap.size W0.heap.size a2 c2 _ L2 x W (HLY.out W hW) (by have:=HO2.out.1;omega) (fun z hz=>by have:=HO2.out.2 z hz;omega) hy (by have:=HO1.out.2 x hm;omega))
             have HLE:Hid ((L1.filter (fun x=>L2.any fun z=>decide (z=x))).length≤64):=qq (by have h1:=List.length_filter_le (fun x=>L2.any fun z=>decide (z=x)) L1;have h2:=HO1.out.1;omega)
             have HSA:=qq (fun W Ba Bb va vb (h1:AltsV 49 Ba W va (L1.filter (fun x=>L2.any fun z=>decide (z=x)))) (h2:AltsV 49 Bb W vb (L1.filter (fun x=>L2.any fun z=>decide (z=x))))=>same29_yes Ba Bb va vb _ W h1 h2 (by have:=HLE.out;omega) (fun x hx=>by have:=HO1.out.2 x ((List.mem_filter.1 hx).1);omega));have HBC:=qq (below_then HBW.out (below_then HC10.out HF14.out))
             have HZ14:=qq (Nat.le_trans HC10.out.size HF14.out.size);have hm64:m1≤64:=by have:=HO1.out.1;have:=HM1.out;omega
             clear HX10 HY10 HV10 HF11 HF12 HF13 HF14 HC10
             go_loopw [19,110] (fun ov cc wr=>∃(i m:Nat) (out:List PAlt) (vs:Array Value),i≤m1∧m≤i∧cc=.int .i64 (i:Int)∧Hid (m=out.length)∧Hid (out=(L1.take i).filter (fun x=>L2.any fun z=>decide (z=x)))∧Hid (wr.ownsRow w14.heap.size 49 1 ov m vs.toList)∧Hid (Alts W0.heap.size wr vs out.toArray)∧Hid (Below w14.heap.size w14 wr)) (fun _ cc _=>m1 - (intOf cc).toNat)
             case atStart=>exact⟨0,0,[],#[],by omega,by omega,by first | rfl | go_num,qq rfl,qq rfl,qq (own_emptyB w14 w14.heap.size _ _ (Nat.le_refl _)),qq ⟨rfl,fun i hi=>by simp at hi⟩,qq ((Below.refl _ _).alloc (Nat.le_refl _) _)⟩
             case round=>
              obtain⟨i,m,out,vs,hi,hmi,rfl,HMO,HQ,HO,HA,HB⟩:=hrel;have hi0:(0:Int)≤(i:Int):=by omega
              obtain⟨ao,co,rfl⟩:=row_slice HO.out;have hwr:=HB.out.size;by_cases hlt:i<m1
              · have hi1:(i:Int)<(m1:Int):=by omega
                obtain⟨x,hx⟩:∃x,L1[i]? =some x:=⟨_,List.getElem?_eq_getElem (by rw[←HM1.out];exact hlt)⟩
                have HMEM:=qq (List.mem_of_getElem? hx);obtain⟨g,ax,cx,cap,e1,hxv,hcell,hgl⟩:=alts_at (HLX.out _ HB.out) i x hx;injection e1 with e1a e1n e1b
                clear e1n;subst e1a e1b;have hc1:=hcell wr (Below.refl _ _);have HXV:=qq hxv;have HCX:=qq (HHX.out wr x ax cx HB.out HMEM.out hxv);have HXI:=qq hx;obtain⟨nx,hnx⟩:∃q,q=x.length:=⟨_,rfl⟩
                rw[←hnx] at hc1 HXV HCX;obtain⟨p,hp⟩:∃p,p=L2.any fun z=>decide (z=x):=⟨_,rfl⟩
                rw[←hp] at HCX;have HPP:=qq hp;clear hcell hxv hnx hx hp;go_wp2_with fail;refine HCX.out.mono ?_;rintro e w15 ⟨rfl,hb15⟩;have HB15:=qq (below_then HB.out hb15);have HO15:=qq (row_be HO.out hb15);have HA15:=qq (HA.out.keep hb15.block);have HX15:=qq (row_be HXV.out hb15);have hz15:=HB15.out.size;clear hb15 hc1 HXV HCX HO HA HMEM
                cases p with
                | true=>
                 have HQ2:Hid (out ++ [x]=(L1.take (i+1)).filter (fun x=>L2.any fun z=>decide (z=x))):=qq (by rw[take_snoc HXI.out,List.filter_append,←HQ.out,List.filter_cons,if_pos (by exact HPP.out.symm)];rfl);have hba:Below w15.heap.size w15 (w15.alloc (.cells #[.slice ax nx cx] 49)):=(Below.refl _ _).alloc (Nat.le_refl _) _;have HROW:=qq (row_be HO15.out hba)
                 have HAL2:=qq (HA15.out.keep hba.block);have HX4:=qq (row_be HX15.out hba);have HB4:=qq (HB15.out.trans (hba.mono HB15.out.size));clear hba HO15 HA15 HX15
                 go_wp2_with (at_builtin;refine wpList_append_rows rfl _ _ 29 rfl w14.heap.size 49 i0 (.slice none 0 0) 1 24 Tryz.underlying29 ei ez es ebx rfl (by decide) _ _ _ rfl HROW.out w15.heap.size _ _ _ rfl (lit_row _ _ _) ?oq1 ?c1q1 ?c2q1 ?c3q1 ?_)
                 case oq1=>first | rfl | (intro u hu;obtain rfl:=List.mem_singleton.1 hu;rfl)
                 case c1q1=>unfold maxLen;omega
                 case c2q1=>omega
                 case c3q1=>have h4:=HB4.out.size;simpa using h4
                 intro vw16 w16 hown hgrow hat;have HBw16:=qq (HB4.out.grown hgrow HB4.out.size (fun q hq=>(HROW.out.lt q hq).1));have HOw16:Hid (w16.ownsRow w14.heap.size 49 1 vw16 (m+1) (vs.push (.slice ax nx cx)).toList):=qq (by simpa using hown);have HAw16:Hid (Alts W0.heap.size w16 (vs.push (.slice ax nx cx)) (out ++ [x]).toArray):=qq (snoc2 HTN.out HROW.out HAL2.out HX4.out hgrow)
                 have hzw16:=HBw16.out.size;obtain⟨aw16,cw16,rfl⟩:=row_slice hown;clear hown hgrow hat HROW HAL2 HX4 HB4;go_wp2_with fail;go_roundw
                 case rel=>exact⟨i+1,m+1,out ++ [x],vs.push (.slice ax nx cx),by omega,by omega,by go_num,qq (by rw[List.length_append,←HMO.out];rfl),HQ2,HOw16,HAw16,HBw16⟩
                 case measure=>simp[intOf];omega
                | false=>
                 have HQ2:Hid (out=(L1.take (i+1)).filter (fun x=>L2.any fun z=>decide (z=x))):=qq (by rw[take_snoc HXI.out,List.filter_append,←HQ.out,List.filter_cons,if_neg (by rw[←HPP.out];simp)];simp);go_wp2_with fail;go_roundw
                 case rel=>exact⟨i+1,m,out,vs,by omega,by omega,by go_num,HMO,HQ2,HO15,HA15,HB15⟩
                 case measure=>simp[intOf];omega
              · obtain rfl:m1=i:=by omega
                have HQF:Hid (out=L1.filter (fun x=>L2.any fun z=>decide (z=x))):=qq (by rw[HQ.out,HM1.out,List.take_length]);have HWV:Hid (AltsV 49 W0.heap.size wr (.slice ao m co) out):=qq ⟨vs,by rw[←HMO.out];exact row_base HO.out HZ14.out,HA.out⟩;rw[HQF.out] at HWV;clear HMO HQ HO HA HQF;go_wp2_with fail;refine(HSA.out wr _ _ _ _ (HLZ.out _ HB.out) HWV.out).mono ?_;rintro e w16 ⟨rfl,hb16⟩
                have HB16:=qq (below_then HBC.out (below_then HB.out hb16));clear hb16;go_wp2_with fail
                all_goals go_ret
                all_goals exact⟨by first | rfl | exact ret_bool (by simp),HB16.out⟩
            | false=>
             have HP:Hid (pMeet ⟨eo,en,eb,ek⟩ ⟨fo,fn,fb,fk⟩=(L1.filter (fun x=>L2.any fun z=>decide (z=x)),0)):=qq (by rw[HPM.out];simp);rw[HP.out] at HMT;have hez:errOf ea 0=.nilIface:=rfl;have he4:errOf ea 4=errV (ea 4):=rfl;have he6:errOf ea 6=errV (ea 6):=rfl
             try rw[hez] at HNU1
             try rw[he4] at HNU1
             try rw[he6] at HNU1
             try rw[hez] at HNU2
             try rw[he4] at HNU2
             try rw[he6] at HNU2
             have hyes:(decide ((0:Int)=0) && L1.any fun x=>decide (x=pSet names))=false:=by simp[←HBQ.out]
             have HYES:=qq hyes;have HE0:=qq hez;have HE4:=qq he4;have HE6:=qq he6;clear hyes HPM hez he4 he6;go_wp2_with fail;refine(HMT.out w9 HC9.out).mono ?_;rintro e w10 ⟨v10,rfl,hv10,hb10⟩;have HC10:=qq (below_then HC9.out hb10);have HV10:=qq (hv10.base (B:=W0.heap.size) HC9.out.size);have HX10:=qq (HV79.out.below hb10);have HY10:=qq (HV9.out.below hb10);obtain⟨a10,c10,rfl⟩:=hv10.row
             dsimp only at HV10⊢
             try rw[List.length_nil] at HV10⊢
             obtain⟨m3,hm3⟩:∃q,q=(L1.filter (fun x=>L2.any fun z=>decide (z=x))).length:=⟨_,rfl⟩
             have HM3:=qq hm3;rw[←hm3] at HV10⊢;clear hm3;clear hv10 hb10 HMT HP l1 q1 f1 l2 q2 f2 HV79 HV9
             first | rw[HE0.out] | rw[HE4.out] | rw[HE6.out]
             obtain⟨l1,q1,f1⟩:=KE.out.below HC10.out;go_wp2_with fail;refine(HAL.out w10 HC10.out).mono ?_;rintro e w11 h11;obtain⟨rfl,hb11⟩:=HEA.out _ _ _ h11;have HF11:=qq hb11;clear h11 hb11 HAL HEA l1 q1 f1;rw[HYES.out]
             first | rw[HE0.out] | rw[HE4.out] | rw[HE6.out]
             clear HYES HE0 HE4 HE6;go_wp2_with fail;refine(HNU1.out w11 (below_then HBW.out (below_then HC10.out HF11.out))).mono ?_;rintro e w12 ⟨rfl,hb12⟩;have HF12:=qq (below_then HF11.out hb12);clear hb12;go_wp2_with fail;refine(HSE.out w12 (below_then HC10.out HF12.out)).mono ?_;rintro e w13 ⟨v13,rfl,hv13,hb13⟩;have HF13:=qq (below_then HF12.out hb13);obtain⟨a13,c13,rfl⟩:=row_slice hv13
             have HHS:=qq (rhas_of W0.heap.size _ a13 c13 _ L1 (pSet names) w13 (HX10.out.below HF13.out) (by have:=HO1.out.1;omega) (fun x hx=>by have:=HO1.out.2 x hx;omega) hv13 (by have h1:=pSet_len names;have h2:=HN20.out;omega));rw[←HBQ.out] at HHS;generalize(pSet names).length=ps at HHS⊢;clear hv13 hb13 HSE;go_wp2_with fail;refine HHS.out.mono ?_;rintro e w14 ⟨rfl,hb14⟩
             have HF14:=qq (below_then HF13.out hb14);clear hb14 HHS HBQ;go_wp2_with fail;have HLX:=qq (fun W (hW:Below w14.heap.size w14 W)=>HX10.out.below (below_then HF14.out hW));have HLY:=qq (fun W (hW:Below w14.heap.size w14 W)=>HY10.out.below (below_then HF14.out hW));have HLZ:=qq (fun W (hW:Below w14.heap.size w14 W)=>HV10.out.below (below_then HF14.out hW))
             have HHX:=qq (fun W (x:PAlt) a2 c2 (hW:Below w14.heap.size w14 W) (hm:x∈L1) (hy:AltV W0.heap.size W (.slice a2 x.length c2) x)=>rhas_of W0.heap.size W0.heap.size a2 c2 _ L2 x W (HLY.out W hW) (by have:=HO2.out.1;omega) (fun z hz=>by have:=HO2.out.2 z hz;omega) hy (by have:=HO1.out.2 x hm;omega))
             have HLE:Hid ((L1.filter (fun x=>L2.any fun z=>decide (z=x))).length≤64):=qq (by have h1:=List.length_filter_le (fun x=>L2.any fun z=>decide (z=x)) L1;have h2:=HO1.out.1;omega)
             have HSA:=qq (fun W Ba Bb va vb (h1:AltsV 49 Ba W va (L1.filter (fun x=>L2.any fun z=>decide (z=x)))) (h2:AltsV 49 Bb W vb (L1.filter (fun x=>L2.any fun z=>decide (z=x))))=>same29_yes Ba Bb va vb _ W h1 h2 (by have:=HLE.out;omega) (fun x hx=>by have:=HO1.out.2 x ((List.mem_filter.1 hx).1);omega));have HBC:=qq (below_then HBW.out (below_then HC10.out HF14.out))
             have HZ14:=qq (Nat.le_trans HC10.out.size HF14.out.size);have hm64:m1≤64:=by have:=HO1.out.1;have:=HM1.out;omega
             clear HX10 HY10 HV10 HF11 HF12 HF13 HF14 HC10
             go_loopw [19,110] (fun ov cc wr=>∃(i m:Nat) (out:List PAlt) (vs:Array Value),i≤m1∧m≤i∧cc=.int .i64 (i:Int)∧Hid (m=out.length)∧Hid (out=(L1.take i).filter (fun x=>L2.any fun z=>decide (z=x)))∧Hid (wr.ownsRow w14.heap.size 49 1 ov m vs.toList)∧Hid (Alts W0.heap.size wr vs out.toArray)∧Hid (Below w14.heap.size w14 wr)) (fun _ cc _=>m1 - (intOf cc).toNat)
             case atStart=>exact⟨0,0,[],#[],by omega,by omega,by first | rfl | go_num,qq rfl,qq rfl,qq (own_emptyB w14 w14.heap.size _ _ (Nat.le_refl _)),qq ⟨rfl,fun i hi=>by simp at hi⟩,qq ((Below.refl _ _).alloc (Nat.le_refl _) _)⟩
             case round=>
              obtain⟨i,m,out,vs,hi,hmi,rfl,HMO,HQ,HO,HA,HB⟩:=hrel;have hi0:(0:Int)≤(i:Int):=by omega
              obtain⟨ao,co,rfl⟩:=row_slice HO.out;have hwr:=HB.out.size;by_cases hlt:i<m1
              · have hi1:(i:Int)<(m1:Int):=by omega
                obtain⟨x,hx⟩:∃x,L1[i]? =some x:=⟨_,List.getElem?_eq_getElem (by rw[←HM1.out];exact hlt)⟩
                have HMEM:=qq (List.mem_of_getElem? hx);obtain⟨g,ax,cx,cap,e1,hxv,hcell,hgl⟩:=alts_at (HLX.out _ HB.out) i x hx;injection e1 with e1a e1n e1b
                clear e1n;subst e1a e1b;have hc1:=hcell wr (Below.refl _ _);have HXV:=qq hxv;have HCX:=qq (HHX.out wr x ax cx HB.out HMEM.out hxv);have HXI:=qq hx;obtain⟨nx,hnx⟩:∃q,q=x.length:=⟨_,rfl⟩
                rw[←hnx] at hc1 HXV HCX;obtain⟨p,hp⟩:∃p,p=L2.any fun z=>decide (z=x):=⟨_,rfl⟩
                rw[←hp] at HCX;have HPP:=qq hp;clear hcell hxv hnx hx hp;go_wp2_with fail;refine HCX.out.mono ?_;rintro e w15 ⟨rfl,hb15⟩;have HB15:=qq (below_then HB.out hb15);have HO15:=qq (row_be HO.out hb15);have HA15:=qq (HA.out.keep hb15.block);have HX15:=qq (row_be HXV.out hb15);have hz15:=HB15.out.size;clear hb15 hc1 HXV HCX HO HA HMEM
                cases p with
                | true=>
                 have HQ2:Hid (out ++ [x]=(L1.take (i+1)).filter (fun x=>L2.any fun z=>decide (z=x))):=qq (by rw[take_snoc HXI.out,List.filter_append,←HQ.out,List.filter_cons,if_pos (by exact HPP.out.symm)];rfl);have hba:Below w15.heap.size w15 (w15.alloc (.cells #[.slice ax nx cx] 49)):=(Below.refl _ _).alloc (Nat.le_refl _) _;have HROW:=qq (row_be HO15.out hba)
                 have HAL2:=qq (HA15.out.keep hba.block);have HX4:=qq (row_be HX15.out hba);have HB4:=qq (HB15.out.trans (hba.mono HB15.out.size));clear hba HO15 HA15 HX15
                 go_wp2_with (at_builtin;refine wpList_append_rows rfl _ _ 29 rfl w14.heap.size 49 i0 (.slice none 0 0) 1 24 Tryz.underlying29 ei ez es ebx rfl (by decide) _ _ _ rfl HROW.out w15.heap.size _ _ _ rfl (lit_row _ _ _) ?oq1 ?c1q1 ?c2q1 ?c3q1 ?_)
                 case oq1=>first | rfl | (intro u hu;obtain rfl:=List.mem_singleton.1 hu;rfl)
                 case c1q1=>unfold maxLen;omega
                 case c2q1=>omega
                 case c3q1=>have h4:=HB4.out.size;simpa using h4
                 intro vw16 w16 hown hgrow hat;have HBw16:=qq (HB4.out.grown hgrow HB4.out.size (fun q hq=>(HROW.out.lt q hq).1));have HOw16:Hid (w16.ownsRow w14.heap.size 49 1 vw16 (m+1) (vs.push (.slice ax nx cx)).toList):=qq (by simpa using hown);have HAw16:Hid (Alts W0.heap.size w16 (vs.push (.slice ax nx cx)) (out ++ [x]).toArray):=qq (snoc2 HTN.out HROW.out HAL2.out HX4.out hgrow)
                 have hzw16:=HBw16.out.size;obtain⟨aw16,cw16,rfl⟩:=row_slice hown;clear hown hgrow hat HROW HAL2 HX4 HB4;go_wp2_with fail;go_roundw
                 case rel=>exact⟨i+1,m+1,out ++ [x],vs.push (.slice ax nx cx),by omega,by omega,by go_num,qq (by rw[List.length_append,←HMO.out];rfl),HQ2,HOw16,HAw16,HBw16⟩
                 case measure=>simp[intOf];omega
                | false=>
                 have HQ2:Hid (out=(L1.take (i+1)).filter (fun x=>L2.any fun z=>decide (z=x))):=qq (by rw[take_snoc HXI.out,List.filter_append,←HQ.out,List.filter_cons,if_neg (by rw[←HPP.out];simp)];simp);go_wp2_with fail;go_roundw
                 case rel=>exact⟨i+1,m,out,vs,by omega,by omega,by go_num,HMO,HQ2,HO15,HA15,HB15⟩
                 case measure=>simp[intOf];omega
              · obtain rfl:m1=i:=by omega
                have HQF:Hid (out=L1.filter (fun x=>L2.any fun z=>decide (z=x))):=qq (by rw[HQ.out,HM1.out,List.take_length]);have HWV:Hid (AltsV 49 W0.heap.size wr (.slice ao m co) out):=qq ⟨vs,by rw[←HMO.out];exact row_base HO.out HZ14.out,HA.out⟩;rw[HQF.out] at HWV;clear HMO HQ HO HA HQF;go_wp2_with fail;refine(HSA.out wr _ _ _ _ (HLZ.out _ HB.out) HWV.out).mono ?_;rintro e w16 ⟨rfl,hb16⟩
                have HB16:=qq (below_then HBC.out (below_then HB.out hb16));clear hb16;go_wp2_with fail
                all_goals go_ret
                all_goals exact⟨by first | rfl | exact ret_bool (by simp),HB16.out⟩
          · cases bq with
            | true=>
             have HP:Hid (pMeet ⟨eo,en,eb,ek⟩ ⟨fo,fn,fb,fk⟩=([],4)):=qq (by rw[HPM.out];simp);rw[HP.out] at HMT;have hez:errOf ea 0=.nilIface:=rfl;have he4:errOf ea 4=errV (ea 4):=rfl;have he6:errOf ea 6=errV (ea 6):=rfl
             try rw[hez] at HNU1
             try rw[he4] at HNU1
             try rw[he6] at HNU1
             try rw[hez] at HNU2
             try rw[he4] at HNU2
             try rw[he6] at HNU2
             have hyes:(decide ((0:Int)=0) && L1.any fun x=>decide (x=pSet names))=true:=by simp[←HBQ.out]
             have HYES:=qq hyes;have HE0:=qq hez;have HE4:=qq he4;have HE6:=qq he6;clear hyes HPM hez he4 he6;go_wp2_with fail;refine(HMT.out w9 HC9.out).mono ?_;rintro e w10 ⟨v10,rfl,hv10,hb10⟩;have HC10:=qq (below_then HC9.out hb10);have HV10:=qq (hv10.base (B:=W0.heap.size) HC9.out.size);have HX10:=qq (HV79.out.below hb10);have HY10:=qq (HV9.out.below hb10);obtain⟨a10,c10,rfl⟩:=hv10.row
             dsimp only at HV10⊢
             try rw[List.length_nil] at HV10⊢
             clear hv10 hb10 HMT HP l1 q1 f1 l2 q2 f2 HV79 HV9
             first | rw[HE0.out] | rw[HE4.out] | rw[HE6.out]
             obtain⟨l1,q1,f1⟩:=KE.out.below HC10.out;go_wp2_with fail;refine(HAL.out w10 HC10.out).mono ?_;rintro e w11 h11;obtain⟨rfl,hb11⟩:=HEA.out _ _ _ h11;have HF11:=qq hb11;clear h11 hb11 HAL HEA l1 q1 f1;rw[HYES.out]
             first | rw[HE0.out] | rw[HE4.out] | rw[HE6.out]
             clear HYES HE0 HE4 HE6;go_wp2_with fail;refine(HNU1.out w11 (below_then HBW.out (below_then HC10.out HF11.out))).mono ?_;rintro e w12 ⟨rfl,hb12⟩;have HF12:=qq (below_then HF11.out hb12);clear hb12;go_wp2_with fail;refine(HSE.out w12 (below_then HC10.out HF12.out)).mono ?_;rintro e w13 ⟨v13,rfl,hv13,hb13⟩;have HF13:=qq (below_then HF12.out hb13);obtain⟨a13,c13,rfl⟩:=row_slice hv13
             have HHS:=qq (rhas_of W0.heap.size _ a13 c13 _ L1 (pSet names) w13 (HX10.out.below HF13.out) (by have:=HO1.out.1;omega) (fun x hx=>by have:=HO1.out.2 x hx;omega) hv13 (by have h1:=pSet_len names;have h2:=HN20.out;omega));rw[←HBQ.out] at HHS;generalize(pSet names).length=ps at HHS⊢;clear hv13 hb13 HSE;go_wp2_with fail;refine HHS.out.mono ?_;rintro e w14 ⟨rfl,hb14⟩
             have HF14:=qq (below_then HF13.out hb14);clear hb14 HHS HBQ;go_wp2_with fail;refine(HNU2.out w14 (below_then HBW.out (below_then HC10.out HF14.out))).mono ?_;rintro e w15 ⟨rfl,hb15⟩;have HF15:=qq (below_then HBW.out (below_then HC10.out (below_then HF14.out hb15)));clear hb15;go_wp2_with fail
             all_goals go_ret
             all_goals exact⟨by first | rfl | exact ret_bool (by simp),HF15.out⟩
            | false=>
             have HP:Hid (pMeet ⟨eo,en,eb,ek⟩ ⟨fo,fn,fb,fk⟩=([],4)):=qq (by rw[HPM.out];simp);rw[HP.out] at HMT;have hez:errOf ea 0=.nilIface:=rfl;have he4:errOf ea 4=errV (ea 4):=rfl;have he6:errOf ea 6=errV (ea 6):=rfl
             try rw[hez] at HNU1
             try rw[he4] at HNU1
             try rw[he6] at HNU1
             try rw[hez] at HNU2
             try rw[he4] at HNU2
             try rw[he6] at HNU2
             have hyes:(decide ((0:Int)=0) && L1.any fun x=>decide (x=pSet names))=false:=by simp[←HBQ.out]
             have HYES:=qq hyes;have HE0:=qq hez;have HE4:=qq he4;have HE6:=qq he6;clear hyes HPM hez he4 he6;go_wp2_with fail;refine(HMT.out w9 HC9.out).mono ?_;rintro e w10 ⟨v10,rfl,hv10,hb10⟩;have HC10:=qq (below_then HC9.out hb10);have HV10:=qq (hv10.base (B:=W0.heap.size) HC9.out.size);have HX10:=qq (HV79.out.below hb10);have HY10:=qq (HV9.out.below hb10);obtain⟨a10,c10,rfl⟩:=hv10.row
             dsimp only at HV10⊢
             try rw[List.length_nil] at HV10⊢
             clear hv10 hb10 HMT HP l1 q1 f1 l2 q2 f2 HV79 HV9
             first | rw[HE0.out] | rw[HE4.out] | rw[HE6.out]
             obtain⟨l1,q1,f1⟩:=KE.out.below HC10.out;go_wp2_with fail;refine(HAL.out w10 HC10.out).mono ?_;rintro e w11 h11;obtain⟨rfl,hb11⟩:=HEA.out _ _ _ h11;have HF11:=qq hb11;clear h11 hb11 HAL HEA l1 q1 f1;rw[HYES.out]
             first | rw[HE0.out] | rw[HE4.out] | rw[HE6.out]
             clear HYES HE0 HE4 HE6;go_wp2_with fail;refine(HNU1.out w11 (below_then HBW.out (below_then HC10.out HF11.out))).mono ?_;rintro e w12 ⟨rfl,hb12⟩;have HF12:=qq (below_then HF11.out hb12);clear hb12;go_wp2_with fail;refine(HSE.out w12 (below_then HC10.out HF12.out)).mono ?_;rintro e w13 ⟨v13,rfl,hv13,hb13⟩;have HF13:=qq (below_then HF12.out hb13);obtain⟨a13,c13,rfl⟩:=row_slice hv13
             have HHS:=qq (rhas_of W0.heap.size _ a13 c13 _ L1 (pSet names) w13 (HX10.out.below HF13.out) (by have:=HO1.out.1;omega) (fun x hx=>by have:=HO1.out.2 x hx;omega) hv13 (by have h1:=pSet_len names;have h2:=HN20.out;omega));rw[←HBQ.out] at HHS;generalize(pSet names).length=ps at HHS⊢;clear hv13 hb13 HSE;go_wp2_with fail;refine HHS.out.mono ?_;rintro e w14 ⟨rfl,hb14⟩
             have HF14:=qq (below_then HF13.out hb14);clear hb14 HHS HBQ;go_wp2_with fail;refine(HNU2.out w14 (below_then HBW.out (below_then HC10.out HF14.out))).mono ?_;rintro e w15 ⟨rfl,hb15⟩;have HF15:=qq (below_then HBW.out (below_then HC10.out (below_then HF14.out hb15)));clear hb15;go_wp2_with fail
             all_goals go_ret
             all_goals exact⟨by first | rfl | exact ret_bool (by simp),HF15.out⟩
          · cases bq with
            | true=>
             have HP:Hid (pMeet ⟨eo,en,eb,ek⟩ ⟨fo,fn,fb,fk⟩=([],6)):=qq (by rw[HPM.out];simp);rw[HP.out] at HMT;have hez:errOf ea 0=.nilIface:=rfl;have he4:errOf ea 4=errV (ea 4):=rfl;have he6:errOf ea 6=errV (ea 6):=rfl
             try rw[hez] at HNU1
             try rw[he4] at HNU1
             try rw[he6] at HNU1
             try rw[hez] at HNU2
             try rw[he4] at HNU2
             try rw[he6] at HNU2
             have hyes:(decide ((0:Int)=0) && L1.any fun x=>decide (x=pSet names))=true:=by simp[←HBQ.out]
             have HYES:=qq hyes;have HE0:=qq hez;have HE4:=qq he4;have HE6:=qq he6;clear hyes HPM hez he4 he6;go_wp2_with fail;refine(HMT.out w9 HC9.out).mono ?_;rintro e w10 ⟨v10,rfl,hv10,hb10⟩;have HC10:=qq (below_then HC9.out hb10);have HV10:=qq (hv10.base (B:=W0.heap.size) HC9.out.size);have HX10:=qq (HV79.out.below hb10);have HY10:=qq (HV9.out.below hb10);obtain⟨a10,c10,rfl⟩:=hv10.row
             dsimp only at HV10⊢
             try rw[List.length_nil] at HV10⊢
             clear hv10 hb10 HMT HP l1 q1 f1 l2 q2 f2 HV79 HV9
             first | rw[HE0.out] | rw[HE4.out] | rw[HE6.out]
             obtain⟨l1,q1,f1⟩:=KE.out.below HC10.out;go_wp2_with fail;refine(HAL.out w10 HC10.out).mono ?_;rintro e w11 h11;obtain⟨rfl,hb11⟩:=HEA.out _ _ _ h11;have HF11:=qq hb11;clear h11 hb11 HAL HEA l1 q1 f1;rw[HYES.out]
             first | rw[HE0.out] | rw[HE4.out] | rw[HE6.out]
             clear HYES HE0 HE4 HE6;go_wp2_with fail;refine(HNU1.out w11 (below_then HBW.out (below_then HC10.out HF11.out))).mono ?_;rintro e w12 ⟨rfl,hb12⟩;have HF12:=qq (below_then HF11.out hb12);clear hb12;go_wp2_with fail;refine(HSE.out w12 (below_then HC10.out HF12.out)).mono ?_;rintro e w13 ⟨v13,rfl,hv13,hb13⟩;have HF13:=qq (below_then HF12.out hb13);obtain⟨a13,c13,rfl⟩:=row_slice hv13
             have HHS:=qq (rhas_of W0.heap.size _ a13 c13 _ L1 (pSet names) w13 (HX10.out.below HF13.out) (by have:=HO1.out.1;omega) (fun x hx=>by have:=HO1.out.2 x hx;omega) hv13 (by have h1:=pSet_len names;have h2:=HN20.out;omega));rw[←HBQ.out] at HHS;generalize(pSet names).length=ps at HHS⊢;clear hv13 hb13 HSE;go_wp2_with fail;refine HHS.out.mono ?_;rintro e w14 ⟨rfl,hb14⟩
             have HF14:=qq (below_then HF13.out hb14);clear hb14 HHS HBQ;go_wp2_with fail;refine(HNU2.out w14 (below_then HBW.out (below_then HC10.out HF14.out))).mono ?_;rintro e w15 ⟨rfl,hb15⟩;have HF15:=qq (below_then HBW.out (below_then HC10.out (below_then HF14.out hb15)));clear hb15;go_wp2_with fail
             all_goals go_ret
             all_goals exact⟨by first | rfl | exact ret_bool (by simp),HF15.out⟩
            | false=>
             have HP:Hid (pMeet ⟨eo,en,eb,ek⟩ ⟨fo,fn,fb,fk⟩=([],6)):=qq (by rw[HPM.out];simp);rw[HP.out] at HMT;have hez:errOf ea 0=.nilIface:=rfl;have he4:errOf ea 4=errV (ea 4):=rfl;have he6:errOf ea 6=errV (ea 6):=rfl
             try rw[hez] at HNU1
             try rw[he4] at HNU1
             try rw[he6] at HNU1
             try rw[hez] at HNU2
             try rw[he4] at HNU2
             try rw[he6] at HNU2
             have hyes:(decide ((0:Int)=0) && L1.any fun x=>decide (x=pSet names))=false:=by simp[←HBQ.out]
             have HYES:=qq hyes;have HE0:=qq hez;have HE4:=qq he4;have HE6:=qq he6;clear hyes HPM hez he4 he6;go_wp2_with fail;refine(HMT.out w9 HC9.out).mono ?_;rintro e w10 ⟨v10,rfl,hv10,hb10⟩;have HC10:=qq (below_then HC9.out hb10);have HV10:=qq (hv10.base (B:=W0.heap.size) HC9.out.size);have HX10:=qq (HV79.out.below hb10);have HY10:=qq (HV9.out.below hb10);obtain⟨a10,c10,rfl⟩:=hv10.row
             dsimp only at HV10⊢
             try rw[List.length_nil] at HV10⊢
             clear hv10 hb10 HMT HP l1 q1 f1 l2 q2 f2 HV79 HV9
             first | rw[HE0.out] | rw[HE4.out] | rw[HE6.out]
             obtain⟨l1,q1,f1⟩:=KE.out.below HC10.out;go_wp2_with fail;refine(HAL.out w10 HC10.out).mono ?_;rintro e w11 h11;obtain⟨rfl,hb11⟩:=HEA.out _ _ _ h11;have HF11:=qq hb11;clear h11 hb11 HAL HEA l1 q1 f1;rw[HYES.out]
             first | rw[HE0.out] | rw[HE4.out] | rw[HE6.out]
             clear HYES HE0 HE4 HE6;go_wp2_with fail;refine(HNU1.out w11 (below_then HBW.out (below_then HC10.out HF11.out))).mono ?_;rintro e w12 ⟨rfl,hb12⟩;have HF12:=qq (below_then HF11.out hb12);clear hb12;go_wp2_with fail;refine(HSE.out w12 (below_then HC10.out HF12.out)).mono ?_;rintro e w13 ⟨v13,rfl,hv13,hb13⟩;have HF13:=qq (below_then HF12.out hb13);obtain⟨a13,c13,rfl⟩:=row_slice hv13
             have HHS:=qq (rhas_of W0.heap.size _ a13 c13 _ L1 (pSet names) w13 (HX10.out.below HF13.out) (by have:=HO1.out.1;omega) (fun x hx=>by have:=HO1.out.2 x hx;omega) hv13 (by have h1:=pSet_len names;have h2:=HN20.out;omega));rw[←HBQ.out] at HHS;generalize(pSet names).length=ps at HHS⊢;clear hv13 hb13 HSE;go_wp2_with fail;refine HHS.out.mono ?_;rintro e w14 ⟨rfl,hb14⟩
             have HF14:=qq (below_then HF13.out hb14);clear hb14 HHS HBQ;go_wp2_with fail;refine(HNU2.out w14 (below_then HBW.out (below_then HC10.out HF14.out))).mono ?_;rintro e w15 ⟨rfl,hb15⟩;have HF15:=qq (below_then HBW.out (below_then HC10.out (below_then HF14.out hb15)));clear hb15;go_wp2_with fail
             all_goals go_ret
             all_goals exact⟨by first | rfl | exact ret_bool (by simp),HF15.out⟩
        · have HP:Hid (pMeet ⟨eo,en,eb,ek⟩ ⟨fo,fn,fb,fk⟩=([],4)):=qq (by rw[HPM.out];simp);rw[HP.out] at HMT;have hez:errOf ea 0=.nilIface:=rfl;have he4:errOf ea 4=errV (ea 4):=rfl;have he6:errOf ea 6=errV (ea 6):=rfl
          try rw[hez] at HNU1
          try rw[he4] at HNU1
          try rw[he6] at HNU1
          try rw[hez] at HNU2
          try rw[he4] at HNU2
          try rw[he6] at HNU2
          have hyes:(decide ((4:Int)=0) && L1.any fun x=>decide (x=pSet names))=false:=by simp
          have HYES:=qq hyes;have HE0:=qq hez;have HE4:=qq he4;have HE6:=qq he6;clear hyes HPM hez he4 he6;go_wp2_with fail;refine(HMT.out w9 HC9.out).mono ?_;rintro e w10 ⟨v10,rfl,hv10,hb10⟩;have HC10:=qq (below_then HC9.out hb10);have HV10:=qq (hv10.base (B:=W0.heap.size) HC9.out.size);have HX10:=qq (HV79.out.below hb10);have HY10:=qq (HV9.out.below hb10);obtain⟨a10,c10,rfl⟩:=hv10.row
          dsimp only at HV10⊢
          try rw[List.length_nil] at HV10⊢
          clear hv10 hb10 HMT HP l1 q1 f1 l2 q2 f2 HV79 HV9
          first | rw[HE0.out] | rw[HE4.out] | rw[HE6.out]
          obtain⟨l1,q1,f1⟩:=KE.out.below HC10.out;go_wp2_with fail;refine(HAL.out w10 HC10.out).mono ?_;rintro e w11 h11;obtain⟨rfl,hb11⟩:=HEA.out _ _ _ h11;have HF11:=qq hb11;clear h11 hb11 HAL HEA l1 q1 f1;rw[HYES.out]
          first | rw[HE0.out] | rw[HE4.out] | rw[HE6.out]
          clear HYES HE0 HE4 HE6;go_wp2_with fail;refine(HNU1.out w11 (below_then HBW.out (below_then HC10.out HF11.out))).mono ?_;rintro e w12 ⟨rfl,hb12⟩;have HF12:=qq (below_then HF11.out hb12);clear hb12;go_wp2_with fail;refine(HNU1.out w12 (below_then HBW.out (below_then HC10.out HF12.out))).mono ?_;rintro e w13 ⟨rfl,hb13⟩
          have HF13:=qq (below_then HBW.out (below_then HC10.out (below_then HF12.out hb13)));clear hb13;go_wp2_with fail
          all_goals go_ret
          all_goals exact⟨by first | rfl | exact ret_bool (by simp),HF13.out⟩
        · have HP:Hid (pMeet ⟨eo,en,eb,ek⟩ ⟨fo,fn,fb,fk⟩=([],6)):=qq (by rw[HPM.out];simp);rw[HP.out] at HMT;have hez:errOf ea 0=.nilIface:=rfl;have he4:errOf ea 4=errV (ea 4):=rfl;have he6:errOf ea 6=errV (ea 6):=rfl
          try rw[hez] at HNU1
          try rw[he4] at HNU1
          try rw[he6] at HNU1
          try rw[hez] at HNU2
          try rw[he4] at HNU2
          try rw[he6] at HNU2
          have hyes:(decide ((6:Int)=0) && L1.any fun x=>decide (x=pSet names))=false:=by simp
          have HYES:=qq hyes;have HE0:=qq hez;have HE4:=qq he4;have HE6:=qq he6;clear hyes HPM hez he4 he6;go_wp2_with fail;refine(HMT.out w9 HC9.out).mono ?_;rintro e w10 ⟨v10,rfl,hv10,hb10⟩;have HC10:=qq (below_then HC9.out hb10);have HV10:=qq (hv10.base (B:=W0.heap.size) HC9.out.size);have HX10:=qq (HV79.out.below hb10);have HY10:=qq (HV9.out.below hb10);obtain⟨a10,c10,rfl⟩:=hv10.row
          dsimp only at HV10⊢
          try rw[List.length_nil] at HV10⊢
          clear hv10 hb10 HMT HP l1 q1 f1 l2 q2 f2 HV79 HV9
          first | rw[HE0.out] | rw[HE4.out] | rw[HE6.out]
          obtain⟨l1,q1,f1⟩:=KE.out.below HC10.out;go_wp2_with fail;refine(HAL.out w10 HC10.out).mono ?_;rintro e w11 h11;obtain⟨rfl,hb11⟩:=HEA.out _ _ _ h11;have HF11:=qq hb11;clear h11 hb11 HAL HEA l1 q1 f1;rw[HYES.out]
          first | rw[HE0.out] | rw[HE4.out] | rw[HE6.out]
          clear HYES HE0 HE4 HE6;go_wp2_with fail;refine(HNU1.out w11 (below_then HBW.out (below_then HC10.out HF11.out))).mono ?_;rintro e w12 ⟨rfl,hb12⟩;have HF12:=qq (below_then HF11.out hb12);clear hb12;go_wp2_with fail;refine(HNU1.out w12 (below_then HBW.out (below_then HC10.out HF12.out))).mono ?_;rintro e w13 ⟨rfl,hb13⟩
          have HF13:=qq (below_then HBW.out (below_then HC10.out (below_then HF12.out hb13)));clear hb13;go_wp2_with fail
          all_goals go_ret
          all_goals exact⟨by first | rfl | exact ret_bool (by simp),HF13.out⟩
end Go.Proofs.YtbepkpjcjpmpmaaGreatDoor
