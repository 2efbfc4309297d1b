/- SmC, RstC, RstU, RfcH -/
import Derived.Test.YtlkajejbfojkeaaGreatDoorGSmAToFcE
import Derived.Deep.CutRange
import Derived.Deep.RegionHeld3
import Derived.Test.YtlkajejbfojkeaaGreatDoorKRfcE
import Derived.Test.YtlkajejbfojkeaaGreatDoorKRfcF
import Derived.Test.YtlkajejbfojkeaaGreatDoorKRfcG
set_option linter.unusedSimpArgs false
set_option linter.unusedVariables false
set_option maxRecDepth 100000
set_option maxHeartbeats 16000000
namespace Go.Proofs.YtlkajejbfojkeaaGreatDoor
open Go.RowKit
attribute [local go_sem] store_float
theorem same15_of (L:SLoc) (R:RLoc) (S:Sto) (w:World) (h:StoreAt L S w) (hr:RStoreAt R S w) (hG:StoGood S):Calls Tryz.prog 23 #[.pointer (some ⟨L.sb,0,none⟩),.pointer (some ⟨R.sb,0,none⟩)] w (Makes (.bool true) w):=by
 have H:=qq h;have HR:=qq hr;have HG:=qq hG;have HAT:=qq (fun W hW=>acts_of L S W hW hG);have HPT:=qq (fun W hW=>parts_of L S W hW hG.parts);have HND:=qq (fun W hW=>node_of L S W hW);have HNX:=qq (fun W hW=>next_of L S W hW);obtain⟨n,hn⟩:∃n,n=S.acts.length:=⟨_,rfl⟩
 obtain⟨m,hm⟩:∃m,m=S.parts.length:=⟨_,rfl⟩
 obtain⟨nd,hnd⟩:∃x,x=S.node:=⟨_,rfl⟩
 obtain⟨nx,hnx⟩:∃x,x=S.next:=⟨_,rfl⟩
 have h8:n≤8:=by rw[hn];exact hG.acts
 have m8:m≤8:=by rw[hm];exact hG.parts
 obtain⟨ra,rc,hra,_,_⟩:=act_row hr.len hr.acts;obtain⟨rp,rpc,hrp⟩:=row_slice hr.parts;have hQ:=fun W (hW:Below w.heap.size w W)=>(show R.sb<W.heap.size∧W.cell? ⟨R.sb,0,none⟩=some (.int .i64 nd)∧W.cell? ⟨R.sb,1,none⟩=some (.int .i64 nx)∧W.cell? ⟨R.sb,2,none⟩=some (.slice ra n rc)∧W.cell? ⟨R.sb,3,none⟩=some (.slice rp m rpc) from by
   have h1:=(hr.below hW).blk;rw[hra,hrp,←hn,←hm,←hnd,←hnx] at h1;exact⟨h1.lt,h1.cell 0,h1.cell 1,h1.cell 2,h1.cell 3⟩)
 have HQ:=qq hQ;rw[←hnd] at HND;rw[←hnx] at HNX;rw[←hm] at HPT;have HRA:=qq (show R.av=.slice ra n rc by rw[hra,hn]);have HN:=qq hn;have HM:=qq hm;clear h hr hG hn hm hnd hnx hra hrp hQ;go_enter Tryz.func23,Tryz.ntmps23;obtain⟨xl,q0,q1,q2,q3⟩:=HQ.out _ (Below.refl _ _);go_wp2_with fail;clear xl q0 q1 q2 q3;refine(HAT.out _ (H.out.below (Below.refl w.heap.size w))).mono ?_
 rintro e w1 ⟨v1,vs,rfl,ha,hb1⟩;obtain⟨xa,xc,rfl,_,_⟩:=act_row ha.len ha.row;rw[←HN.out] at ha⊢;have HB:=qq (below_then (Below.refl w.heap.size w) hb1);have z1:=HB.out.size;clear hb1;have HA:=qq (ha)
 (try clear ha)
 obtain⟨xl,q0,q1,q2,q3⟩:=HQ.out _ HB.out;go_wp2_with fail;clear xl q0 q1 q2 q3;refine(HPT.out _ (H.out.below HB.out)).mono ?_;rintro e w2 ⟨v2,rfl,hp,hb2⟩;obtain⟨pa0,pc0,rfl⟩:=row_slice hp;have HA:=qq (HA.out.below hb2);have HB:=qq (below_then HB.out hb2);have z2:=HB.out.size;clear hb2;have HP:=qq (hp)
 (try clear hp)
 obtain⟨xl,q0,q1,q2,q3⟩:=HQ.out _ HB.out;go_wp2_with fail;clear xl q0 q1 q2 q3;refine reg_start (fun w'=>ActsIn _ _ _ _ w'∧World.ownsRow w' _ _ _ _ _ _∧Below w.heap.size w w') (by kernel_rfl) ⟨(HA.out.below (by go_grown)),(row_dr HP.out),(bel_drew HB.out)⟩ ?_;rintro w3 hHeld;obtain⟨HA',HP',HB'⟩:=id hHeld;have HA:=qq HA';have HP:=qq HP';have HB:=qq HB';clear HA' HP' HB';have z3:=HB.out.size
 refine takeM (d:=some 26) 0 rfl rfl hHeld (fun w' _=>by go_simp;(try rfl)) ?_;simp only[puts];refine takeM (d:=some 28) 2 rfl rfl hHeld (fun w' _=>by go_simp;(try rfl)) ?_;simp only[puts];refine takeM (d:=some 29) 3 rfl rfl hHeld (fun w' _=>by go_simp;(try rfl)) ?_;simp only[puts];refine takeM (d:=some 30) 4 rfl rfl hHeld (fun w' _=>by go_simp;(try rfl)) ?_;simp only[puts]
 refine takeM (d:=some 31) 5 rfl rfl hHeld (fun w' hS'=>by obtain⟨xl,q0,q1,q2,q3⟩:=HQ.out _ hS'.2.2;clear hS';go_simp;(try rfl)) ?_;simp only[puts];refine one_M 1 (by kernel_rfl) ?_;refine wpOp_call (d:=some 27) 1 94 _ _ [.pointer (some ⟨L.sb,0,none⟩)] rfl rfl rfl (enters_of Tryz.func94 (by kernel_rfl) rfl) (by rfl) (by rfl) ?_;refine(HND.out _ (H.out.below HB.out)).mono ?_;rintro e w4 ⟨rfl,rfl⟩
 refine ret_S hHeld (fun hHeld=> ?_);simp only[puts];refine takeM (d:=some 32) 6 rfl rfl hHeld (fun w' _=>by go_simp;(try rfl)) ?_;simp only[puts];refine takeM (d:=some 33) 7 rfl rfl hHeld (fun w' _=>by go_simp;(try rfl)) ?_;simp only[puts];refine takeM (d:=some 34) 8 rfl rfl hHeld (fun w' _=>by go_simp;(try rfl)) ?_;simp only[puts]
 refine takeM (d:=some 36) 10 rfl rfl hHeld (fun w' _=>by go_simp;(try rfl)) ?_;simp only[puts];refine takeM (d:=some 37) 11 rfl rfl hHeld (fun w' _=>by go_simp;(try rfl)) ?_;simp only[puts];refine takeM (d:=some 38) 12 rfl rfl hHeld (fun w' _=>by go_simp;(try rfl)) ?_;simp only[puts]
 refine takeM (d:=some 39) 13 rfl rfl hHeld (fun w' hS'=>by obtain⟨xl,q0,q1,q2,q3⟩:=HQ.out _ hS'.2.2;clear hS';go_simp;(try rfl)) ?_;simp only[puts];refine one_M 9 (by kernel_rfl) ?_;refine wpOp_call (d:=some 35) 9 95 _ _ [.pointer (some ⟨L.sb,0,none⟩)] rfl rfl rfl (enters_of Tryz.func95 (by kernel_rfl) rfl) (by rfl) (by rfl) ?_;refine(HNX.out _ (H.out.below HB.out)).mono ?_;rintro e w5 ⟨rfl,rfl⟩
 refine ret_S hHeld (fun hHeld=> ?_);simp only[puts];refine takeM (d:=some 40) 14 rfl rfl hHeld (fun w' _=>by go_simp;(try rfl)) ?_;simp only[puts];refine takeM (d:=some 41) 15 rfl rfl hHeld (fun w' _=>by go_simp;(try rfl)) ?_;simp only[puts];refine takeM (d:=some 42) 16 rfl rfl hHeld (fun w' _=>by go_simp;(try rfl)) ?_;simp only[puts]
 refine takeM (d:=some 43) 17 rfl rfl hHeld (fun w' _=>by go_simp;(try rfl)) ?_;simp only[puts];refine takeM (d:=some 44) 18 rfl rfl hHeld (fun w' _=>by go_simp;(try rfl)) ?_;simp only[puts];refine takeM (d:=some 45) 19 rfl rfl hHeld (fun w' _=>by go_simp;(try rfl)) ?_;simp only[puts];refine takeM (d:=some 46) 20 rfl rfl hHeld (fun w' _=>by go_simp;(try rfl)) ?_;simp only[puts]
 refine takeM (d:=some 47) 21 rfl rfl hHeld (fun w' _=>by go_simp;(try rfl)) ?_;simp only[puts];refine takeM (d:=some 48) 22 rfl rfl hHeld (fun w' hS'=>by obtain⟨xl,q0,q1,q2,q3⟩:=HQ.out _ hS'.2.2;clear hS';go_simp;(try rfl)) ?_;simp only[puts];refine takeM (d:=some 49) 23 rfl rfl hHeld (fun w' _=>by go_simp;(try rfl)) ?_;simp only[puts]
 refine takeM (d:=some 50) 24 rfl rfl hHeld (fun w' _=>by go_simp;(try rfl)) ?_;simp only[puts];refine takeM (d:=some 51) 25 rfl rfl hHeld (fun w' _=>by go_simp;(try rfl)) ?_;simp only[puts];refine takeM (d:=some 52) 26 rfl rfl hHeld (fun w' _=>by go_simp;(try rfl)) ?_;simp only[puts];refine takeM (d:=some 53) 27 rfl rfl hHeld (fun w' _=>by go_simp;(try rfl)) ?_;simp only[puts]
 refine takeM (d:=some 54) 28 rfl rfl hHeld (fun w' _=>by go_simp;(try rfl)) ?_;simp only[puts];refine takeM (d:=some 55) 29 rfl rfl hHeld (fun w' _=>by go_simp;(try rfl)) ?_;simp only[puts];refine takeM (d:=some 56) 30 rfl rfl hHeld (fun w' _=>by go_simp;(try rfl)) ?_;simp only[puts];refine takeM (d:=some 57) 31 rfl rfl hHeld (fun w' _=>by go_simp;(try rfl)) ?_;simp only[puts]
 refine takeM (d:=some 58) 32 rfl rfl hHeld (fun w' hS'=>by obtain⟨xl,q0,q1,q2,q3⟩:=HQ.out _ hS'.2.2;clear hS';go_simp;(try rfl)) ?_;simp only[puts];refine takeM (d:=some 59) 33 rfl rfl hHeld (fun w' _=>by go_simp;(try rfl)) ?_;simp only[puts];refine takeM (d:=some 60) 34 rfl rfl hHeld (fun w' _=>by go_simp;(try rfl)) ?_;simp only[puts]
 refine takeM (d:=some 61) 35 rfl rfl hHeld (fun w' _=>by go_simp;(try rfl)) ?_;simp only[puts];refine doneM (by kernel_rfl) ?_ _;clear hHeld;obtain⟨xl,q0,q1,q2,q3⟩:=HQ.out _ HB.out;go_wp2_with fail;clear xl q0 q1 q2 q3;go_loopw [64] (fun i wr=>∃k:Nat,k≤n∧i=.int .i64 (k:Nat)∧Below w3.heap.size w3 wr) (fun i _=>n - (intOf i).toNat)
 case atStart=>exact⟨0,by omega,by first | rfl | go_num,Below.refl _ _⟩
 case round=>
  obtain⟨k,hk,rfl,hB⟩:=hrel;have BW:Below w.heap.size w wr:=below_then HB.out hB;have H:=qq (H.out.below BW);have HR:=qq (HR.out.below BW);have HA:=qq (HA.out.below hB);by_cases hlt:k<n
  · have hki:(k:Int)<(n:Int):=by omega
    have hk0:(0:Int)≤(k:Int):=by omega
    obtain⟨a,ha⟩:∃a,S.acts[k]? =some a:=⟨_,List.getElem?_eq_getElem (by rw[←HN.out];exact hlt)⟩
    obtain⟨x,hx⟩:∃x,vs[k]? =some x:=⟨_,List.getElem?_eq_getElem (by rw[HA.out.len,←HN.out];exact hlt)⟩
    obtain⟨u,hu⟩:∃u,R.rv[k]? =some u:=⟨_,List.getElem?_eq_getElem (by rw[HR.out.len,←HN.out];exact hlt)⟩
    have hm:=List.mem_of_getElem? ha;have hv6:=(HG.out.act a hm).len;have hex:F64 a.ex:=by have:=(ctxOk_ex (HG.out.act a hm).ctx).1;unfold fdelay at this;unfold F64;simp at this;omega
    have hlg:=lGet_at HG.out ha;have hcr:=HA.out.regs k a x ha hx;have hrg:=HR.out.regs k u a hu ha;obtain⟨xa',xc',hxe,_,hrow⟩:=act_row HA.out.len HA.out.row;obtain⟨ga,rfl,hgl,_,hcl⟩:=hrow (by rw[←HN.out];omega);simp only[Value.slice.injEq] at hxe;obtain⟨rfl,-,rfl⟩:=hxe;obtain⟨ra',rc',hre,_,hrow2⟩:=act_row HR.out.len HR.out.acts;rw[HRA.out] at hre
    obtain⟨g,rfl,hg,_,hcl2⟩:=hrow2 (by rw[←HN.out];omega);simp only[Value.slice.injEq] at hre;obtain⟨rfl,-,rfl⟩:=hre;have hQ2:=fun W (hW:Below wr.heap.size wr W)=>(show R.sb<W.heap.size∧g<W.heap.size∧ga<W.heap.size∧W.cell? ⟨R.sb,2,none⟩=some (.slice (some ⟨g,0,none⟩) n rc)∧ActC W ga (k*8) a x∧ActC W g (k*8) a u from by
      have h1:=HQ.out W (BW.trans (hW.mono BW.size));exact⟨h1.1,Nat.lt_of_lt_of_le hg hW.size,Nat.lt_of_lt_of_le hgl hW.size,h1.2.2.2.1,(hcl k a x ha hx).below hW hgl,(hcl2 k a u ha hu).below hW hg⟩)
    have HFD:=qq (fun W hW=>Find_yes L S a.an a.aq k a W hW HG.out hlg);obtain⟨ca,cc,rfl,_,_⟩:=reg_row hcr;obtain⟨va,vc,rfl,_,_⟩:=reg_row hrg;obtain⟨an,aq,oc,dp,ex,pa,de,rs⟩:=a;have HAC:=qq (fun ca cc B W (h:World.ownsRow W B 55 6 (.slice ca rs.length cc) rs.length (regsL rs))=>act15_of an aq oc dp ex pa de ca cc rs B W h (by dsimp only at hv6;omega))
    have HSA:=qq (fun a1 a2 c1 c2 B1 B2 T1 T2 W (h1:World.ownsRow W B1 T1 6 (.slice a1 rs.length c1) rs.length (regsL rs)) (h2:World.ownsRow W B2 T2 6 (.slice a2 rs.length c2) rs.length (regsL rs))=>rsameAct_self an aq oc dp ex pa de a1 a2 c1 c2 rs B1 B2 T1 T2 W h1 h2 hex (by dsimp only at hv6;omega));unfold ActOut at HFD;unfold ActC at hQ2;dsimp only[actC] at HFD hQ2 hcr hrg
    have HCR:=qq hcr;have HRG:=qq hrg;obtain⟨vn,hvn⟩:∃n,n=rs.length:=⟨_,rfl⟩
    simp only[←hvn] at HAC HSA HCR HRG HFD hQ2;have HQ2:=qq hQ2;clear ha hx hu hm hv6 hex hlg hcr hrg hcl hcl2 hrow hrow2 hQ2 hvn hg hgl;obtain⟨xl,gl,gal,q2,⟨e0,e1,e2,e3,e4,e5,e6,e7⟩,r0,r1,r2,r3,r4,r5,r6,r7⟩:=HQ2.out _ (Below.refl _ _);go_wp2_with fail;clear xl gl gal q2 e0 e1 e2 e3 e4 e5 e6 e7 r0 r1 r2 r3 r4 r5 r6 r7
    refine(HFD.out _ (H.out.below (bel_alloc (Below.refl wr.heap.size wr) _))).mono ?_;rintro e wr21 ⟨v',rfl,ho,hb21⟩;obtain⟨fa,fc,rfl,_,_⟩:=reg_row ho;have HCR:=qq (row_be (row_al HCR.out _) hb21);have HRG:=qq (row_be (row_al HRG.out _) hb21);have K21:=qq ((Blk.fresh _ _ _ (wr.heap.size) (by simp)).below hb21);have HB:=qq (below_then (bel_alloc (Below.refl wr.heap.size wr) _) hb21)
    have z21:=HB.out.size;clear hb21;have HO:=qq (ho)
    (try clear ho)
    have o22K21:=K21.out.lt;obtain⟨xl,gl,gal,q2,⟨e0,e1,e2,e3,e4,e5,e6,e7⟩,r0,r1,r2,r3,r4,r5,r6,r7⟩:=HQ2.out _ HB.out;obtain⟨lK21,qK21,fK21⟩:=K21.out;go_wp2_with fail;clear qK21 fK21 lK21 xl gl gal q2 e0 e1 e2 e3 e4 e5 e6 e7 r0 r1 r2 r3 r4 r5 r6 r7
    refine reg_start (fun w'=>World.ownsRow w' _ _ _ _ _ _∧World.ownsRow w' _ _ _ _ _ _∧Blk w' _ _∧World.ownsRow w' _ _ _ _ _ _∧Blk w' _ _∧Below wr.heap.size wr w') (by kernel_rfl) ⟨(row_dr (row_al HCR.out _)),(row_dr (row_al HRG.out _)),(K21.out.alloc _).drew,(row_dr (row_al HO.out _)),(Blk.fresh _ _ _ (wr21.heap.size) (by simp)).drew,(bel_drew (bel_alloc HB.out _))⟩ ?_;rintro wr22 hHeld
    obtain⟨HCR',HRG',K21',HO',K22',HB'⟩:=id hHeld;have HCR:=qq HCR';have HRG:=qq HRG';have K21:=qq K21';have HO:=qq HO';have K22:=qq K22';have HB:=qq HB';clear HCR' HRG' K21' HO' K22' HB';have z22:=HB.out.size;refine takeM (d:=some 77) 0 rfl rfl hHeld (fun w' hS'=>by have qA:=hS'.2.2.1.cell;clear hS';go_simp;(try rfl)) ?_;simp only[puts]
    refine takeM (d:=some 79) 2 rfl rfl hHeld (fun w' _=>by go_simp;(try rfl)) ?_;simp only[puts];refine takeM (d:=some 80) 3 rfl rfl hHeld (fun w' _=>by go_simp;(try rfl)) ?_;simp only[puts];refine takeM (d:=some 81) 4 rfl rfl hHeld (fun w' _=>by go_simp;(try rfl)) ?_;simp only[puts]
    refine takeM (d:=some 82) 5 rfl rfl hHeld (fun w' hS'=>by obtain⟨xl,gl,gal,q2,⟨e0,e1,e2,e3,e4,e5,e6,e7⟩,r0,r1,r2,r3,r4,r5,r6,r7⟩:=HQ2.out _ hS'.2.2.2.2.2;clear hS';go_simp;(try rfl)) ?_;simp only[puts];refine takeM (d:=some 83) 6 rfl rfl hHeld (fun w' _=>by go_simp;(try rfl)) ?_;simp only[puts];refine takeM (d:=some 84) 7 rfl rfl hHeld (fun w' _=>by go_simp;(try rfl)) ?_;simp only[puts]
    refine takeM (d:=some 85) 8 rfl rfl hHeld (fun w' hS'=>by obtain⟨xl,gl,gal,q2,⟨e0,e1,e2,e3,e4,e5,e6,e7⟩,r0,r1,r2,r3,r4,r5,r6,r7⟩:=HQ2.out _ hS'.2.2.2.2.2;clear hS';go_simp;(try rfl)) ?_;simp only[puts];refine one_M 1 (by kernel_rfl) ?_
    refine wpOp_call (d:=some 78) 1 97 _ _ [.agg #[an,aq,oc,dp,.float .f64 ex,pa,de,.slice ca vn cc]] rfl rfl rfl (enters_of Tryz.func97 (by kernel_rfl) rfl) (by rfl) (by rfl) ?_;refine(HAC.out _ _ _ _ HCR.out).mono ?_;rintro e wr23 ⟨b1,d1,rfl,hrow1,hb23⟩;clear hHeld;have HCR:=qq (row_be HCR.out hb23);have HRG:=qq (row_be HRG.out hb23);have K21:=qq (K21.out.below hb23)
    have HO:=qq (row_be HO.out hb23);have K22:=qq (K22.out.below hb23);have HB:=qq (below_then HB.out hb23);have z23:=HB.out.size;clear hb23;have HD1:=qq (hrow1)
    (try clear hrow1)
    refine ret_S ⟨HCR.out,HRG.out,K21.out,HO.out,K22.out,HB.out⟩ (fun hHeld=> ?_);simp only[puts];refine one_M 9 (by kernel_rfl) ?_;refine wpOp_call (d:=some 86) 9 96 _ _ [.agg #[an,aq,oc,dp,.float .f64 ex,pa,de,.slice b1 vn d1],.agg #[an,aq,oc,dp,.float .f64 ex,pa,de,.slice va vn vc]] rfl rfl rfl (enters_of Tryz.func96 (by kernel_rfl) rfl) (by rfl) (by rfl) ?_
    refine(HSA.out _ _ _ _ _ _ _ _ _ HD1.out HRG.out).mono ?_;rintro e wr24 ⟨rfl,hb24⟩;clear hHeld;have HCR:=qq (row_be HCR.out hb24);have HRG:=qq (row_be HRG.out hb24);have K21:=qq (K21.out.below hb24);have HO:=qq (row_be HO.out hb24);have K22:=qq (K22.out.below hb24);have HD1:=qq (row_be HD1.out hb24);have HB:=qq (below_then HB.out hb24);have z24:=HB.out.size;clear hb24
    refine ret_S ⟨HCR.out,HRG.out,K21.out,HO.out,K22.out,HB.out⟩ (fun hHeld=> ?_);simp only[puts];refine takeM (d:=some 87) 10 rfl rfl hHeld (fun w' _=>by go_simp;(try rfl)) ?_;simp only[puts];refine takeM (d:=some 88) 11 rfl rfl hHeld (fun w' _=>by go_simp;(try rfl)) ?_;simp only[puts];refine takeM (d:=some 89) 12 rfl rfl hHeld (fun w' _=>by go_simp;(try rfl)) ?_;simp only[puts]
    refine takeM (d:=some 90) 13 rfl rfl hHeld (fun w' _=>by go_simp;(try rfl)) ?_;simp only[puts];refine takeM (d:=some 91) 14 rfl rfl hHeld (fun w' _=>by go_simp;(try rfl)) ?_;simp only[puts];refine takeM (d:=some 92) 15 rfl rfl hHeld (fun w' _=>by go_simp;(try rfl)) ?_;simp only[puts]
    refine takeM (d:=some 93) 16 rfl rfl hHeld (fun w' hS'=>by have qA:=hS'.2.2.2.2.1.cell;clear hS';go_simp;(try rfl)) ?_;simp only[puts];refine takeM (d:=some 95) 18 rfl rfl hHeld (fun w' _=>by go_simp;(try rfl)) ?_;simp only[puts];refine takeM (d:=some 96) 19 rfl rfl hHeld (fun w' _=>by go_simp;(try rfl)) ?_;simp only[puts]
    refine takeM (d:=some 97) 20 rfl rfl hHeld (fun w' _=>by go_simp;(try rfl)) ?_;simp only[puts];refine takeM (d:=some 98) 21 rfl rfl hHeld (fun w' hS'=>by obtain⟨xl,gl,gal,q2,⟨e0,e1,e2,e3,e4,e5,e6,e7⟩,r0,r1,r2,r3,r4,r5,r6,r7⟩:=HQ2.out _ hS'.2.2.2.2.2;clear hS';go_simp;(try rfl)) ?_;simp only[puts];refine takeM (d:=some 99) 22 rfl rfl hHeld (fun w' _=>by go_simp;(try rfl)) ?_;simp only[puts]
    refine takeM (d:=some 100) 23 rfl rfl hHeld (fun w' _=>by go_simp;(try rfl)) ?_;simp only[puts];refine takeM (d:=some 101) 24 rfl rfl hHeld (fun w' hS'=>by obtain⟨xl,gl,gal,q2,⟨e0,e1,e2,e3,e4,e5,e6,e7⟩,r0,r1,r2,r3,r4,r5,r6,r7⟩:=HQ2.out _ hS'.2.2.2.2.2;clear hS';go_simp;(try rfl)) ?_;simp only[puts];refine one_M 17 (by kernel_rfl) ?_
    refine wpOp_call (d:=some 94) 17 97 _ _ [.agg #[an,aq,oc,dp,.float .f64 ex,pa,de,.slice fa vn fc]] rfl rfl rfl (enters_of Tryz.func97 (by kernel_rfl) rfl) (by rfl) (by rfl) ?_;refine(HAC.out _ _ _ _ HO.out).mono ?_;rintro e wr25 ⟨b2,d2,rfl,hrow2,hb25⟩;clear hHeld;have HCR:=qq (row_be HCR.out hb25);have HRG:=qq (row_be HRG.out hb25);have K21:=qq (K21.out.below hb25)
    have HO:=qq (row_be HO.out hb25);have K22:=qq (K22.out.below hb25);have HD1:=qq (row_be HD1.out hb25);have HB:=qq (below_then HB.out hb25);have z25:=HB.out.size;clear hb25;have HD2:=qq (hrow2)
    (try clear hrow2)
    refine ret_S ⟨HCR.out,HRG.out,K21.out,HO.out,K22.out,HB.out⟩ (fun hHeld=> ?_);simp only[puts];refine one_M 25 (by kernel_rfl) ?_;refine wpOp_call (d:=some 102) 25 96 _ _ [.agg #[an,aq,oc,dp,.float .f64 ex,pa,de,.slice b2 vn d2],.agg #[an,aq,oc,dp,.float .f64 ex,pa,de,.slice va vn vc]] rfl rfl rfl (enters_of Tryz.func96 (by kernel_rfl) rfl) (by rfl) (by rfl) ?_
    refine(HSA.out _ _ _ _ _ _ _ _ _ HD2.out HRG.out).mono ?_;rintro e wr26 ⟨rfl,hb26⟩;clear hHeld;have HCR:=qq (row_be HCR.out hb26);have HRG:=qq (row_be HRG.out hb26);have K21:=qq (K21.out.below hb26);have HO:=qq (row_be HO.out hb26);have K22:=qq (K22.out.below hb26);have HD1:=qq (row_be HD1.out hb26);have HD2:=qq (row_be HD2.out hb26);have HB:=qq (below_then HB.out hb26);have z26:=HB.out.size
    clear hb26;refine ret_S ⟨HCR.out,HRG.out,K21.out,HO.out,K22.out,HB.out⟩ (fun hHeld=> ?_);simp only[puts];refine takeM (d:=some 103) 26 rfl rfl hHeld (fun w' _=>by go_simp;(try rfl)) ?_;simp only[puts];refine takeM (d:=some 104) 27 rfl rfl hHeld (fun w' _=>by go_simp;(try rfl)) ?_;simp only[puts];refine doneM (by kernel_rfl) ?_ _;clear hHeld;go_wp2_with fail
    all_goals (go_roundw<;>first | exact⟨k+1,by omega,by go_num,below_then hB HB.out⟩ | (simp[intOf];omega))
  · obtain rfl:k=n:=by omega
    have HP:=qq (row_be HP.out hB);have HBW:=qq BW;clear hB hlt hk HB HA;obtain⟨w7,hw7⟩:∃w7:World,w7=wr:=⟨_,rfl⟩
    rw[←hw7] at HP HBW H HR⊢;clear BW hw7;go_wp2_with fail;go_loopw [108] (fun i wr=>∃j:Nat,j≤m∧i=.int .i64 (j:Nat)∧Below w7.heap.size w7 wr) (fun i _=>m - (intOf i).toNat)
    case atStart=>exact⟨0,by omega,by first | rfl | go_num,Below.refl _ _⟩
    case round=>
     obtain⟨j,hk,rfl,hB⟩:=hrel;have BW:Below w.heap.size w wr:=below_then HBW.out hB;have H:=qq (H.out.below hB);have HR:=qq (HR.out.below hB);by_cases hlt:j<m
     · have hki:(j:Int)<(m:Int):=by omega
       have hk0:(0:Int)≤(j:Int):=by omega
       have hj1:decide ((j:Int)≥0)=true:=decide_eq_true hk0;obtain⟨p,hp⟩:∃p,S.parts[j]? =some p:=⟨_,List.getElem?_eq_getElem (by rw[←HM.out];exact hlt)⟩
       have hpg:pGet S (j:Int)=some p:=by unfold pGet;rw[if_pos hk0,Int.toNat_natCast];exact hp
       have hpr:0≤(j:Int)∧(j:Int)<(S.parts.length:Int):=⟨hk0,by rw[←HM.out];exact hki⟩
       have HPY:=qq (fun W hW=>part_yes L S (j:Int) p W hW HG.out.parts hpg);have HRC:=qq (fun W hW=>rchild_of R S (j:Int) W hW HG.out.acts hk0 (by omega));obtain⟨pa1,pc1,hpe,_,hrow⟩:=part_row (row_be HP.out hB);obtain⟨gp,rfl,hgp,_,hcl⟩:=hrow (by omega);simp only[Value.slice.injEq] at hpe;obtain⟨hp1,-,hp2⟩:=hpe;subst hp1 hp2
       obtain⟨i',m',g,cap,hi',him',_,hm',c3,hsb,hg,hpc⟩:=rpart_at HR.out HG.out.parts hpg;obtain rfl:j=i':=by omega
       rw[←HM.out] at hm';obtain rfl:m'=m:=hm'
       have hQ2:=fun W (hW:Below wr.heap.size wr W)=>(show R.sb<W.heap.size∧g<W.heap.size∧gp<W.heap.size∧W.cell? ⟨R.sb,3,none⟩=some (.slice (some ⟨g,0,none⟩) m' cap)∧PartC W gp (j*7) p∧PartC W g (j*7) p from⟨Nat.lt_of_lt_of_le hsb hW.size,Nat.lt_of_lt_of_le hg hW.size,Nat.lt_of_lt_of_le hgp hW.size,(hW.cell (p:=⟨R.sb,3,none⟩) hsb).trans c3,PartC.below (hcl j p hp) hW hgp,PartC.below hpc hW hg⟩)
       cases hsc:schild S ((j:Int)+1) with
       | none=>
        rw[hsc] at HRC;dsimp only[oix] at HRC;have HCH:=qq (fun W hW=>Child_no L S (j:Int) W hW HG.out hpr hsc);obtain⟨pn,pq,pg,⟨sp,sd,ss,sh⟩⟩:=p;unfold PartC at hQ2;dsimp only[partA] at HPY hQ2;unfold ChildOut at HCH;have HQ2:=qq hQ2;clear hp hpg hpr hsc hrow hgp hcl c3 hsb hg hpc hQ2;have hne:=partNe pn pq pg sp sd ss sh
        obtain⟨xl,gl,gal,q3,⟨e0,e1,e2,e3,e4,e5,e6⟩,r0,r1,r2,r3,r4,r5,r6⟩:=HQ2.out _ (Below.refl _ _);go_wp2_with fail;clear xl gl gal q3 e0 e1 e2 e3 e4 e5 e6 r0 r1 r2 r3 r4 r5 r6;refine(HPY.out _ (H.out.below (bel_alloc (Below.refl wr.heap.size wr) _))).mono ?_;rintro e wr41 ⟨rfl,hb41⟩;have K41:=qq ((Blk.fresh _ _ _ (wr.heap.size) (by simp)).below hb41)
        have HB:=qq (below_then (bel_alloc (Below.refl wr.heap.size wr) _) hb41);have z41:=HB.out.size;clear hb41;have o42K41:=K41.out.lt;obtain⟨xl,gl,gal,q3,⟨e0,e1,e2,e3,e4,e5,e6⟩,r0,r1,r2,r3,r4,r5,r6⟩:=HQ2.out _ HB.out;obtain⟨lK41,qK41,fK41⟩:=K41.out;go_wp2_with fail;clear qK41 fK41 lK41 xl gl gal q3 e0 e1 e2 e3 e4 e5 e6 r0 r1 r2 r3 r4 r5 r6
        refine(HCH.out _ (H.out.below (bel_alloc HB.out _))).mono ?_;rintro e wr42 ⟨y1,y2,y3,y4,y5,y6,y7,y8,y9,y10,rfl,hb42⟩;have K41:=qq ((K41.out.alloc _).below hb42);have K42:=qq ((Blk.fresh _ _ _ (wr41.heap.size) (by simp)).below hb42);have HB:=qq (below_then (bel_alloc HB.out _) hb42);have z42:=HB.out.size;clear hb42;have o43K41:=K41.out.lt;have o43K42:=K42.out.lt
        obtain⟨xl,gl,gal,q3,⟨e0,e1,e2,e3,e4,e5,e6⟩,r0,r1,r2,r3,r4,r5,r6⟩:=HQ2.out _ HB.out;obtain⟨lK41,qK41,fK41⟩:=K41.out;obtain⟨lK42,qK42,fK42⟩:=K42.out;go_wp2_with fail;clear qK41 fK41 lK41 qK42 fK42 lK42 xl gl gal q3 e0 e1 e2 e3 e4 e5 e6 r0 r1 r2 r3 r4 r5 r6;refine(HRC.out _ (HR.out.below (bel_alloc HB.out _))).mono ?_;rintro e wr43 ⟨rfl,hb43⟩;have K41:=qq ((K41.out.alloc _).below hb43)
        have K42:=qq ((K42.out.alloc _).below hb43);have HB:=qq (below_then (bel_alloc HB.out _) hb43);have z43:=HB.out.size;clear hb43;obtain⟨xl,gl,gal,q3,⟨e0,e1,e2,e3,e4,e5,e6⟩,r0,r1,r2,r3,r4,r5,r6⟩:=HQ2.out _ HB.out;obtain⟨lK41,qK41,fK41⟩:=K41.out;obtain⟨lK42,qK42,fK42⟩:=K42.out;go_wp2_with fail;clear qK41 fK41 lK41 qK42 fK42 lK42 xl gl gal q3 e0 e1 e2 e3 e4 e5 e6 r0 r1 r2 r3 r4 r5 r6
        refine reg_start (fun w'=>Blk w' _ _∧Blk w' _ _∧Below wr.heap.size wr w') (by kernel_rfl) ⟨K41.out.drew,K42.out.drew,(bel_drew HB.out)⟩ ?_;rintro wr44 hHeld;obtain⟨K41',K42',HB'⟩:=id hHeld;have K41:=qq K41';have K42:=qq K42';have HB:=qq HB';clear K41' K42' HB';have z44:=HB.out.size
        refine takeM (d:=some 128) 0 rfl rfl hHeld (fun w' hS'=>by have qA:=hS'.1.cell;clear hS';go_simp;(try rfl)) ?_;simp only[puts];refine takeM (d:=some 130) 2 rfl rfl hHeld (fun w' _=>by go_simp;(try rfl)) ?_;simp only[puts];refine takeM (d:=some 131) 3 rfl rfl hHeld (fun w' _=>by go_simp;(try rfl)) ?_;simp only[puts]
        refine takeM (d:=some 132) 4 rfl rfl hHeld (fun w' _=>by go_simp;(try rfl)) ?_;simp only[puts];refine takeM (d:=some 133) 5 rfl rfl hHeld (fun w' hS'=>by obtain⟨xl,gl,gal,q3,⟨e0,e1,e2,e3,e4,e5,e6⟩,r0,r1,r2,r3,r4,r5,r6⟩:=HQ2.out _ hS'.2.2;clear hS';go_simp;(try rfl)) ?_;simp only[puts];refine takeM (d:=some 134) 6 rfl rfl hHeld (fun w' _=>by go_simp;(try rfl)) ?_;simp only[puts]
        refine takeM (d:=some 135) 7 rfl rfl hHeld (fun w' _=>by go_simp;(try rfl)) ?_;simp only[puts];refine takeM (d:=some 136) 8 rfl rfl hHeld (fun w' hS'=>by obtain⟨xl,gl,gal,q3,⟨e0,e1,e2,e3,e4,e5,e6⟩,r0,r1,r2,r3,r4,r5,r6⟩:=HQ2.out _ hS'.2.2;clear hS';go_simp;(try rfl)) ?_;simp only[puts];refine one_M 1 (by kernel_rfl) ?_
        refine wpOp_call (d:=some 129) 1 98 _ _ [.agg #[pn,pq,pg,sp,sd,ss,sh]] rfl rfl rfl (enters_of Tryz.func98 (by kernel_rfl) rfl) (by rfl) (by rfl) ?_;refine(part15_of pn pq pg sp sd ss sh _).mono ?_;rintro e wr45 ⟨rfl,hb45⟩;clear hHeld;have K41:=qq (K41.out.below hb45);have K42:=qq (K42.out.below hb45);have HB:=qq (below_then HB.out hb45);have z45:=HB.out.size;clear hb45
        refine ret_S ⟨K41.out,K42.out,HB.out⟩ (fun hHeld=> ?_);simp only[puts];refine takeM (d:=some 137) 9 rfl rfl hHeld (fun w' _=>by go_simp;(try rfl)) ?_;simp only[puts];refine takeM (d:=some 138) 10 rfl rfl hHeld (fun w' _=>by go_simp;(try rfl)) ?_;simp only[puts];refine takeM (d:=some 139) 11 rfl rfl hHeld (fun w' _=>by go_simp;(try rfl)) ?_;simp only[puts]
        refine takeM (d:=some 140) 12 rfl rfl hHeld (fun w' _=>by go_simp;(try rfl)) ?_;simp only[puts];refine takeM (d:=some 141) 13 rfl rfl hHeld (fun w' _=>by go_simp;(try rfl)) ?_;simp only[puts];refine takeM (d:=some 142) 14 rfl rfl hHeld (fun w' _=>by go_simp;(try rfl)) ?_;simp only[puts]
        refine takeM (d:=some 143) 15 rfl rfl hHeld (fun w' hS'=>by have qA:=hS'.2.1.cell;clear hS';go_simp;(try rfl)) ?_;simp only[puts];refine takeM (d:=some 145) 17 rfl rfl hHeld (fun w' _=>by go_simp;(try rfl)) ?_;simp only[puts];refine takeM (d:=some 146) 18 rfl rfl hHeld (fun w' _=>by go_simp;(try rfl)) ?_;simp only[puts]
        refine takeM (d:=some 147) 19 rfl rfl hHeld (fun w' _=>by go_simp;(try rfl)) ?_;simp only[puts];refine takeM (d:=some 148) 20 rfl rfl hHeld (fun w' hS'=>by obtain⟨xl,gl,gal,q3,⟨e0,e1,e2,e3,e4,e5,e6⟩,r0,r1,r2,r3,r4,r5,r6⟩:=HQ2.out _ hS'.2.2;clear hS';go_simp;(try rfl)) ?_;simp only[puts];refine takeM (d:=some 149) 21 rfl rfl hHeld (fun w' _=>by go_simp;(try rfl)) ?_;simp only[puts]
        refine takeM (d:=some 150) 22 rfl rfl hHeld (fun w' _=>by go_simp;(try rfl)) ?_;simp only[puts];refine takeM (d:=some 151) 23 rfl rfl hHeld (fun w' hS'=>by obtain⟨xl,gl,gal,q3,⟨e0,e1,e2,e3,e4,e5,e6⟩,r0,r1,r2,r3,r4,r5,r6⟩:=HQ2.out _ hS'.2.2;clear hS';go_simp;(try rfl)) ?_;simp only[puts];refine one_M 16 (by kernel_rfl) ?_
        refine wpOp_call (d:=some 144) 16 98 _ _ [.agg #[pn,pq,pg,sp,sd,ss,sh]] rfl rfl rfl (enters_of Tryz.func98 (by kernel_rfl) rfl) (by rfl) (by rfl) ?_;refine(part15_of pn pq pg sp sd ss sh _).mono ?_;rintro e wr46 ⟨rfl,hb46⟩;clear hHeld;have K41:=qq (K41.out.below hb46);have K42:=qq (K42.out.below hb46);have HB:=qq (below_then HB.out hb46);have z46:=HB.out.size;clear hb46
        refine ret_S ⟨K41.out,K42.out,HB.out⟩ (fun hHeld=> ?_);simp only[puts];refine takeM (d:=some 152) 24 rfl rfl hHeld (fun w' _=>by go_simp;(try rfl)) ?_;simp only[puts];refine takeM (d:=some 153) 25 rfl rfl hHeld (fun w' _=>by go_simp;(try rfl)) ?_;simp only[puts];refine takeM (d:=some 154) 26 rfl rfl hHeld (fun w' _=>by go_simp;(try rfl)) ?_;simp only[puts]
        refine takeM (d:=some 155) 27 rfl rfl hHeld (fun w' _=>by go_simp;(try rfl)) ?_;simp only[puts];refine takeM (d:=some 156) 28 rfl rfl hHeld (fun w' _=>by go_simp;(try rfl)) ?_;simp only[puts];refine takeM (d:=some 157) 29 rfl rfl hHeld (fun w' _=>by go_simp;(try rfl)) ?_;simp only[puts];refine takeM (d:=some 158) 30 rfl rfl hHeld (fun w' _=>by go_simp;(try rfl)) ?_;simp only[puts]
        refine takeM (d:=some 159) 31 rfl rfl hHeld (fun w' _=>by go_simp;(try rfl)) ?_;simp only[puts];refine takeM (d:=some 160) 32 rfl rfl hHeld (fun w' _=>by go_simp;(try rfl)) ?_;simp only[puts];refine takeM (d:=some 161) 33 rfl rfl hHeld (fun w' _=>by go_simp;(try rfl)) ?_;simp only[puts];refine takeM (d:=some 162) 34 rfl rfl hHeld (fun w' _=>by go_simp;(try rfl)) ?_;simp only[puts]
        refine skipM (d:=some 163) 35 rfl rfl hHeld ?_;simp only[puts];refine skipM (d:=some 164) 36 rfl rfl hHeld ?_;simp only[puts];refine skipM (d:=some 165) 37 rfl rfl hHeld ?_;simp only[puts];refine skipM (d:=some 166) 38 rfl rfl hHeld ?_;simp only[puts];refine skipM (d:=some 167) 39 rfl rfl hHeld ?_;simp only[puts];refine skipM (d:=some 168) 40 rfl rfl hHeld ?_;simp only[puts]
        refine skipM (d:=some 169) 41 rfl rfl hHeld ?_;simp only[puts];refine skipM (d:=some 170) 42 rfl rfl hHeld ?_;simp only[puts];refine skipM (d:=some 171) 43 rfl rfl hHeld ?_;simp only[puts];refine skipM (d:=some 172) 44 rfl rfl hHeld ?_;simp only[puts];refine skipM (d:=some 173) 45 rfl rfl hHeld ?_;simp only[puts]
        refine takeM (d:=some 174) 46 rfl rfl hHeld (fun w' _=>by go_simp;(try rfl)) ?_;simp only[puts];refine takeM (d:=some 175) 47 rfl rfl hHeld (fun w' _=>by go_simp;(try rfl)) ?_;simp only[puts];refine doneM (by kernel_rfl) ?_ _;clear hHeld;go_wp2_with fail
        all_goals (go_roundw<;>first | exact⟨j+1,by omega,by go_num,below_then hB HB.out⟩ | (simp[intOf];omega))
       | some ci=>
        rw[hsc] at HRC;dsimp only[oix] at HRC;obtain⟨a,ha,hma⟩:=schild_some hsc;have hv6:=(HG.out.act a hma).len;have hex:F64 a.ex:=by have:=(ctxOk_ex (HG.out.act a hma).ctx).1;unfold fdelay at this;unfold F64;simp at this;omega
        have hcl8:=(List.getElem?_eq_some_iff.1 ha).1;obtain⟨u,hu⟩:∃u,R.rv[ci]? =some u:=⟨_,List.getElem?_eq_getElem (by rw[HR.out.len];exact hcl8)⟩
        have hrg:=HR.out.regs ci u a hu ha;obtain⟨ra',rc',hre,_,hrow2⟩:=act_row HR.out.len HR.out.acts;rw[HRA.out] at hre;obtain⟨g2,rfl,hg2,_,hcl2⟩:=hrow2 (by omega);simp only[Value.slice.injEq] at hre;obtain⟨rfl,-,rfl⟩:=hre;rw[←HN.out] at hcl8;have hci1:(ci:Int)<(k:Int):=by omega
        have hci0:(0:Int)≤(ci:Int):=by omega
        have hci2:decide ((ci:Int)≥0)=true:=decide_eq_true hci0
        have hQ3:=fun W (hW:Below wr.heap.size wr W)=>(show(R.sb<W.heap.size∧g<W.heap.size∧gp<W.heap.size∧W.cell? ⟨R.sb,3,none⟩=some (.slice (some ⟨g,0,none⟩) m' cap)∧PartC W gp (j*7) p∧PartC W g (j*7) p)∧g2<W.heap.size∧W.cell? ⟨R.sb,2,none⟩=some (.slice (some ⟨g2,0,none⟩) k rc)∧ActC W g2 (ci*8) a u from⟨hQ2 W hW,Nat.lt_of_lt_of_le hg2 hW.size,(HQ.out W (BW.trans (hW.mono BW.size))).2.2.2.1,(hcl2 ci a u ha hu).below hW hg2⟩)
        clear hQ2;have HCH:=qq (fun W hW=>Child_is L S (j:Int) W hW HG.out hpr ci a hsc ha);obtain⟨va,vc,rfl,_,_⟩:=reg_row hrg;obtain⟨an,aq,oc,dp,ex,pa,de,rs⟩:=a;have HAC:=qq (fun ca cc B W (h:World.ownsRow W B 55 6 (.slice ca rs.length cc) rs.length (regsL rs))=>act15_of an aq oc dp ex pa de ca cc rs B W h (by dsimp only at hv6;omega))
        have HSA:=qq (fun a1 a2 c1 c2 B1 B2 T1 T2 W (h1:World.ownsRow W B1 T1 6 (.slice a1 rs.length c1) rs.length (regsL rs)) (h2:World.ownsRow W B2 T2 6 (.slice a2 rs.length c2) rs.length (regsL rs))=>rsameAct_self an aq oc dp ex pa de a1 a2 c1 c2 rs B1 B2 T1 T2 W h1 h2 hex (by dsimp only at hv6;omega));unfold ActOut at HCH;unfold ActC at hQ3;dsimp only[actC] at HCH hQ3 hrg;have HRG:=qq hrg
        obtain⟨vn,hvn⟩:∃n,n=rs.length:=⟨_,rfl⟩
        simp only[←hvn] at HAC HSA HRG HCH hQ3;obtain⟨pn,pq,pg,⟨sp,sd,ss,sh⟩⟩:=p;unfold PartC at hQ3;dsimp only[partA] at HPY hQ3;have HQ2:=qq hQ3;clear hp hpg hpr hsc hrow hgp hcl c3 hsb hg hpc hQ3 ha hma hv6 hex hu hrg hrow2 hg2 hcl2 hvn hcl8;have hne:=partNe pn pq pg sp sd ss sh
        obtain⟨⟨xl,gl,gal,q3,⟨e0,e1,e2,e3,e4,e5,e6⟩,r0,r1,r2,r3,r4,r5,r6⟩,g2l,q2,u0,u1,u2,u3,u4,u5,u6,u7⟩:=HQ2.out _ (Below.refl _ _);go_wp2_with fail;clear xl gl gal q3 e0 e1 e2 e3 e4 e5 e6 r0 r1 r2 r3 r4 r5 r6 g2l q2 u0 u1 u2 u3 u4 u5 u6 u7;refine(HPY.out _ (H.out.below (bel_alloc (Below.refl wr.heap.size wr) _))).mono ?_;rintro e wr41 ⟨rfl,hb41⟩;have HRG:=qq (row_be (row_al HRG.out _) hb41)
        have K41:=qq ((Blk.fresh _ _ _ (wr.heap.size) (by simp)).below hb41);have HB:=qq (below_then (bel_alloc (Below.refl wr.heap.size wr) _) hb41);have z41:=HB.out.size;clear hb41;have o42K41:=K41.out.lt;obtain⟨⟨xl,gl,gal,q3,⟨e0,e1,e2,e3,e4,e5,e6⟩,r0,r1,r2,r3,r4,r5,r6⟩,g2l,q2,u0,u1,u2,u3,u4,u5,u6,u7⟩:=HQ2.out _ HB.out;obtain⟨lK41,qK41,fK41⟩:=K41.out;go_wp2_with fail
        clear qK41 fK41 lK41 xl gl gal q3 e0 e1 e2 e3 e4 e5 e6 r0 r1 r2 r3 r4 r5 r6 g2l q2 u0 u1 u2 u3 u4 u5 u6 u7;refine(HCH.out _ (H.out.below (bel_alloc HB.out _))).mono ?_;rintro e wr42 ⟨v',rfl,ho,hb42⟩;obtain⟨fa,fc,rfl,_,_⟩:=reg_row ho;have HRG:=qq (row_be (row_al HRG.out _) hb42);have K41:=qq ((K41.out.alloc _).below hb42)
        have K42:=qq ((Blk.fresh _ _ _ (wr41.heap.size) (by simp)).below hb42);have HB:=qq (below_then (bel_alloc HB.out _) hb42);have z42:=HB.out.size;clear hb42;have HO:=qq (ho)
        (try clear ho)
        have o43K41:=K41.out.lt;have o43K42:=K42.out.lt;obtain⟨⟨xl,gl,gal,q3,⟨e0,e1,e2,e3,e4,e5,e6⟩,r0,r1,r2,r3,r4,r5,r6⟩,g2l,q2,u0,u1,u2,u3,u4,u5,u6,u7⟩:=HQ2.out _ HB.out;obtain⟨lK41,qK41,fK41⟩:=K41.out;obtain⟨lK42,qK42,fK42⟩:=K42.out;go_wp2_with fail;clear qK41 fK41 lK41 qK42 fK42 lK42 xl gl gal q3 e0 e1 e2 e3 e4 e5 e6 r0 r1 r2 r3 r4 r5 r6 g2l q2 u0 u1 u2 u3 u4 u5 u6 u7
        refine(HRC.out _ (HR.out.below (bel_alloc HB.out _))).mono ?_;rintro e wr43 ⟨rfl,hb43⟩;have HRG:=qq (row_be (row_al HRG.out _) hb43);have K41:=qq ((K41.out.alloc _).below hb43);have K42:=qq ((K42.out.alloc _).below hb43);have HO:=qq (row_be (row_al HO.out _) hb43);have K43:=qq ((Blk.fresh _ _ _ (wr42.heap.size) (by simp)).below hb43);have HB:=qq (below_then (bel_alloc HB.out _) hb43)
        have z43:=HB.out.size;clear hb43;obtain⟨⟨xl,gl,gal,q3,⟨e0,e1,e2,e3,e4,e5,e6⟩,r0,r1,r2,r3,r4,r5,r6⟩,g2l,q2,u0,u1,u2,u3,u4,u5,u6,u7⟩:=HQ2.out _ HB.out;obtain⟨lK41,qK41,fK41⟩:=K41.out;obtain⟨lK42,qK42,fK42⟩:=K42.out;obtain⟨lK43,qK43,fK43⟩:=K43.out;go_wp2_with fail
        clear qK41 fK41 lK41 qK42 fK42 lK42 qK43 fK43 lK43 xl gl gal q3 e0 e1 e2 e3 e4 e5 e6 r0 r1 r2 r3 r4 r5 r6 g2l q2 u0 u1 u2 u3 u4 u5 u6 u7;refine reg_start (fun w'=>World.ownsRow w' _ _ _ _ _ _∧Blk w' _ _∧Blk w' _ _∧World.ownsRow w' _ _ _ _ _ _∧Blk w' _ _∧Below wr.heap.size wr w') (by kernel_rfl) ⟨(row_dr HRG.out),K41.out.drew,K42.out.drew,(row_dr HO.out),K43.out.drew,(bel_drew HB.out)⟩ ?_
        rintro wr44 hHeld;obtain⟨HRG',K41',K42',HO',K43',HB'⟩:=id hHeld;have HRG:=qq HRG';have K41:=qq K41';have K42:=qq K42';have HO:=qq HO';have K43:=qq K43';have HB:=qq HB';clear HRG' K41' K42' HO' K43' HB';have z44:=HB.out.size;refine takeM (d:=some 128) 0 rfl rfl hHeld (fun w' hS'=>by have qA:=hS'.2.1.cell;clear hS';go_simp;(try rfl)) ?_;simp only[puts]
        refine takeM (d:=some 130) 2 rfl rfl hHeld (fun w' _=>by go_simp;(try rfl)) ?_;simp only[puts];refine takeM (d:=some 131) 3 rfl rfl hHeld (fun w' _=>by go_simp;(try rfl)) ?_;simp only[puts];refine takeM (d:=some 132) 4 rfl rfl hHeld (fun w' _=>by go_simp;(try rfl)) ?_;simp only[puts]
        refine takeM (d:=some 133) 5 rfl rfl hHeld (fun w' hS'=>by obtain⟨⟨xl,gl,gal,q3,⟨e0,e1,e2,e3,e4,e5,e6⟩,r0,r1,r2,r3,r4,r5,r6⟩,g2l,q2,u0,u1,u2,u3,u4,u5,u6,u7⟩:=HQ2.out _ hS'.2.2.2.2.2;clear hS';go_simp;(try rfl)) ?_;simp only[puts];refine takeM (d:=some 134) 6 rfl rfl hHeld (fun w' _=>by go_simp;(try rfl)) ?_;simp only[puts]
        refine takeM (d:=some 135) 7 rfl rfl hHeld (fun w' _=>by go_simp;(try rfl)) ?_;simp only[puts];refine takeM (d:=some 136) 8 rfl rfl hHeld (fun w' hS'=>by obtain⟨⟨xl,gl,gal,q3,⟨e0,e1,e2,e3,e4,e5,e6⟩,r0,r1,r2,r3,r4,r5,r6⟩,g2l,q2,u0,u1,u2,u3,u4,u5,u6,u7⟩:=HQ2.out _ hS'.2.2.2.2.2;clear hS';go_simp;(try rfl)) ?_;simp only[puts];refine one_M 1 (by kernel_rfl) ?_
        refine wpOp_call (d:=some 129) 1 98 _ _ [.agg #[pn,pq,pg,sp,sd,ss,sh]] rfl rfl rfl (enters_of Tryz.func98 (by kernel_rfl) rfl) (by rfl) (by rfl) ?_;refine(part15_of pn pq pg sp sd ss sh _).mono ?_;rintro e wr45 ⟨rfl,hb45⟩;clear hHeld;have HRG:=qq (row_be HRG.out hb45);have K41:=qq (K41.out.below hb45);have K42:=qq (K42.out.below hb45);have HO:=qq (row_be HO.out hb45)
        have K43:=qq (K43.out.below hb45);have HB:=qq (below_then HB.out hb45);have z45:=HB.out.size;clear hb45;refine ret_S ⟨HRG.out,K41.out,K42.out,HO.out,K43.out,HB.out⟩ (fun hHeld=> ?_);simp only[puts];refine takeM (d:=some 137) 9 rfl rfl hHeld (fun w' _=>by go_simp;(try rfl)) ?_;simp only[puts];refine takeM (d:=some 138) 10 rfl rfl hHeld (fun w' _=>by go_simp;(try rfl)) ?_;simp only[puts]
        refine takeM (d:=some 139) 11 rfl rfl hHeld (fun w' _=>by go_simp;(try rfl)) ?_;simp only[puts];refine takeM (d:=some 140) 12 rfl rfl hHeld (fun w' _=>by go_simp;(try rfl)) ?_;simp only[puts];refine takeM (d:=some 141) 13 rfl rfl hHeld (fun w' _=>by go_simp;(try rfl)) ?_;simp only[puts];refine takeM (d:=some 142) 14 rfl rfl hHeld (fun w' _=>by go_simp;(try rfl)) ?_;simp only[puts]
        refine takeM (d:=some 143) 15 rfl rfl hHeld (fun w' hS'=>by have qA:=hS'.2.2.1.cell;clear hS';go_simp;(try rfl)) ?_;simp only[puts];refine takeM (d:=some 145) 17 rfl rfl hHeld (fun w' _=>by go_simp;(try rfl)) ?_;simp only[puts];refine takeM (d:=some 146) 18 rfl rfl hHeld (fun w' _=>by go_simp;(try rfl)) ?_;simp only[puts]
        refine takeM (d:=some 147) 19 rfl rfl hHeld (fun w' _=>by go_simp;(try rfl)) ?_;simp only[puts];refine takeM (d:=some 148) 20 rfl rfl hHeld (fun w' hS'=>by obtain⟨⟨xl,gl,gal,q3,⟨e0,e1,e2,e3,e4,e5,e6⟩,r0,r1,r2,r3,r4,r5,r6⟩,g2l,q2,u0,u1,u2,u3,u4,u5,u6,u7⟩:=HQ2.out _ hS'.2.2.2.2.2;clear hS';go_simp;(try rfl)) ?_;simp only[puts]
        refine takeM (d:=some 149) 21 rfl rfl hHeld (fun w' _=>by go_simp;(try rfl)) ?_;simp only[puts];refine takeM (d:=some 150) 22 rfl rfl hHeld (fun w' _=>by go_simp;(try rfl)) ?_;simp only[puts]
        refine takeM (d:=some 151) 23 rfl rfl hHeld (fun w' hS'=>by obtain⟨⟨xl,gl,gal,q3,⟨e0,e1,e2,e3,e4,e5,e6⟩,r0,r1,r2,r3,r4,r5,r6⟩,g2l,q2,u0,u1,u2,u3,u4,u5,u6,u7⟩:=HQ2.out _ hS'.2.2.2.2.2;clear hS';go_simp;(try rfl)) ?_;simp only[puts];refine one_M 16 (by kernel_rfl) ?_
        refine wpOp_call (d:=some 144) 16 98 _ _ [.agg #[pn,pq,pg,sp,sd,ss,sh]] rfl rfl rfl (enters_of Tryz.func98 (by kernel_rfl) rfl) (by rfl) (by rfl) ?_;refine(part15_of pn pq pg sp sd ss sh _).mono ?_;rintro e wr46 ⟨rfl,hb46⟩;clear hHeld;have HRG:=qq (row_be HRG.out hb46);have K41:=qq (K41.out.below hb46);have K42:=qq (K42.out.below hb46);have HO:=qq (row_be HO.out hb46)
        have K43:=qq (K43.out.below hb46);have HB:=qq (below_then HB.out hb46);have z46:=HB.out.size;clear hb46;refine ret_S ⟨HRG.out,K41.out,K42.out,HO.out,K43.out,HB.out⟩ (fun hHeld=> ?_);simp only[puts];refine takeM (d:=some 152) 24 rfl rfl hHeld (fun w' _=>by go_simp;(try rfl)) ?_;simp only[puts];refine takeM (d:=some 153) 25 rfl rfl hHeld (fun w' _=>by go_simp;(try rfl)) ?_;simp only[puts]
        refine takeM (d:=some 154) 26 rfl rfl hHeld (fun w' _=>by go_simp;(try rfl)) ?_;simp only[puts];refine takeM (d:=some 155) 27 rfl rfl hHeld (fun w' _=>by go_simp;(try rfl)) ?_;simp only[puts];refine takeM (d:=some 156) 28 rfl rfl hHeld (fun w' _=>by go_simp;(try rfl)) ?_;simp only[puts];refine takeM (d:=some 157) 29 rfl rfl hHeld (fun w' _=>by go_simp;(try rfl)) ?_;simp only[puts]
        refine takeM (d:=some 158) 30 rfl rfl hHeld (fun w' _=>by go_simp;(try rfl)) ?_;simp only[puts];refine takeM (d:=some 159) 31 rfl rfl hHeld (fun w' _=>by go_simp;(try rfl)) ?_;simp only[puts];refine takeM (d:=some 160) 32 rfl rfl hHeld (fun w' _=>by go_simp;(try rfl)) ?_;simp only[puts];refine takeM (d:=some 161) 33 rfl rfl hHeld (fun w' _=>by go_simp;(try rfl)) ?_;simp only[puts]
        refine takeM (d:=some 162) 34 rfl rfl hHeld (fun w' _=>by go_simp;(try rfl)) ?_;simp only[puts];refine takeM (d:=some 163) 35 rfl rfl hHeld (fun w' hS'=>by have qA:=hS'.2.2.2.2.1.cell;clear hS';go_simp;(try rfl)) ?_;simp only[puts];refine takeM (d:=some 165) 37 rfl rfl hHeld (fun w' _=>by go_simp;(try rfl)) ?_;simp only[puts]
        refine takeM (d:=some 166) 38 rfl rfl hHeld (fun w' _=>by go_simp;(try rfl)) ?_;simp only[puts];refine takeM (d:=some 167) 39 rfl rfl hHeld (fun w' _=>by go_simp;(try rfl)) ?_;simp only[puts]
        refine takeM (d:=some 168) 40 rfl rfl hHeld (fun w' hS'=>by obtain⟨⟨xl,gl,gal,q3,⟨e0,e1,e2,e3,e4,e5,e6⟩,r0,r1,r2,r3,r4,r5,r6⟩,g2l,q2,u0,u1,u2,u3,u4,u5,u6,u7⟩:=HQ2.out _ hS'.2.2.2.2.2;clear hS';go_simp;(try rfl)) ?_;simp only[puts];refine takeM (d:=some 169) 41 rfl rfl hHeld (fun w' _=>by go_simp;(try rfl)) ?_;simp only[puts]
        refine takeM (d:=some 170) 42 rfl rfl hHeld (fun w' _=>by go_simp;(try rfl)) ?_;simp only[puts];refine takeM (d:=some 171) 43 rfl rfl hHeld (fun w' hS'=>by obtain⟨⟨xl,gl,gal,q3,⟨e0,e1,e2,e3,e4,e5,e6⟩,r0,r1,r2,r3,r4,r5,r6⟩,g2l,q2,u0,u1,u2,u3,u4,u5,u6,u7⟩:=HQ2.out _ hS'.2.2.2.2.2;clear hS';go_simp;(try rfl)) ?_;simp only[puts];refine one_M 36 (by kernel_rfl) ?_
        refine wpOp_call (d:=some 164) 36 97 _ _ [.agg #[an,aq,oc,dp,.float .f64 ex,pa,de,.slice fa vn fc]] rfl rfl rfl (enters_of Tryz.func97 (by kernel_rfl) rfl) (by rfl) (by rfl) ?_;refine(HAC.out _ _ _ _ HO.out).mono ?_;rintro e wr47 ⟨b1,d1,rfl,hrow1,hb47⟩;clear hHeld;have HRG:=qq (row_be HRG.out hb47);have K41:=qq (K41.out.below hb47);have K42:=qq (K42.out.below hb47)
        have HO:=qq (row_be HO.out hb47);have K43:=qq (K43.out.below hb47);have HB:=qq (below_then HB.out hb47);have z47:=HB.out.size;clear hb47;have HD1:=qq (hrow1)
        (try clear hrow1)
        refine ret_S ⟨HRG.out,K41.out,K42.out,HO.out,K43.out,HB.out⟩ (fun hHeld=> ?_);simp only[puts];refine one_M 44 (by kernel_rfl) ?_;refine wpOp_call (d:=some 172) 44 96 _ _ [.agg #[an,aq,oc,dp,.float .f64 ex,pa,de,.slice b1 vn d1],.agg #[an,aq,oc,dp,.float .f64 ex,pa,de,.slice va vn vc]] rfl rfl rfl (enters_of Tryz.func96 (by kernel_rfl) rfl) (by rfl) (by rfl) ?_
        refine(HSA.out _ _ _ _ _ _ _ _ _ HD1.out HRG.out).mono ?_;rintro e wr48 ⟨rfl,hb48⟩;clear hHeld;have HRG:=qq (row_be HRG.out hb48);have K41:=qq (K41.out.below hb48);have K42:=qq (K42.out.below hb48);have HO:=qq (row_be HO.out hb48);have K43:=qq (K43.out.below hb48);have HD1:=qq (row_be HD1.out hb48);have HB:=qq (below_then HB.out hb48);have z48:=HB.out.size;clear hb48
        refine ret_S ⟨HRG.out,K41.out,K42.out,HO.out,K43.out,HB.out⟩ (fun hHeld=> ?_);simp only[puts];refine takeM (d:=some 173) 45 rfl rfl hHeld (fun w' _=>by go_simp;(try rfl)) ?_;simp only[puts];refine takeM (d:=some 174) 46 rfl rfl hHeld (fun w' _=>by go_simp;(try rfl)) ?_;simp only[puts];refine takeM (d:=some 175) 47 rfl rfl hHeld (fun w' _=>by go_simp;(try rfl)) ?_;simp only[puts]
        refine doneM (by kernel_rfl) ?_ _;clear hHeld;go_wp2_with fail
        all_goals (go_roundw<;>first | exact⟨j+1,by omega,by go_num,below_then hB HB.out⟩ | (simp[intOf];omega))
     · obtain rfl:j=m:=by omega
       have HPN:=qq (fun W hW=>part_no L S (j:Int) W hW (by
         unfold pGet;rw[if_pos (by omega),Int.toNat_natCast];exact List.getElem?_eq_none_iff.2 (by rw[←HM.out];exact Nat.le_refl _)))
       have HCO:=qq (fun W hW=>Child_out L S (-1) W hW HG.out (by omega));unfold ChildOut at HCO;simp only[partA,part0] at HPN;go_wp2_with fail;refine(HPN.out _ (H.out.below (Below.refl wr.heap.size wr))).mono ?_;rintro e wr61 ⟨rfl,hb61⟩;have HB:=qq (below_then (Below.refl wr.heap.size wr) hb61);have z61:=HB.out.size;clear hb61;go_wp2_with fail
       refine(HCO.out _ (H.out.below (bel_alloc HB.out _))).mono ?_;rintro e wr62 ⟨y1,y2,y3,y4,y5,y6,y7,y8,y9,y10,rfl,hb62⟩;have HB:=qq (below_then (bel_alloc HB.out _) hb62);have z62:=HB.out.size;clear hb62;go_wp2_with fail;refine bodyPost_ret (v:=.bool true) (by simp[results,Tryz.results23,go_sem]) rfl ?_;exact⟨rfl,below_then BW (bel_alloc HB.out _)⟩
def turnOk (x:MSeat) (s h:Int):Bool:=decide (x.s≠14) && mRight ⟨x.p,x.d,s,h⟩
theorem turnOk_some {x t:MSeat} {s h:Int} (ht:sturn x s h=some t):turnOk x s h=true∧t=⟨x.p,x.d,s,h⟩:=by
 obtain⟨h1,h2,h3⟩:=sturn_some ht;refine⟨?_,h2⟩;unfold turnOk;rw[←h2,h3];simp[h1]
theorem turnOk_none {x:MSeat} {s h:Int} (ht:sturn x s h=none):turnOk x s h=false:=by
 unfold sturn at ht;unfold turnOk;split at ht
 · rename_i hn
   rcases hn with hn | hn
   · simp[hn]
   · simp[hn]
 · cases ht
theorem rturned_of (x:MSeat) (f:SFact) (w:World):Calls Tryz.prog 92 #[.agg #[x.p,x.d,x.s,x.h],factV f] w (Makes (.tuple #[.agg #[x.p,x.d,f.st,f.hw],.bool (turnOk x f.st f.hw)]) w):=by
 have hR:=fun W=>gright_of ⟨x.p,x.d,f.st,f.hw⟩ W
 unfold turnOk;generalize mRight ⟨x.p,x.d,f.st,f.hw⟩=mr at*;dsimp only[seatV] at hR;obtain⟨k,an,aq,rg,nd,pt,pr,oc,dp,pa,st,hw,de,ex⟩:=f;obtain⟨p,d,s,hh⟩:=x;dsimp only[factV,factC] at*;have HR:=qq hR;clear hR
 have K0:=qq ((((Blk.fresh w #[p,d,s,hh] 164 _ rfl).alloc (.cells #[k,an,aq,rg,nd,pt,pr,oc,dp,pa,st,hw,de,.float .f64 ex] 42)).alloc (.cells #[.int .i64 0,.int .i64 0,.int .i64 0,.int .i64 0] 164)).alloc (.cells #[p,d,st,hw] 164))
 have K3:=qq (Blk.fresh (((w.alloc (.cells #[p,d,s,hh] 164)).alloc (.cells #[k,an,aq,rg,nd,pt,pr,oc,dp,pa,st,hw,de,.float .f64 ex] 42)).alloc (.cells #[.int .i64 0,.int .i64 0,.int .i64 0,.int .i64 0] 164)) #[.int .i64 p,.int .i64 d,.int .i64 st,.int .i64 hw] 164 (w.heap.size+1+1+1) (by simp))
 have K2:=qq ((Blk.fresh ((w.alloc (.cells #[p,d,s,hh] 164)).alloc (.cells #[k,an,aq,rg,nd,pt,pr,oc,dp,pa,st,hw,de,.float .f64 ex] 42)) #[.int .i64 0,.int .i64 0,.int .i64 0,.int .i64 0] 164 (w.heap.size+1+1) (by simp)).alloc (.cells #[p,d,st,hw] 164));by_cases h14:s=14
 · subst h14;go_enter Tryz.func92,Tryz.ntmps92;go_wp2_with fail;go_region
   all_goals go_wp2_with fail
   all_goals exact bodyPost_ret (v:=.tuple #[.agg #[p,d,st,hw],.bool false]) (by simp[results,Tryz.results92,go_sem]) rfl ⟨rfl,by go_grown⟩
 · have t14:(s !=14)=true:=by simpa using h14
   rw[show decide (s≠14)=true by simpa using h14,Bool.true_and];clear h14;go_enter Tryz.func92,Tryz.ntmps92;go_wp2_with fail
   go_region_with (go_at_call 201;refine(HR.out _).mono ?_;rintro e w1 ⟨rfl,hb1⟩;have B1:Below w.heap.size w w1:=below_then (by go_grown) hb1;have hz1:=hb1.size;simp only[World.size_alloc,World.size_drew] at hz1;have L2:=qq ((K2.out.below (by go_grown)).below hb1);have L3:=qq ((K3.out.below (by go_grown)).below hb1);have L0:=qq ((K0.out.below (by go_grown)).below hb1);obtain⟨q2,f2⟩:=L2.out.out;obtain⟨q3,f3⟩:=L3.out.out;obtain⟨q0,f0⟩:=L0.out.out)
   all_goals go_wp2_with fail
   all_goals (refine bodyPost_ret (v:=.tuple #[.agg #[p,d,st,hw],.bool mr]) (by simp[results,Tryz.results92,go_sem,q2,f2]) rfl ⟨rfl,?_⟩)
   all_goals exact(((B1.setCell (p:=⟨w.heap.size+1+1,0,none⟩) (by simp;omega) _).setCell (p:=⟨w.heap.size+1+1,1,none⟩) (by simp;omega) _).setCell (p:=⟨w.heap.size+1+1,2,none⟩) (by simp;omega) _).setCell (p:=⟨w.heap.size+1+1,3,none⟩) (by simp;omega) _
theorem zip_set {α β:Type}:∀(l:List α) (r:List β) (i:Nat) (a:α) (b:β),(l.set i a).zip (r.set i b)=(l.zip r).set i (a,b)
 | [],r,i,a,b=>by simp
 | x::t,[],i,a,b=>by simp
 | x::t,y::u,0,a,b=>rfl
 | x::t,y::u,i+1,a,b=>by simp only[List.set_cons_succ,List.zip_cons_cons];rw[zip_set t u i a b]
theorem zip_len {l:List SAct} {r:List Value} (h:r.length=l.length):(l.zip r).length=l.length:=by rw[List.length_zip,h,Nat.min_self]
theorem act_set {w : World} {B : Nat} {T : TypeId} {g cap n : Nat} {al : List SAct} {rv : List Value} (hl : rv.length = al.length) (h : w.ownsRow B T 8 (.slice (some ⟨g, 0, none⟩) n cap) n (actsL al rv)) (i c : Nat) (hc : c < 8) (a a' : SAct) (v v' : Value) (ha : al[i]? = some a) (hv : rv[i]? = some v) (x : Value) (hx : actL a' v' = (actL a v).set c x) :
    (w.setCell ⟨g,i*8+c,none⟩ x).ownsRow B T 8 (.slice (some ⟨g,0,none⟩) n cap) n (actsL (al.set i a') (rv.set i v')):=by
 have hi:=(List.getElem?_eq_some_iff.1 ha).1;have hn:al.length=n:=by have:=h.1;unfold actsL at this;rw[flat_length _ 8 actL_len,zip_len hl] at this;omega
 have h2:=row_set h (i*8+c) x (by omega);unfold actsL at h2⊢;rw[zip_set,←flat_set (fun x:SAct×Value=>actL x.1 x.2) 8 actL_len (al.zip rv) i c (by rw[zip_len hl];exact hi) hc x (a',v') (by
   have h3:=(List.getElem?_eq_some_iff.1 ha).2;have h4:=(List.getElem?_eq_some_iff.1 hv).2;simp only[List.getElem_zip,h3,h4];exact hx)]
 exact h2
theorem RStoreAt.parts_in {R:RLoc} {S:Sto} {w w':World} (h:RStoreAt R S w) (ps:List SPart) (hz:w.heap.size≤w'.heap.size) (he:∀k,R.pv.ownBlock≠some k→k<w.heap.size→w'.heap[k]? =w.heap[k]?) (hrow:w'.ownsRow 0 166 7 R.pv ps.length (partsL ps)):RStoreAt R {S with parts:=ps} w':=by
 have hn:=h.ne_top;exact⟨h.blk.same hz (he _ hn.2.1 h.blk.lt),row_heap h.acts (fun k hk=>he k (hn.2.2 k hk) (h.acts.lt k hk).2),hrow,h.len,fun i v a hv ha=>row_heap (h.regs i v a hv ha) (fun k hk=>he k (h.ne_regs hv k hk).2.2 ((h.regs i v a hv ha).lt k hk).2),h.once⟩
theorem RStoreAt.parts_to {R:RLoc} {S:Sto} {w w':World} (h:RStoreAt R S w) (pv':Value) (ps:List SPart) (hz:w.heap.size≤w'.heap.size) (he:∀k,R.pv.ownBlock≠some k→k≠R.sb→k<w.heap.size→w'.heap[k]? =w.heap[k]?) (hblk:Blk w' R.sb #[S.node,S.next,R.av,pv']) (hrow:w'.ownsRow 0 166 7 pv' ps.length (partsL ps)) (hm:Moved R.foot R.pv pv'):RStoreAt ⟨R.sb,R.av,pv',R.rv⟩ {S with parts:=ps} w':=by
 have hn:=h.ne_top;refine⟨hblk,row_heap h.acts (fun k hk=>he k (hn.2.2 k hk) (fun e=>hn.1 (by rw[hk,e])) (h.acts.lt k hk).2),hrow,h.len,fun i v a hv ha=>row_heap (h.regs i v a hv ha) (fun k hk=>he k (h.ne_regs hv k hk).2.2 (h.ne_regs hv k hk).1 ((h.regs i v a hv ha).lt k hk).2),?_⟩;obtain⟨h1,h2,h3,h4,h5,h6⟩:=rfoot_nodup.1 h.once;rw[rfoot_nodup];rcases hm with e | ⟨m,e,hF⟩
 · exact⟨h1,by rw[e];exact h2,h3,h4,fun k hk=>⟨by rw[e];exact(h5 k hk).1,(h5 k hk).2⟩,fun k hk=>h6 k (by rw[←e];exact hk)⟩
 · rw[RLoc.mem] at hF;refine⟨h1,?_,h3,h4,fun k hk=>⟨?_,(h5 k hk).2⟩,fun k hk=> ?_⟩
   · rw[e];intro e';injection e' with e';exact hF (.inl e')
   · rw[e];intro e';injection e' with e';subst e';exact hF (.inr (.inl hk))
   · rw[e] at hk;injection hk with hk;subst hk;exact fun hb=>hF (.inr (.inr (.inr hb)))
theorem rmem_pv {R:RLoc} {v':Value} {n:Nat} (hm:v'.ownBlock=R.pv.ownBlock∨∃m,v'.ownBlock=some m∧n≤m):∀k∈(RLoc.mk R.sb R.av v' R.rv).foot,k∈R.foot∨n≤k:=by
 intro k hk;rw[RLoc.mem] at hk⊢;rcases hk with h | h | h | h
 · exact .inl (.inl h)
 · exact .inl (.inr (.inl h))
 · rcases hm with e | ⟨m,e,hl⟩
   · exact .inl (.inr (.inr (.inl (e.symm.trans h))))
   · rw[e] at h;injection h with h;subst h;exact .inr hl
 · exact .inl (.inr (.inr (.inr h)))
theorem rjoin_goes {R : RLoc} {S : Sto} {w W w2 : World} {v2 : Value} {p : SPart} (h : RStoreAt R S W) (hb : Below w.heap.size w W) (hg : W.grownBy w2 R.pv.ownBlock) (ho : w2.ownsRow 0 166 7 v2 (S.parts.length + 1) (partsL S.parts ++ partL p)) (hat : v2.ownBlock = R.pv.ownBlock ∨ v2.ownBlock = some W.heap.size) :
    RGoes R {S with parts:=S.parts ++ [p]} w (w2.setCell ⟨R.sb,3,none⟩ v2):=by
 have hn:=h.ne_top;have hm:Moved R.foot R.pv v2:=hat.imp id (fun e=>⟨_,e,fun hk=>by have:=h.lt _ hk;omega⟩);have hv2:v2.ownBlock≠some R.sb:=by
  rcases hat with e | e
  · rw[e];exact hn.2.1
  · rw[e];intro e';injection e' with e';have:=h.blk.lt;omega
 have hblk:Blk w2 R.sb #[S.node,S.next,R.av,R.pv]:=h.blk.same hg.size (hg.block _ h.blk.lt (fun e=>hn.2.1 e.symm));refine⟨⟨R.sb,R.av,v2,R.rv⟩,rfl,h.parts_to v2 _ (by simpa using hg.size) (fun k hk hs hlt=> ?_) ?_ ?_ hm,?_⟩
 · rw[Below.heap_setCell _ _ _ _ hs];exact hg.block k hlt (fun e=>hk e.symm)
 · exact hblk.set' 3 (by simp) v2
 · rw[List.length_append];refine row_heap ?_ (fun k hk=>Below.heap_setCell _ _ _ _ (fun e=>hv2 (by rw[hk,e])));unfold partsL at ho⊢;rw[List.flatMap_append];simpa using ho
 · refine((Goes.of_below hb).trans ((Goes.grown hg (fun k hk=>RLoc.mem.2 (.inr (.inr (.inl hk))))).trans (Goes.setCell R.sb 3 v2 (RLoc.mem.2 (.inl rfl))))).change (fun k hk=> ?_);rcases rmem_pv (n:=W.heap.size) (hat.imp id (fun e=>⟨_,e,Nat.le_refl _⟩)) k hk with h1 | h1
   · exact .inl h1
   · exact .inr (Nat.le_trans hb.size h1)
theorem rseat_part_goes {R:RLoc} {S:Sto} {w w2:World} {g cap i:Nat} {p:SPart} (h:RStoreAt R S w) (hb:Below w.heap.size w w2) (hv:R.pv=.slice (some ⟨g,0,none⟩) S.parts.length cap) (hp:S.parts[i]? =some p) (t:MSeat):RGoes R {S with parts:=S.parts.set i {p with seat:=t}} w (putSeat4 w2 g (i*7+3) t):=by
 have h2:=h.below hb;have hrow:=h2.parts;rw[hv] at hrow;have hown:R.pv.ownBlock=some g:=by rw[hv];rfl
 refine⟨R,rfl,h2.parts_in _ (by rw[size_seat];exact Nat.le_refl _) (fun k hk _=>heap_seat _ _ _ _ _ (fun e=>hk (by rw[hown,e]))) ?_,(Goes.of_below hb).trans (Goes.seat g _ t (RLoc.mem.2 (.inr (.inr (.inl hown)))))⟩;rw[hv,List.length_set];exact part_seat hrow i p hp t
theorem rrg_part_goes {R:RLoc} {S:Sto} {w w2:World} {g cap i:Nat} {p:SPart} (h:RStoreAt R S w) (hb:Below w.heap.size w w2) (hv:R.pv=.slice (some ⟨g,0,none⟩) S.parts.length cap) (hp:S.parts[i]? =some p) (r:Int):RGoes R {S with parts:=S.parts.set i {p with rg:=r}} w (w2.setCell ⟨g,i*7+2,none⟩ (.int .i64 r)):=by
 have h2:=h.below hb;have hrow:=h2.parts;rw[hv] at hrow;have hown:R.pv.ownBlock=some g:=by rw[hv];rfl
 have hi:=(List.getElem?_eq_some_iff.1 hp).1;have he:=(List.getElem?_eq_some_iff.1 hp).2;refine⟨R,rfl,h2.parts_in _ (by simp) (fun k hk _=>Below.heap_setCell _ _ _ _ (fun e=>hk (by rw[hown,e]))) ?_,(Goes.of_below hb).trans (Goes.setCell g _ _ (RLoc.mem.2 (.inr (.inr (.inl hown)))))⟩;rw[hv,List.length_set];have hr:=row_set hrow (i*7+2) (.int .i64 r) (by omega)
 rw[show(partsL S.parts).set (i*7+2) (.int .i64 r)=partsL (S.parts.set i {p with rg:=r}) from flat_set partL 7 partL_len _ i 2 hi (by decide) _ _ (by rw[he];rfl)] at hr;exact hr
theorem rdec_goes {R:RLoc} {S:Sto} {w w2:World} {g cap i:Nat} {a:SAct} (h:RStoreAt R S w) (hb:Below w.heap.size w w2) (hv:R.av=.slice (some ⟨g,0,none⟩) S.acts.length cap) (ha:S.acts[i]? =some a) (d:Int):RGoes R {S with acts:=S.acts.set i {a with de:=d}} w (w2.setCell ⟨g,i*8+6,none⟩ (.int .i64 d)):=by
 have h2:=h.below hb;have hown:R.av.ownBlock=some g:=by rw[hv];rfl
 have hn:=h.ne_top;obtain⟨v,hvi⟩:∃v,R.rv[i]? =some v:=⟨_,List.getElem?_eq_getElem (by rw[h.len];exact(List.getElem?_eq_some_iff.1 ha).1)⟩
 have hset:R.rv.set i v=R.rv:=by
  obtain⟨hi,he⟩:=List.getElem?_eq_some_iff.1 hvi;rw[←he,List.set_getElem_self]
 refine⟨R,rfl,⟨h2.blk.same (by simp) (Below.heap_setCell _ _ _ _ (fun e=>hn.1 (by rw[hown,e]))),?_,row_heap h2.parts (fun k hk=>Below.heap_setCell _ _ _ _ (fun e=>hn.2.2 g hown (by rw[hk,e]))),by rw[List.length_set];exact h.len,fun j u b hu hb'=> ?_,h.once⟩,(Goes.of_below hb).trans (Goes.setCell g _ _ (RLoc.mem.2 (.inr (.inl hown))))⟩
 · have hr:=h2.acts;rw[hv] at hr⊢;have:=act_set h.len hr i 6 (by decide) a {a with de:=d} v v ha hvi (.int .i64 d) rfl;rw[hset] at this;rw[List.length_set];exact this
 · have hb2:(S.acts.set i {a with de:=d})[j]? =some b:=hb';have key:∀c,S.acts[j]? =some c→c.regs=b.regs→(w2.setCell ⟨g,i*8+6,none⟩ (.int .i64 d)).ownsRow 0 199 6 u b.regs.length (regsL b.regs):=fun c hc hcb=>by
    have:=h2.regs j u c hu hc;rw[hcb] at this;exact row_heap this (fun k hk=>Below.heap_setCell _ _ _ _ (fun e=>(h.ne_regs hu k hk).2.1 (by rw[hown,e])))
   by_cases hij:i=j
   · subst hij;rw[List.getElem?_set_self (List.getElem?_eq_some_iff.1 ha).1] at hb2;injection hb2 with hb2
     exact key a ha (by rw[←hb2])
   · rw[List.getElem?_set_ne hij] at hb2;exact key b hb2 rfl
theorem rright14_of (f:SFact) (hx:F64 f.ex) (w:World):Calls Tryz.prog 90 #[factV f] w (Makes (.bool (fok f)) w):=by
 rw[←rfok_eq f];obtain⟨k,an,aq,rg,nd,pt,pr,oc,dp,pa,st,hw,de,ex⟩:=f;have h6:decide (1≤pr∧pr≤2)=((pr==1) || (pr==2)):=by
  rw[Bool.eq_iff_iff];simp only[decide_eq_true_eq,Bool.or_eq_true,beq_iff_eq];omega
 have hd:decide (1≤de∧de≤2)=((de==1) || (de==2)):=by
  rw[Bool.eq_iff_iff];simp only[decide_eq_true_eq,Bool.or_eq_true,beq_iff_eq];omega
 by_cases h1k:k=1
 · subst h1k;exact rr14_1 an aq rg nd pt pr oc dp pa st hw de ex hx (idOk an aq) _ _ _ _ (stOk st hw) _ _ _ _ _ rfl rfl rfl rfl h6 rfl rfl rfl hd w (fun W=>rright05_of an aq W) (fun W=>rstate_of st hw W)
 by_cases h2k:k=2
 · subst h2k;exact rr14_2 an aq rg nd pt pr oc dp pa st hw de ex hx (idOk an aq) _ _ _ _ (stOk st hw) _ _ _ _ _ rfl rfl rfl rfl h6 rfl rfl rfl hd w (fun W=>rright05_of an aq W) (fun W=>rstate_of st hw W)
 by_cases h3k:k=3
 · subst h3k;exact rr14_3 an aq rg nd pt pr oc dp pa st hw de ex hx (idOk an aq) _ _ _ _ (stOk st hw) _ _ _ _ _ rfl rfl rfl rfl h6 rfl rfl rfl hd w (fun W=>rright05_of an aq W) (fun W=>rstate_of st hw W)
 by_cases h4k:k=4
 · subst h4k;exact rr14_4 an aq rg nd pt pr oc dp pa st hw de ex hx (idOk an aq) _ _ _ _ (stOk st hw) _ _ _ _ _ rfl rfl rfl rfl h6 rfl rfl rfl hd w (fun W=>rright05_of an aq W) (fun W=>rstate_of st hw W)
 by_cases h5k:k=5
 · subst h5k;exact rr14_5 an aq rg nd pt pr oc dp pa st hw de ex hx (idOk an aq) _ _ _ _ (stOk st hw) _ _ _ _ _ rfl rfl rfl rfl h6 rfl rfl rfl hd w (fun W=>rright05_of an aq W) (fun W=>rstate_of st hw W)
 by_cases h6k:k=6
 · subst h6k;exact rr14_6 an aq rg nd pt pr oc dp pa st hw de ex hx (idOk an aq) _ _ _ _ (stOk st hw) _ _ _ _ _ rfl rfl rfl rfl h6 rfl rfl rfl hd w (fun W=>rright05_of an aq W) (fun W=>rstate_of st hw W)
 by_cases h7k:k=7
 · subst h7k;exact rr14_7 an aq rg nd pt pr oc dp pa st hw de ex hx (idOk an aq) _ _ _ _ (stOk st hw) _ _ _ _ _ rfl rfl rfl rfl h6 rfl rfl rfl hd w (fun W=>rright05_of an aq W) (fun W=>rstate_of st hw W)
 by_cases h8k:k=8
 · subst h8k;exact rr14_8 an aq rg nd pt pr oc dp pa st hw de ex hx (idOk an aq) _ _ _ _ (stOk st hw) _ _ _ _ _ rfl rfl rfl rfl h6 rfl rfl rfl hd w (fun W=>rright05_of an aq W) (fun W=>rstate_of st hw W)
 have e1:fnamed k=[]:=by simp only[fnamed,h1k,h2k,h3k,h4k,h5k,h6k,h7k,h8k,if_false]
 have e2:fpk ⟨k,an,aq,rg,nd,pt,pr,oc,dp,pa,st,hw,de,ex⟩=false:=by simp only[fpk,h1k,h2k,h3k,h4k,h5k,h6k,h7k,h8k,if_false]
 have e3:(k==1)=false:=by simpa using h1k
 dsimp only;rw[e1,e2,e3];exact rr14_0 k (by omega) an aq rg nd pt pr oc dp pa st hw de ex hx (idOk an aq) _ _ _ _ (stOk st hw) _ _ _ _ _ rfl rfl rfl rfl h6 rfl rfl rfl hd w (fun W=>rright05_of an aq W) (fun W=>rstate_of st hw W)
end Go.Proofs.YtlkajejbfojkeaaGreatDoor
