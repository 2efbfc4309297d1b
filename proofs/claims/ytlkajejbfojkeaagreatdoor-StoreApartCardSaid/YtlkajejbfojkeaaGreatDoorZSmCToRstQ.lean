/- SmC, RstE, RstQ -/
import Derived.Test.YtlkajejbfojkeaaGreatDoorZStoVToSpA
import Derived.Deep.CutRange
import Derived.Test.YtlkajejbfojkeaaGreatDoorWRstD
import Derived.Deep.RegionHeld3
import Derived.Deep.RegionWith
import Derived.Test.YtlkajejbfojkeaaGreatDoorWRstOToRstW
import Derived.Test.YtlkajejbfojkeaaGreatDoorWRstN
import Derived.Test.YtlkajejbfojkeaaGreatDoorWRstM
import Derived.Test.YtlkajejbfojkeaaGreatDoorWRstJ
import Derived.Test.YtlkajejbfojkeaaGreatDoorWRstI
import Derived.Test.YtlkajejbfojkeaaGreatDoorWRstH
import Derived.Test.YtlkajejbfojkeaaGreatDoorWRstG
import Derived.Test.YtlkajejbfojkeaaGreatDoorWRstF
set_option linter.unusedSimpArgs false
set_option linter.unusedVariables false
set_option maxRecDepth 100000
set_option maxHeartbeats 16000000
namespace Go.Proofs.YtlkajejbfojkeaaGreatDoor
open Go.RowKit
attribute [local go_sem] store_float
theorem same15_of (L:SLoc) (R:RLoc) (S:Sto) (w:World) (h:StoreAt L S w) (hr:RStoreAt R S w) (hG:StoGood S):Calls Tryz.prog 23 #[.pointer (some ⟨L.sb,0,none⟩),.pointer (some ⟨R.sb,0,none⟩)] w (Makes (.bool true) w):=by
 have H:=qq h;have HR:=qq hr;have HG:=qq hG;have HAT:=qq (fun W hW=>acts_of L S W hW hG);have HPT:=qq (fun W hW=>parts_of L S W hW hG.parts);have HND:=qq (fun W hW=>node_of L S W hW);have HNX:=qq (fun W hW=>next_of L S W hW);obtain⟨n,hn⟩:∃n,n=S.acts.length:=⟨_,rfl⟩
 obtain⟨m,hm⟩:∃m,m=S.parts.length:=⟨_,rfl⟩
 obtain⟨nd,hnd⟩:∃x,x=S.node:=⟨_,rfl⟩
 obtain⟨nx,hnx⟩:∃x,x=S.next:=⟨_,rfl⟩
 have h8:n≤8:=by rw[hn];exact hG.acts
 have m8:m≤8:=by rw[hm];exact hG.parts
 obtain⟨ra,rc,hra,_,_⟩:=act_row hr.len hr.acts;obtain⟨rp,rpc,hrp⟩:=row_slice hr.parts;have hQ:=fun W (hW:Below w.heap.size w W)=>(show R.sb<W.heap.size∧W.cell? ⟨R.sb,0,none⟩=some (.int .i64 nd)∧W.cell? ⟨R.sb,1,none⟩=some (.int .i64 nx)∧W.cell? ⟨R.sb,2,none⟩=some (.slice ra n rc)∧W.cell? ⟨R.sb,3,none⟩=some (.slice rp m rpc) from by
   have h1:=(hr.below hW).blk;rw[hra,hrp,←hn,←hm,←hnd,←hnx] at h1;exact⟨h1.lt,h1.cell 0,h1.cell 1,h1.cell 2,h1.cell 3⟩)
 have HQ:=qq hQ;rw[←hnd] at HND;rw[←hnx] at HNX;rw[←hm] at HPT;have HRA:=qq (show R.av=.slice ra n rc by rw[hra,hn]);have HN:=qq hn;have HM:=qq hm;clear h hr hG hn hm hnd hnx hra hrp hQ;go_enter Tryz.func23,Tryz.ntmps23;obtain⟨xl,q0,q1,q2,q3⟩:=HQ.out _ (Below.refl _ _);go_wp2_with fail;clear xl q0 q1 q2 q3;refine(HAT.out _ (H.out.below (Below.refl w.heap.size w))).mono ?_
 rintro e w1 ⟨v1,vs,rfl,ha,hb1⟩;obtain⟨xa,xc,rfl,_,_⟩:=act_row ha.len ha.row;rw[←HN.out] at ha⊢;have HB:=qq (below_then (Below.refl w.heap.size w) hb1);have z1:=HB.out.size;clear hb1;have HA:=qq (ha)
 (try clear ha)
 obtain⟨xl,q0,q1,q2,q3⟩:=HQ.out _ HB.out;go_wp2_with fail;clear xl q0 q1 q2 q3;refine(HPT.out _ (H.out.below HB.out)).mono ?_;rintro e w2 ⟨v2,rfl,hp,hb2⟩;obtain⟨pa0,pc0,rfl⟩:=row_slice hp;have HA:=qq (HA.out.below hb2);have HB:=qq (below_then HB.out hb2);have z2:=HB.out.size;clear hb2;have HP:=qq (hp)
 (try clear hp)
 obtain⟨xl,q0,q1,q2,q3⟩:=HQ.out _ HB.out;go_wp2_with fail;clear xl q0 q1 q2 q3;refine reg_start (fun w'=>ActsIn _ _ _ _ w'∧World.ownsRow w' _ _ _ _ _ _∧Below w.heap.size w w') (by kernel_rfl) ⟨(HA.out.below (by go_grown)),(row_dr HP.out),(bel_drew HB.out)⟩ ?_;rintro w3 hHeld;obtain⟨HA',HP',HB'⟩:=id hHeld;have HA:=qq HA';have HP:=qq HP';have HB:=qq HB';clear HA' HP' HB';have z3:=HB.out.size
 refine takeM (d:=some 26) 0 rfl rfl hHeld (fun w' _=>by go_simp;(try rfl)) ?_;simp only[puts];refine takeM (d:=some 28) 2 rfl rfl hHeld (fun w' _=>by go_simp;(try rfl)) ?_;simp only[puts];refine takeM (d:=some 29) 3 rfl rfl hHeld (fun w' _=>by go_simp;(try rfl)) ?_;simp only[puts];refine takeM (d:=some 30) 4 rfl rfl hHeld (fun w' _=>by go_simp;(try rfl)) ?_;simp only[puts]
 refine takeM (d:=some 31) 5 rfl rfl hHeld (fun w' hS'=>by obtain⟨xl,q0,q1,q2,q3⟩:=HQ.out _ hS'.2.2;clear hS';go_simp;(try rfl)) ?_;simp only[puts];refine one_M 1 (by kernel_rfl) ?_;refine wpOp_call (d:=some 27) 1 94 _ _ [.pointer (some ⟨L.sb,0,none⟩)] rfl rfl rfl (enters_of Tryz.func94 (by kernel_rfl) rfl) (by rfl) (by rfl) ?_;refine(HND.out _ (H.out.below HB.out)).mono ?_;rintro e w4 ⟨rfl,rfl⟩
 refine ret_S hHeld (fun hHeld=> ?_);simp only[puts];refine takeM (d:=some 32) 6 rfl rfl hHeld (fun w' _=>by go_simp;(try rfl)) ?_;simp only[puts];refine takeM (d:=some 33) 7 rfl rfl hHeld (fun w' _=>by go_simp;(try rfl)) ?_;simp only[puts];refine takeM (d:=some 34) 8 rfl rfl hHeld (fun w' _=>by go_simp;(try rfl)) ?_;simp only[puts]
 refine takeM (d:=some 36) 10 rfl rfl hHeld (fun w' _=>by go_simp;(try rfl)) ?_;simp only[puts];refine takeM (d:=some 37) 11 rfl rfl hHeld (fun w' _=>by go_simp;(try rfl)) ?_;simp only[puts];refine takeM (d:=some 38) 12 rfl rfl hHeld (fun w' _=>by go_simp;(try rfl)) ?_;simp only[puts]
 refine takeM (d:=some 39) 13 rfl rfl hHeld (fun w' hS'=>by obtain⟨xl,q0,q1,q2,q3⟩:=HQ.out _ hS'.2.2;clear hS';go_simp;(try rfl)) ?_;simp only[puts];refine one_M 9 (by kernel_rfl) ?_;refine wpOp_call (d:=some 35) 9 95 _ _ [.pointer (some ⟨L.sb,0,none⟩)] rfl rfl rfl (enters_of Tryz.func95 (by kernel_rfl) rfl) (by rfl) (by rfl) ?_;refine(HNX.out _ (H.out.below HB.out)).mono ?_;rintro e w5 ⟨rfl,rfl⟩
 refine ret_S hHeld (fun hHeld=> ?_);simp only[puts];refine takeM (d:=some 40) 14 rfl rfl hHeld (fun w' _=>by go_simp;(try rfl)) ?_;simp only[puts];refine takeM (d:=some 41) 15 rfl rfl hHeld (fun w' _=>by go_simp;(try rfl)) ?_;simp only[puts];refine takeM (d:=some 42) 16 rfl rfl hHeld (fun w' _=>by go_simp;(try rfl)) ?_;simp only[puts]
 refine takeM (d:=some 43) 17 rfl rfl hHeld (fun w' _=>by go_simp;(try rfl)) ?_;simp only[puts];refine takeM (d:=some 44) 18 rfl rfl hHeld (fun w' _=>by go_simp;(try rfl)) ?_;simp only[puts];refine takeM (d:=some 45) 19 rfl rfl hHeld (fun w' _=>by go_simp;(try rfl)) ?_;simp only[puts];refine takeM (d:=some 46) 20 rfl rfl hHeld (fun w' _=>by go_simp;(try rfl)) ?_;simp only[puts]
 refine takeM (d:=some 47) 21 rfl rfl hHeld (fun w' _=>by go_simp;(try rfl)) ?_;simp only[puts];refine takeM (d:=some 48) 22 rfl rfl hHeld (fun w' hS'=>by obtain⟨xl,q0,q1,q2,q3⟩:=HQ.out _ hS'.2.2;clear hS';go_simp;(try rfl)) ?_;simp only[puts];refine takeM (d:=some 49) 23 rfl rfl hHeld (fun w' _=>by go_simp;(try rfl)) ?_;simp only[puts]
 refine takeM (d:=some 50) 24 rfl rfl hHeld (fun w' _=>by go_simp;(try rfl)) ?_;simp only[puts];refine takeM (d:=some 51) 25 rfl rfl hHeld (fun w' _=>by go_simp;(try rfl)) ?_;simp only[puts];refine takeM (d:=some 52) 26 rfl rfl hHeld (fun w' _=>by go_simp;(try rfl)) ?_;simp only[puts];refine takeM (d:=some 53) 27 rfl rfl hHeld (fun w' _=>by go_simp;(try rfl)) ?_;simp only[puts]
 refine takeM (d:=some 54) 28 rfl rfl hHeld (fun w' _=>by go_simp;(try rfl)) ?_;simp only[puts];refine takeM (d:=some 55) 29 rfl rfl hHeld (fun w' _=>by go_simp;(try rfl)) ?_;simp only[puts];refine takeM (d:=some 56) 30 rfl rfl hHeld (fun w' _=>by go_simp;(try rfl)) ?_;simp only[puts];refine takeM (d:=some 57) 31 rfl rfl hHeld (fun w' _=>by go_simp;(try rfl)) ?_;simp only[puts]
 refine takeM (d:=some 58) 32 rfl rfl hHeld (fun w' hS'=>by obtain⟨xl,q0,q1,q2,q3⟩:=HQ.out _ hS'.2.2;clear hS';go_simp;(try rfl)) ?_;simp only[puts];refine takeM (d:=some 59) 33 rfl rfl hHeld (fun w' _=>by go_simp;(try rfl)) ?_;simp only[puts];refine takeM (d:=some 60) 34 rfl rfl hHeld (fun w' _=>by go_simp;(try rfl)) ?_;simp only[puts]
 refine takeM (d:=some 61) 35 rfl rfl hHeld (fun w' _=>by go_simp;(try rfl)) ?_;simp only[puts];refine doneM (by kernel_rfl) ?_ _;clear hHeld;obtain⟨xl,q0,q1,q2,q3⟩:=HQ.out _ HB.out;go_wp2_with fail;clear xl q0 q1 q2 q3;go_loopw [64] (fun i wr=>∃k:Nat,k≤n∧i=.int .i64 (k:Nat)∧Below w3.heap.size w3 wr) (fun i _=>n - (intOf i).toNat)
 case atStart=>exact⟨0,by omega,by first | rfl | go_num,Below.refl _ _⟩
 case round=>
  obtain⟨k,hk,rfl,hB⟩:=hrel;have BW:Below w.heap.size w wr:=below_then HB.out hB;have H:=qq (H.out.below BW);have HR:=qq (HR.out.below BW);have HA:=qq (HA.out.below hB);by_cases hlt:k<n
  · have hki:(k:Int)<(n:Int):=by omega
    have hk0:(0:Int)≤(k:Int):=by omega
    obtain⟨a,ha⟩:∃a,S.acts[k]? =some a:=⟨_,List.getElem?_eq_getElem (by rw[←HN.out];exact hlt)⟩
    obtain⟨x,hx⟩:∃x,vs[k]? =some x:=⟨_,List.getElem?_eq_getElem (by rw[HA.out.len,←HN.out];exact hlt)⟩
    obtain⟨u,hu⟩:∃u,R.rv[k]? =some u:=⟨_,List.getElem?_eq_getElem (by rw[HR.out.len,←HN.out];exact hlt)⟩
    have hm:=List.mem_of_getElem? ha;have hv6:=(HG.out.act a hm).len;have hex:F64 a.ex:=by have:=(ctxOk_ex (HG.out.act a hm).ctx).1;unfold fdelay at this;unfold F64;simp at this;omega
    have hlg:=lGet_at HG.out ha;have hcr:=HA.out.regs k a x ha hx;have hrg:=HR.out.regs k u a hu ha;obtain⟨xa',xc',hxe,_,hrow⟩:=act_row HA.out.len HA.out.row;obtain⟨ga,rfl,hgl,_,hcl⟩:=hrow (by rw[←HN.out];omega);simp only[Value.slice.injEq] at hxe;obtain⟨rfl,-,rfl⟩:=hxe;obtain⟨ra',rc',hre,_,hrow2⟩:=act_row HR.out.len HR.out.acts;rw[HRA.out] at hre
    obtain⟨g,rfl,hg,_,hcl2⟩:=hrow2 (by rw[←HN.out];omega);simp only[Value.slice.injEq] at hre;obtain⟨rfl,-,rfl⟩:=hre;have hQ2:=fun W (hW:Below wr.heap.size wr W)=>(show R.sb<W.heap.size∧g<W.heap.size∧ga<W.heap.size∧W.cell? ⟨R.sb,2,none⟩=some (.slice (some ⟨g,0,none⟩) n rc)∧ActC W ga (k*8) a x∧ActC W g (k*8) a u from by
      have h1:=HQ.out W (BW.trans (hW.mono BW.size));exact⟨h1.1,Nat.lt_of_lt_of_le hg hW.size,Nat.lt_of_lt_of_le hgl hW.size,h1.2.2.2.1,(hcl k a x ha hx).below hW hgl,(hcl2 k a u ha hu).below hW hg⟩)
    have HFD:=qq (fun W hW=>Find_yes L S a.an a.aq k a W hW HG.out hlg);obtain⟨ca,cc,rfl,_,_⟩:=reg_row hcr;obtain⟨va,vc,rfl,_,_⟩:=reg_row hrg;obtain⟨an,aq,oc,dp,ex,pa,de,rs⟩:=a;have HAC:=qq (fun ca cc B W (h:World.ownsRow W B 55 6 (.slice ca rs.length cc) rs.length (regsL rs))=>act15_of an aq oc dp ex pa de ca cc rs B W h (by dsimp only at hv6;omega))
    have HSA:=qq (fun a1 a2 c1 c2 B1 B2 T1 T2 W (h1:World.ownsRow W B1 T1 6 (.slice a1 rs.length c1) rs.length (regsL rs)) (h2:World.ownsRow W B2 T2 6 (.slice a2 rs.length c2) rs.length (regsL rs))=>rsameAct_self an aq oc dp ex pa de a1 a2 c1 c2 rs B1 B2 T1 T2 W h1 h2 hex (by dsimp only at hv6;omega));unfold ActOut at HFD;unfold ActC at hQ2;dsimp only[actC] at HFD hQ2 hcr hrg
    have HCR:=qq hcr;have HRG:=qq hrg;obtain⟨vn,hvn⟩:∃n,n=rs.length:=⟨_,rfl⟩
    simp only[←hvn] at HAC HSA HCR HRG HFD hQ2;have HQ2:=qq hQ2;clear ha hx hu hm hv6 hex hlg hcr hrg hcl hcl2 hrow hrow2 hQ2 hvn hg hgl;obtain⟨xl,gl,gal,q2,⟨e0,e1,e2,e3,e4,e5,e6,e7⟩,r0,r1,r2,r3,r4,r5,r6,r7⟩:=HQ2.out _ (Below.refl _ _);go_wp2_with fail;clear xl gl gal q2 e0 e1 e2 e3 e4 e5 e6 e7 r0 r1 r2 r3 r4 r5 r6 r7
    refine(HFD.out _ (H.out.below (bel_alloc (Below.refl wr.heap.size wr) _))).mono ?_;rintro e wr21 ⟨v',rfl,ho,hb21⟩;obtain⟨fa,fc,rfl,_,_⟩:=reg_row ho;have HCR:=qq (row_be (row_al HCR.out _) hb21);have HRG:=qq (row_be (row_al HRG.out _) hb21);have K21:=qq ((Blk.fresh _ _ _ (wr.heap.size) (by simp)).below hb21);have HB:=qq (below_then (bel_alloc (Below.refl wr.heap.size wr) _) hb21)
    have z21:=HB.out.size;clear hb21;have HO:=qq (ho)
    (try clear ho)
    have o22K21:=K21.out.lt;obtain⟨xl,gl,gal,q2,⟨e0,e1,e2,e3,e4,e5,e6,e7⟩,r0,r1,r2,r3,r4,r5,r6,r7⟩:=HQ2.out _ HB.out;obtain⟨lK21,qK21,fK21⟩:=K21.out;go_wp2_with fail;clear qK21 fK21 lK21 xl gl gal q2 e0 e1 e2 e3 e4 e5 e6 e7 r0 r1 r2 r3 r4 r5 r6 r7
    refine reg_start (fun w'=>World.ownsRow w' _ _ _ _ _ _∧World.ownsRow w' _ _ _ _ _ _∧Blk w' _ _∧World.ownsRow w' _ _ _ _ _ _∧Blk w' _ _∧Below wr.heap.size wr w') (by kernel_rfl) ⟨(row_dr (row_al HCR.out _)),(row_dr (row_al HRG.out _)),(K21.out.alloc _).drew,(row_dr (row_al HO.out _)),(Blk.fresh _ _ _ (wr21.heap.size) (by simp)).drew,(bel_drew (bel_alloc HB.out _))⟩ ?_;rintro wr22 hHeld
    obtain⟨HCR',HRG',K21',HO',K22',HB'⟩:=id hHeld;have HCR:=qq HCR';have HRG:=qq HRG';have K21:=qq K21';have HO:=qq HO';have K22:=qq K22';have HB:=qq HB';clear HCR' HRG' K21' HO' K22' HB';have z22:=HB.out.size;refine takeM (d:=some 77) 0 rfl rfl hHeld (fun w' hS'=>by have qA:=hS'.2.2.1.cell;clear hS';go_simp;(try rfl)) ?_;simp only[puts]
    refine takeM (d:=some 79) 2 rfl rfl hHeld (fun w' _=>by go_simp;(try rfl)) ?_;simp only[puts];refine takeM (d:=some 80) 3 rfl rfl hHeld (fun w' _=>by go_simp;(try rfl)) ?_;simp only[puts];refine takeM (d:=some 81) 4 rfl rfl hHeld (fun w' _=>by go_simp;(try rfl)) ?_;simp only[puts]
    refine takeM (d:=some 82) 5 rfl rfl hHeld (fun w' hS'=>by obtain⟨xl,gl,gal,q2,⟨e0,e1,e2,e3,e4,e5,e6,e7⟩,r0,r1,r2,r3,r4,r5,r6,r7⟩:=HQ2.out _ hS'.2.2.2.2.2;clear hS';go_simp;(try rfl)) ?_;simp only[puts];refine takeM (d:=some 83) 6 rfl rfl hHeld (fun w' _=>by go_simp;(try rfl)) ?_;simp only[puts];refine takeM (d:=some 84) 7 rfl rfl hHeld (fun w' _=>by go_simp;(try rfl)) ?_;simp only[puts]
    refine takeM (d:=some 85) 8 rfl rfl hHeld (fun w' hS'=>by obtain⟨xl,gl,gal,q2,⟨e0,e1,e2,e3,e4,e5,e6,e7⟩,r0,r1,r2,r3,r4,r5,r6,r7⟩:=HQ2.out _ hS'.2.2.2.2.2;clear hS';go_simp;(try rfl)) ?_;simp only[puts];refine one_M 1 (by kernel_rfl) ?_
    refine wpOp_call (d:=some 78) 1 97 _ _ [.agg #[an,aq,oc,dp,.float .f64 ex,pa,de,.slice ca vn cc]] rfl rfl rfl (enters_of Tryz.func97 (by kernel_rfl) rfl) (by rfl) (by rfl) ?_;refine(HAC.out _ _ _ _ HCR.out).mono ?_;rintro e wr23 ⟨b1,d1,rfl,hrow1,hb23⟩;clear hHeld;have HCR:=qq (row_be HCR.out hb23);have HRG:=qq (row_be HRG.out hb23);have K21:=qq (K21.out.below hb23)
    have HO:=qq (row_be HO.out hb23);have K22:=qq (K22.out.below hb23);have HB:=qq (below_then HB.out hb23);have z23:=HB.out.size;clear hb23;have HD1:=qq (hrow1)
    (try clear hrow1)
    refine ret_S ⟨HCR.out,HRG.out,K21.out,HO.out,K22.out,HB.out⟩ (fun hHeld=> ?_);simp only[puts];refine one_M 9 (by kernel_rfl) ?_;refine wpOp_call (d:=some 86) 9 96 _ _ [.agg #[an,aq,oc,dp,.float .f64 ex,pa,de,.slice b1 vn d1],.agg #[an,aq,oc,dp,.float .f64 ex,pa,de,.slice va vn vc]] rfl rfl rfl (enters_of Tryz.func96 (by kernel_rfl) rfl) (by rfl) (by rfl) ?_
    refine(HSA.out _ _ _ _ _ _ _ _ _ HD1.out HRG.out).mono ?_;rintro e wr24 ⟨rfl,hb24⟩;clear hHeld;have HCR:=qq (row_be HCR.out hb24);have HRG:=qq (row_be HRG.out hb24);have K21:=qq (K21.out.below hb24);have HO:=qq (row_be HO.out hb24);have K22:=qq (K22.out.below hb24);have HD1:=qq (row_be HD1.out hb24);have HB:=qq (below_then HB.out hb24);have z24:=HB.out.size;clear hb24
    refine ret_S ⟨HCR.out,HRG.out,K21.out,HO.out,K22.out,HB.out⟩ (fun hHeld=> ?_);simp only[puts];refine takeM (d:=some 87) 10 rfl rfl hHeld (fun w' _=>by go_simp;(try rfl)) ?_;simp only[puts];refine takeM (d:=some 88) 11 rfl rfl hHeld (fun w' _=>by go_simp;(try rfl)) ?_;simp only[puts];refine takeM (d:=some 89) 12 rfl rfl hHeld (fun w' _=>by go_simp;(try rfl)) ?_;simp only[puts]
    refine takeM (d:=some 90) 13 rfl rfl hHeld (fun w' _=>by go_simp;(try rfl)) ?_;simp only[puts];refine takeM (d:=some 91) 14 rfl rfl hHeld (fun w' _=>by go_simp;(try rfl)) ?_;simp only[puts];refine takeM (d:=some 92) 15 rfl rfl hHeld (fun w' _=>by go_simp;(try rfl)) ?_;simp only[puts]
    refine takeM (d:=some 93) 16 rfl rfl hHeld (fun w' hS'=>by have qA:=hS'.2.2.2.2.1.cell;clear hS';go_simp;(try rfl)) ?_;simp only[puts];refine takeM (d:=some 95) 18 rfl rfl hHeld (fun w' _=>by go_simp;(try rfl)) ?_;simp only[puts];refine takeM (d:=some 96) 19 rfl rfl hHeld (fun w' _=>by go_simp;(try rfl)) ?_;simp only[puts]
    refine takeM (d:=some 97) 20 rfl rfl hHeld (fun w' _=>by go_simp;(try rfl)) ?_;simp only[puts];refine takeM (d:=some 98) 21 rfl rfl hHeld (fun w' hS'=>by obtain⟨xl,gl,gal,q2,⟨e0,e1,e2,e3,e4,e5,e6,e7⟩,r0,r1,r2,r3,r4,r5,r6,r7⟩:=HQ2.out _ hS'.2.2.2.2.2;clear hS';go_simp;(try rfl)) ?_;simp only[puts];refine takeM (d:=some 99) 22 rfl rfl hHeld (fun w' _=>by go_simp;(try rfl)) ?_;simp only[puts]
    refine takeM (d:=some 100) 23 rfl rfl hHeld (fun w' _=>by go_simp;(try rfl)) ?_;simp only[puts];refine takeM (d:=some 101) 24 rfl rfl hHeld (fun w' hS'=>by obtain⟨xl,gl,gal,q2,⟨e0,e1,e2,e3,e4,e5,e6,e7⟩,r0,r1,r2,r3,r4,r5,r6,r7⟩:=HQ2.out _ hS'.2.2.2.2.2;clear hS';go_simp;(try rfl)) ?_;simp only[puts];refine one_M 17 (by kernel_rfl) ?_
    refine wpOp_call (d:=some 94) 17 97 _ _ [.agg #[an,aq,oc,dp,.float .f64 ex,pa,de,.slice fa vn fc]] rfl rfl rfl (enters_of Tryz.func97 (by kernel_rfl) rfl) (by rfl) (by rfl) ?_;refine(HAC.out _ _ _ _ HO.out).mono ?_;rintro e wr25 ⟨b2,d2,rfl,hrow2,hb25⟩;clear hHeld;have HCR:=qq (row_be HCR.out hb25);have HRG:=qq (row_be HRG.out hb25);have K21:=qq (K21.out.below hb25)
    have HO:=qq (row_be HO.out hb25);have K22:=qq (K22.out.below hb25);have HD1:=qq (row_be HD1.out hb25);have HB:=qq (below_then HB.out hb25);have z25:=HB.out.size;clear hb25;have HD2:=qq (hrow2)
    (try clear hrow2)
    refine ret_S ⟨HCR.out,HRG.out,K21.out,HO.out,K22.out,HB.out⟩ (fun hHeld=> ?_);simp only[puts];refine one_M 25 (by kernel_rfl) ?_;refine wpOp_call (d:=some 102) 25 96 _ _ [.agg #[an,aq,oc,dp,.float .f64 ex,pa,de,.slice b2 vn d2],.agg #[an,aq,oc,dp,.float .f64 ex,pa,de,.slice va vn vc]] rfl rfl rfl (enters_of Tryz.func96 (by kernel_rfl) rfl) (by rfl) (by rfl) ?_
    refine(HSA.out _ _ _ _ _ _ _ _ _ HD2.out HRG.out).mono ?_;rintro e wr26 ⟨rfl,hb26⟩;clear hHeld;have HCR:=qq (row_be HCR.out hb26);have HRG:=qq (row_be HRG.out hb26);have K21:=qq (K21.out.below hb26);have HO:=qq (row_be HO.out hb26);have K22:=qq (K22.out.below hb26);have HD1:=qq (row_be HD1.out hb26);have HD2:=qq (row_be HD2.out hb26);have HB:=qq (below_then HB.out hb26);have z26:=HB.out.size
    clear hb26;refine ret_S ⟨HCR.out,HRG.out,K21.out,HO.out,K22.out,HB.out⟩ (fun hHeld=> ?_);simp only[puts];refine takeM (d:=some 103) 26 rfl rfl hHeld (fun w' _=>by go_simp;(try rfl)) ?_;simp only[puts];refine takeM (d:=some 104) 27 rfl rfl hHeld (fun w' _=>by go_simp;(try rfl)) ?_;simp only[puts];refine doneM (by kernel_rfl) ?_ _;clear hHeld;go_wp2_with fail
    all_goals (go_roundw<;>first | exact⟨k+1,by omega,by go_num,below_then hB HB.out⟩ | (simp[intOf];omega))
  · obtain rfl:k=n:=by omega
    have HP:=qq (row_be HP.out hB);have HBW:=qq BW;clear hB hlt hk HB HA;obtain⟨w7,hw7⟩:∃w7:World,w7=wr:=⟨_,rfl⟩
    rw[←hw7] at HP HBW H HR⊢;clear BW hw7;go_wp2_with fail;go_loopw [108] (fun i wr=>∃j:Nat,j≤m∧i=.int .i64 (j:Nat)∧Below w7.heap.size w7 wr) (fun i _=>m - (intOf i).toNat)
    case atStart=>exact⟨0,by omega,by first | rfl | go_num,Below.refl _ _⟩
    case round=>
     obtain⟨j,hk,rfl,hB⟩:=hrel;have BW:Below w.heap.size w wr:=below_then HBW.out hB;have H:=qq (H.out.below hB);have HR:=qq (HR.out.below hB);by_cases hlt:j<m
     · have hki:(j:Int)<(m:Int):=by omega
       have hk0:(0:Int)≤(j:Int):=by omega
       have hj1:decide ((j:Int)≥0)=true:=decide_eq_true hk0;obtain⟨p,hp⟩:∃p,S.parts[j]? =some p:=⟨_,List.getElem?_eq_getElem (by rw[←HM.out];exact hlt)⟩
       have hpg:pGet S (j:Int)=some p:=by unfold pGet;rw[if_pos hk0,Int.toNat_natCast];exact hp
       have hpr:0≤(j:Int)∧(j:Int)<(S.parts.length:Int):=⟨hk0,by rw[←HM.out];exact hki⟩
       have HPY:=qq (fun W hW=>part_yes L S (j:Int) p W hW HG.out.parts hpg);have HRC:=qq (fun W hW=>rchild_of R S (j:Int) W hW HG.out.acts hk0 (by omega));obtain⟨pa1,pc1,hpe,_,hrow⟩:=part_row (row_be HP.out hB);obtain⟨gp,rfl,hgp,_,hcl⟩:=hrow (by omega);simp only[Value.slice.injEq] at hpe;obtain⟨hp1,-,hp2⟩:=hpe;subst hp1 hp2
       obtain⟨i',m',g,cap,hi',him',_,hm',c3,hsb,hg,hpc⟩:=rpart_at HR.out HG.out.parts hpg;obtain rfl:j=i':=by omega
       rw[←HM.out] at hm';obtain rfl:m'=m:=hm'
       have hQ2:=fun W (hW:Below wr.heap.size wr W)=>(show R.sb<W.heap.size∧g<W.heap.size∧gp<W.heap.size∧W.cell? ⟨R.sb,3,none⟩=some (.slice (some ⟨g,0,none⟩) m' cap)∧PartC W gp (j*7) p∧PartC W g (j*7) p from⟨Nat.lt_of_lt_of_le hsb hW.size,Nat.lt_of_lt_of_le hg hW.size,Nat.lt_of_lt_of_le hgp hW.size,(hW.cell (p:=⟨R.sb,3,none⟩) hsb).trans c3,PartC.below (hcl j p hp) hW hgp,PartC.below hpc hW hg⟩)
       cases hsc:schild S ((j:Int)+1) with
       | none=>
        rw[hsc] at HRC;dsimp only[oix] at HRC;have HCH:=qq (fun W hW=>Child_no L S (j:Int) W hW HG.out hpr hsc);obtain⟨pn,pq,pg,⟨sp,sd,ss,sh⟩⟩:=p;unfold PartC at hQ2;dsimp only[partA] at HPY hQ2;unfold ChildOut at HCH;have HQ2:=qq hQ2;clear hp hpg hpr hsc hrow hgp hcl c3 hsb hg hpc hQ2;have hne:=partNe pn pq pg sp sd ss sh
        obtain⟨xl,gl,gal,q3,⟨e0,e1,e2,e3,e4,e5,e6⟩,r0,r1,r2,r3,r4,r5,r6⟩:=HQ2.out _ (Below.refl _ _);go_wp2_with fail;clear xl gl gal q3 e0 e1 e2 e3 e4 e5 e6 r0 r1 r2 r3 r4 r5 r6;refine(HPY.out _ (H.out.below (bel_alloc (Below.refl wr.heap.size wr) _))).mono ?_;rintro e wr41 ⟨rfl,hb41⟩;have K41:=qq ((Blk.fresh _ _ _ (wr.heap.size) (by simp)).below hb41)
        have HB:=qq (below_then (bel_alloc (Below.refl wr.heap.size wr) _) hb41);have z41:=HB.out.size;clear hb41;have o42K41:=K41.out.lt;obtain⟨xl,gl,gal,q3,⟨e0,e1,e2,e3,e4,e5,e6⟩,r0,r1,r2,r3,r4,r5,r6⟩:=HQ2.out _ HB.out;obtain⟨lK41,qK41,fK41⟩:=K41.out;go_wp2_with fail;clear qK41 fK41 lK41 xl gl gal q3 e0 e1 e2 e3 e4 e5 e6 r0 r1 r2 r3 r4 r5 r6
        refine(HCH.out _ (H.out.below (bel_alloc HB.out _))).mono ?_;rintro e wr42 ⟨y1,y2,y3,y4,y5,y6,y7,y8,y9,y10,rfl,hb42⟩;have K41:=qq ((K41.out.alloc _).below hb42);have K42:=qq ((Blk.fresh _ _ _ (wr41.heap.size) (by simp)).below hb42);have HB:=qq (below_then (bel_alloc HB.out _) hb42);have z42:=HB.out.size;clear hb42;have o43K41:=K41.out.lt;have o43K42:=K42.out.lt
        obtain⟨xl,gl,gal,q3,⟨e0,e1,e2,e3,e4,e5,e6⟩,r0,r1,r2,r3,r4,r5,r6⟩:=HQ2.out _ HB.out;obtain⟨lK41,qK41,fK41⟩:=K41.out;obtain⟨lK42,qK42,fK42⟩:=K42.out;go_wp2_with fail;clear qK41 fK41 lK41 qK42 fK42 lK42 xl gl gal q3 e0 e1 e2 e3 e4 e5 e6 r0 r1 r2 r3 r4 r5 r6;refine(HRC.out _ (HR.out.below (bel_alloc HB.out _))).mono ?_;rintro e wr43 ⟨rfl,hb43⟩;have K41:=qq ((K41.out.alloc _).below hb43)
        have K42:=qq ((K42.out.alloc _).below hb43);have HB:=qq (below_then (bel_alloc HB.out _) hb43);have z43:=HB.out.size;clear hb43;obtain⟨xl,gl,gal,q3,⟨e0,e1,e2,e3,e4,e5,e6⟩,r0,r1,r2,r3,r4,r5,r6⟩:=HQ2.out _ HB.out;obtain⟨lK41,qK41,fK41⟩:=K41.out;obtain⟨lK42,qK42,fK42⟩:=K42.out;go_wp2_with fail;clear qK41 fK41 lK41 qK42 fK42 lK42 xl gl gal q3 e0 e1 e2 e3 e4 e5 e6 r0 r1 r2 r3 r4 r5 r6
        refine reg_start (fun w'=>Blk w' _ _∧Blk w' _ _∧Below wr.heap.size wr w') (by kernel_rfl) ⟨K41.out.drew,K42.out.drew,(bel_drew HB.out)⟩ ?_;rintro wr44 hHeld;obtain⟨K41',K42',HB'⟩:=id hHeld;have K41:=qq K41';have K42:=qq K42';have HB:=qq HB';clear K41' K42' HB';have z44:=HB.out.size
        refine takeM (d:=some 128) 0 rfl rfl hHeld (fun w' hS'=>by have qA:=hS'.1.cell;clear hS';go_simp;(try rfl)) ?_;simp only[puts];refine takeM (d:=some 130) 2 rfl rfl hHeld (fun w' _=>by go_simp;(try rfl)) ?_;simp only[puts];refine takeM (d:=some 131) 3 rfl rfl hHeld (fun w' _=>by go_simp;(try rfl)) ?_;simp only[puts]
        refine takeM (d:=some 132) 4 rfl rfl hHeld (fun w' _=>by go_simp;(try rfl)) ?_;simp only[puts];refine takeM (d:=some 133) 5 rfl rfl hHeld (fun w' hS'=>by obtain⟨xl,gl,gal,q3,⟨e0,e1,e2,e3,e4,e5,e6⟩,r0,r1,r2,r3,r4,r5,r6⟩:=HQ2.out _ hS'.2.2;clear hS';go_simp;(try rfl)) ?_;simp only[puts];refine takeM (d:=some 134) 6 rfl rfl hHeld (fun w' _=>by go_simp;(try rfl)) ?_;simp only[puts]
        refine takeM (d:=some 135) 7 rfl rfl hHeld (fun w' _=>by go_simp;(try rfl)) ?_;simp only[puts];refine takeM (d:=some 136) 8 rfl rfl hHeld (fun w' hS'=>by obtain⟨xl,gl,gal,q3,⟨e0,e1,e2,e3,e4,e5,e6⟩,r0,r1,r2,r3,r4,r5,r6⟩:=HQ2.out _ hS'.2.2;clear hS';go_simp;(try rfl)) ?_;simp only[puts];refine one_M 1 (by kernel_rfl) ?_
        refine wpOp_call (d:=some 129) 1 98 _ _ [.agg #[pn,pq,pg,sp,sd,ss,sh]] rfl rfl rfl (enters_of Tryz.func98 (by kernel_rfl) rfl) (by rfl) (by rfl) ?_;refine(part15_of pn pq pg sp sd ss sh _).mono ?_;rintro e wr45 ⟨rfl,hb45⟩;clear hHeld;have K41:=qq (K41.out.below hb45);have K42:=qq (K42.out.below hb45);have HB:=qq (below_then HB.out hb45);have z45:=HB.out.size;clear hb45
        refine ret_S ⟨K41.out,K42.out,HB.out⟩ (fun hHeld=> ?_);simp only[puts];refine takeM (d:=some 137) 9 rfl rfl hHeld (fun w' _=>by go_simp;(try rfl)) ?_;simp only[puts];refine takeM (d:=some 138) 10 rfl rfl hHeld (fun w' _=>by go_simp;(try rfl)) ?_;simp only[puts];refine takeM (d:=some 139) 11 rfl rfl hHeld (fun w' _=>by go_simp;(try rfl)) ?_;simp only[puts]
        refine takeM (d:=some 140) 12 rfl rfl hHeld (fun w' _=>by go_simp;(try rfl)) ?_;simp only[puts];refine takeM (d:=some 141) 13 rfl rfl hHeld (fun w' _=>by go_simp;(try rfl)) ?_;simp only[puts];refine takeM (d:=some 142) 14 rfl rfl hHeld (fun w' _=>by go_simp;(try rfl)) ?_;simp only[puts]
        refine takeM (d:=some 143) 15 rfl rfl hHeld (fun w' hS'=>by have qA:=hS'.2.1.cell;clear hS';go_simp;(try rfl)) ?_;simp only[puts];refine takeM (d:=some 145) 17 rfl rfl hHeld (fun w' _=>by go_simp;(try rfl)) ?_;simp only[puts];refine takeM (d:=some 146) 18 rfl rfl hHeld (fun w' _=>by go_simp;(try rfl)) ?_;simp only[puts]
        refine takeM (d:=some 147) 19 rfl rfl hHeld (fun w' _=>by go_simp;(try rfl)) ?_;simp only[puts];refine takeM (d:=some 148) 20 rfl rfl hHeld (fun w' hS'=>by obtain⟨xl,gl,gal,q3,⟨e0,e1,e2,e3,e4,e5,e6⟩,r0,r1,r2,r3,r4,r5,r6⟩:=HQ2.out _ hS'.2.2;clear hS';go_simp;(try rfl)) ?_;simp only[puts];refine takeM (d:=some 149) 21 rfl rfl hHeld (fun w' _=>by go_simp;(try rfl)) ?_;simp only[puts]
        refine takeM (d:=some 150) 22 rfl rfl hHeld (fun w' _=>by go_simp;(try rfl)) ?_;simp only[puts];refine takeM (d:=some 151) 23 rfl rfl hHeld (fun w' hS'=>by obtain⟨xl,gl,gal,q3,⟨e0,e1,e2,e3,e4,e5,e6⟩,r0,r1,r2,r3,r4,r5,r6⟩:=HQ2.out _ hS'.2.2;clear hS';go_simp;(try rfl)) ?_;simp only[puts];refine one_M 16 (by kernel_rfl) ?_
        refine wpOp_call (d:=some 144) 16 98 _ _ [.agg #[pn,pq,pg,sp,sd,ss,sh]] rfl rfl rfl (enters_of Tryz.func98 (by kernel_rfl) rfl) (by rfl) (by rfl) ?_;refine(part15_of pn pq pg sp sd ss sh _).mono ?_;rintro e wr46 ⟨rfl,hb46⟩;clear hHeld;have K41:=qq (K41.out.below hb46);have K42:=qq (K42.out.below hb46);have HB:=qq (below_then HB.out hb46);have z46:=HB.out.size;clear hb46
        refine ret_S ⟨K41.out,K42.out,HB.out⟩ (fun hHeld=> ?_);simp only[puts];refine takeM (d:=some 152) 24 rfl rfl hHeld (fun w' _=>by go_simp;(try rfl)) ?_;simp only[puts];refine takeM (d:=some 153) 25 rfl rfl hHeld (fun w' _=>by go_simp;(try rfl)) ?_;simp only[puts];refine takeM (d:=some 154) 26 rfl rfl hHeld (fun w' _=>by go_simp;(try rfl)) ?_;simp only[puts]
        refine takeM (d:=some 155) 27 rfl rfl hHeld (fun w' _=>by go_simp;(try rfl)) ?_;simp only[puts];refine takeM (d:=some 156) 28 rfl rfl hHeld (fun w' _=>by go_simp;(try rfl)) ?_;simp only[puts];refine takeM (d:=some 157) 29 rfl rfl hHeld (fun w' _=>by go_simp;(try rfl)) ?_;simp only[puts];refine takeM (d:=some 158) 30 rfl rfl hHeld (fun w' _=>by go_simp;(try rfl)) ?_;simp only[puts]
        refine takeM (d:=some 159) 31 rfl rfl hHeld (fun w' _=>by go_simp;(try rfl)) ?_;simp only[puts];refine takeM (d:=some 160) 32 rfl rfl hHeld (fun w' _=>by go_simp;(try rfl)) ?_;simp only[puts];refine takeM (d:=some 161) 33 rfl rfl hHeld (fun w' _=>by go_simp;(try rfl)) ?_;simp only[puts];refine takeM (d:=some 162) 34 rfl rfl hHeld (fun w' _=>by go_simp;(try rfl)) ?_;simp only[puts]
        refine skipM (d:=some 163) 35 rfl rfl hHeld ?_;simp only[puts];refine skipM (d:=some 164) 36 rfl rfl hHeld ?_;simp only[puts];refine skipM (d:=some 165) 37 rfl rfl hHeld ?_;simp only[puts];refine skipM (d:=some 166) 38 rfl rfl hHeld ?_;simp only[puts];refine skipM (d:=some 167) 39 rfl rfl hHeld ?_;simp only[puts];refine skipM (d:=some 168) 40 rfl rfl hHeld ?_;simp only[puts]
        refine skipM (d:=some 169) 41 rfl rfl hHeld ?_;simp only[puts];refine skipM (d:=some 170) 42 rfl rfl hHeld ?_;simp only[puts];refine skipM (d:=some 171) 43 rfl rfl hHeld ?_;simp only[puts];refine skipM (d:=some 172) 44 rfl rfl hHeld ?_;simp only[puts];refine skipM (d:=some 173) 45 rfl rfl hHeld ?_;simp only[puts]
        refine takeM (d:=some 174) 46 rfl rfl hHeld (fun w' _=>by go_simp;(try rfl)) ?_;simp only[puts];refine takeM (d:=some 175) 47 rfl rfl hHeld (fun w' _=>by go_simp;(try rfl)) ?_;simp only[puts];refine doneM (by kernel_rfl) ?_ _;clear hHeld;go_wp2_with fail
        all_goals (go_roundw<;>first | exact⟨j+1,by omega,by go_num,below_then hB HB.out⟩ | (simp[intOf];omega))
       | some ci=>
        rw[hsc] at HRC;dsimp only[oix] at HRC;obtain⟨a,ha,hma⟩:=schild_some hsc;have hv6:=(HG.out.act a hma).len;have hex:F64 a.ex:=by have:=(ctxOk_ex (HG.out.act a hma).ctx).1;unfold fdelay at this;unfold F64;simp at this;omega
        have hcl8:=(List.getElem?_eq_some_iff.1 ha).1;obtain⟨u,hu⟩:∃u,R.rv[ci]? =some u:=⟨_,List.getElem?_eq_getElem (by rw[HR.out.len];exact hcl8)⟩
        have hrg:=HR.out.regs ci u a hu ha;obtain⟨ra',rc',hre,_,hrow2⟩:=act_row HR.out.len HR.out.acts;rw[HRA.out] at hre;obtain⟨g2,rfl,hg2,_,hcl2⟩:=hrow2 (by omega);simp only[Value.slice.injEq] at hre;obtain⟨rfl,-,rfl⟩:=hre;rw[←HN.out] at hcl8;have hci1:(ci:Int)<(k:Int):=by omega
        have hci0:(0:Int)≤(ci:Int):=by omega
        have hci2:decide ((ci:Int)≥0)=true:=decide_eq_true hci0
        have hQ3:=fun W (hW:Below wr.heap.size wr W)=>(show(R.sb<W.heap.size∧g<W.heap.size∧gp<W.heap.size∧W.cell? ⟨R.sb,3,none⟩=some (.slice (some ⟨g,0,none⟩) m' cap)∧PartC W gp (j*7) p∧PartC W g (j*7) p)∧g2<W.heap.size∧W.cell? ⟨R.sb,2,none⟩=some (.slice (some ⟨g2,0,none⟩) k rc)∧ActC W g2 (ci*8) a u from⟨hQ2 W hW,Nat.lt_of_lt_of_le hg2 hW.size,(HQ.out W (BW.trans (hW.mono BW.size))).2.2.2.1,(hcl2 ci a u ha hu).below hW hg2⟩)
        clear hQ2;have HCH:=qq (fun W hW=>Child_is L S (j:Int) W hW HG.out hpr ci a hsc ha);obtain⟨va,vc,rfl,_,_⟩:=reg_row hrg;obtain⟨an,aq,oc,dp,ex,pa,de,rs⟩:=a;have HAC:=qq (fun ca cc B W (h:World.ownsRow W B 55 6 (.slice ca rs.length cc) rs.length (regsL rs))=>act15_of an aq oc dp ex pa de ca cc rs B W h (by dsimp only at hv6;omega))
        have HSA:=qq (fun a1 a2 c1 c2 B1 B2 T1 T2 W (h1:World.ownsRow W B1 T1 6 (.slice a1 rs.length c1) rs.length (regsL rs)) (h2:World.ownsRow W B2 T2 6 (.slice a2 rs.length c2) rs.length (regsL rs))=>rsameAct_self an aq oc dp ex pa de a1 a2 c1 c2 rs B1 B2 T1 T2 W h1 h2 hex (by dsimp only at hv6;omega));unfold ActOut at HCH;unfold ActC at hQ3;dsimp only[actC] at HCH hQ3 hrg;have HRG:=qq hrg
        obtain⟨vn,hvn⟩:∃n,n=rs.length:=⟨_,rfl⟩
        simp only[←hvn] at HAC HSA HRG HCH hQ3;obtain⟨pn,pq,pg,⟨sp,sd,ss,sh⟩⟩:=p;unfold PartC at hQ3;dsimp only[partA] at HPY hQ3;have HQ2:=qq hQ3;clear hp hpg hpr hsc hrow hgp hcl c3 hsb hg hpc hQ3 ha hma hv6 hex hu hrg hrow2 hg2 hcl2 hvn hcl8;have hne:=partNe pn pq pg sp sd ss sh
        obtain⟨⟨xl,gl,gal,q3,⟨e0,e1,e2,e3,e4,e5,e6⟩,r0,r1,r2,r3,r4,r5,r6⟩,g2l,q2,u0,u1,u2,u3,u4,u5,u6,u7⟩:=HQ2.out _ (Below.refl _ _);go_wp2_with fail;clear xl gl gal q3 e0 e1 e2 e3 e4 e5 e6 r0 r1 r2 r3 r4 r5 r6 g2l q2 u0 u1 u2 u3 u4 u5 u6 u7;refine(HPY.out _ (H.out.below (bel_alloc (Below.refl wr.heap.size wr) _))).mono ?_;rintro e wr41 ⟨rfl,hb41⟩;have HRG:=qq (row_be (row_al HRG.out _) hb41)
        have K41:=qq ((Blk.fresh _ _ _ (wr.heap.size) (by simp)).below hb41);have HB:=qq (below_then (bel_alloc (Below.refl wr.heap.size wr) _) hb41);have z41:=HB.out.size;clear hb41;have o42K41:=K41.out.lt;obtain⟨⟨xl,gl,gal,q3,⟨e0,e1,e2,e3,e4,e5,e6⟩,r0,r1,r2,r3,r4,r5,r6⟩,g2l,q2,u0,u1,u2,u3,u4,u5,u6,u7⟩:=HQ2.out _ HB.out;obtain⟨lK41,qK41,fK41⟩:=K41.out;go_wp2_with fail
        clear qK41 fK41 lK41 xl gl gal q3 e0 e1 e2 e3 e4 e5 e6 r0 r1 r2 r3 r4 r5 r6 g2l q2 u0 u1 u2 u3 u4 u5 u6 u7;refine(HCH.out _ (H.out.below (bel_alloc HB.out _))).mono ?_;rintro e wr42 ⟨v',rfl,ho,hb42⟩;obtain⟨fa,fc,rfl,_,_⟩:=reg_row ho;have HRG:=qq (row_be (row_al HRG.out _) hb42);have K41:=qq ((K41.out.alloc _).below hb42)
        have K42:=qq ((Blk.fresh _ _ _ (wr41.heap.size) (by simp)).below hb42);have HB:=qq (below_then (bel_alloc HB.out _) hb42);have z42:=HB.out.size;clear hb42;have HO:=qq (ho)
        (try clear ho)
        have o43K41:=K41.out.lt;have o43K42:=K42.out.lt;obtain⟨⟨xl,gl,gal,q3,⟨e0,e1,e2,e3,e4,e5,e6⟩,r0,r1,r2,r3,r4,r5,r6⟩,g2l,q2,u0,u1,u2,u3,u4,u5,u6,u7⟩:=HQ2.out _ HB.out;obtain⟨lK41,qK41,fK41⟩:=K41.out;obtain⟨lK42,qK42,fK42⟩:=K42.out;go_wp2_with fail;clear qK41 fK41 lK41 qK42 fK42 lK42 xl gl gal q3 e0 e1 e2 e3 e4 e5 e6 r0 r1 r2 r3 r4 r5 r6 g2l q2 u0 u1 u2 u3 u4 u5 u6 u7
        refine(HRC.out _ (HR.out.below (bel_alloc HB.out _))).mono ?_;rintro e wr43 ⟨rfl,hb43⟩;have HRG:=qq (row_be (row_al HRG.out _) hb43);have K41:=qq ((K41.out.alloc _).below hb43);have K42:=qq ((K42.out.alloc _).below hb43);have HO:=qq (row_be (row_al HO.out _) hb43);have K43:=qq ((Blk.fresh _ _ _ (wr42.heap.size) (by simp)).below hb43);have HB:=qq (below_then (bel_alloc HB.out _) hb43)
        have z43:=HB.out.size;clear hb43;obtain⟨⟨xl,gl,gal,q3,⟨e0,e1,e2,e3,e4,e5,e6⟩,r0,r1,r2,r3,r4,r5,r6⟩,g2l,q2,u0,u1,u2,u3,u4,u5,u6,u7⟩:=HQ2.out _ HB.out;obtain⟨lK41,qK41,fK41⟩:=K41.out;obtain⟨lK42,qK42,fK42⟩:=K42.out;obtain⟨lK43,qK43,fK43⟩:=K43.out;go_wp2_with fail
        clear qK41 fK41 lK41 qK42 fK42 lK42 qK43 fK43 lK43 xl gl gal q3 e0 e1 e2 e3 e4 e5 e6 r0 r1 r2 r3 r4 r5 r6 g2l q2 u0 u1 u2 u3 u4 u5 u6 u7;refine reg_start (fun w'=>World.ownsRow w' _ _ _ _ _ _∧Blk w' _ _∧Blk w' _ _∧World.ownsRow w' _ _ _ _ _ _∧Blk w' _ _∧Below wr.heap.size wr w') (by kernel_rfl) ⟨(row_dr HRG.out),K41.out.drew,K42.out.drew,(row_dr HO.out),K43.out.drew,(bel_drew HB.out)⟩ ?_
        rintro wr44 hHeld;obtain⟨HRG',K41',K42',HO',K43',HB'⟩:=id hHeld;have HRG:=qq HRG';have K41:=qq K41';have K42:=qq K42';have HO:=qq HO';have K43:=qq K43';have HB:=qq HB';clear HRG' K41' K42' HO' K43' HB';have z44:=HB.out.size;refine takeM (d:=some 128) 0 rfl rfl hHeld (fun w' hS'=>by have qA:=hS'.2.1.cell;clear hS';go_simp;(try rfl)) ?_;simp only[puts]
        refine takeM (d:=some 130) 2 rfl rfl hHeld (fun w' _=>by go_simp;(try rfl)) ?_;simp only[puts];refine takeM (d:=some 131) 3 rfl rfl hHeld (fun w' _=>by go_simp;(try rfl)) ?_;simp only[puts];refine takeM (d:=some 132) 4 rfl rfl hHeld (fun w' _=>by go_simp;(try rfl)) ?_;simp only[puts]
        refine takeM (d:=some 133) 5 rfl rfl hHeld (fun w' hS'=>by obtain⟨⟨xl,gl,gal,q3,⟨e0,e1,e2,e3,e4,e5,e6⟩,r0,r1,r2,r3,r4,r5,r6⟩,g2l,q2,u0,u1,u2,u3,u4,u5,u6,u7⟩:=HQ2.out _ hS'.2.2.2.2.2;clear hS';go_simp;(try rfl)) ?_;simp only[puts];refine takeM (d:=some 134) 6 rfl rfl hHeld (fun w' _=>by go_simp;(try rfl)) ?_;simp only[puts]
        refine takeM (d:=some 135) 7 rfl rfl hHeld (fun w' _=>by go_simp;(try rfl)) ?_;simp only[puts];refine takeM (d:=some 136) 8 rfl rfl hHeld (fun w' hS'=>by obtain⟨⟨xl,gl,gal,q3,⟨e0,e1,e2,e3,e4,e5,e6⟩,r0,r1,r2,r3,r4,r5,r6⟩,g2l,q2,u0,u1,u2,u3,u4,u5,u6,u7⟩:=HQ2.out _ hS'.2.2.2.2.2;clear hS';go_simp;(try rfl)) ?_;simp only[puts];refine one_M 1 (by kernel_rfl) ?_
        refine wpOp_call (d:=some 129) 1 98 _ _ [.agg #[pn,pq,pg,sp,sd,ss,sh]] rfl rfl rfl (enters_of Tryz.func98 (by kernel_rfl) rfl) (by rfl) (by rfl) ?_;refine(part15_of pn pq pg sp sd ss sh _).mono ?_;rintro e wr45 ⟨rfl,hb45⟩;clear hHeld;have HRG:=qq (row_be HRG.out hb45);have K41:=qq (K41.out.below hb45);have K42:=qq (K42.out.below hb45);have HO:=qq (row_be HO.out hb45)
        have K43:=qq (K43.out.below hb45);have HB:=qq (below_then HB.out hb45);have z45:=HB.out.size;clear hb45;refine ret_S ⟨HRG.out,K41.out,K42.out,HO.out,K43.out,HB.out⟩ (fun hHeld=> ?_);simp only[puts];refine takeM (d:=some 137) 9 rfl rfl hHeld (fun w' _=>by go_simp;(try rfl)) ?_;simp only[puts];refine takeM (d:=some 138) 10 rfl rfl hHeld (fun w' _=>by go_simp;(try rfl)) ?_;simp only[puts]
        refine takeM (d:=some 139) 11 rfl rfl hHeld (fun w' _=>by go_simp;(try rfl)) ?_;simp only[puts];refine takeM (d:=some 140) 12 rfl rfl hHeld (fun w' _=>by go_simp;(try rfl)) ?_;simp only[puts];refine takeM (d:=some 141) 13 rfl rfl hHeld (fun w' _=>by go_simp;(try rfl)) ?_;simp only[puts];refine takeM (d:=some 142) 14 rfl rfl hHeld (fun w' _=>by go_simp;(try rfl)) ?_;simp only[puts]
        refine takeM (d:=some 143) 15 rfl rfl hHeld (fun w' hS'=>by have qA:=hS'.2.2.1.cell;clear hS';go_simp;(try rfl)) ?_;simp only[puts];refine takeM (d:=some 145) 17 rfl rfl hHeld (fun w' _=>by go_simp;(try rfl)) ?_;simp only[puts];refine takeM (d:=some 146) 18 rfl rfl hHeld (fun w' _=>by go_simp;(try rfl)) ?_;simp only[puts]
        refine takeM (d:=some 147) 19 rfl rfl hHeld (fun w' _=>by go_simp;(try rfl)) ?_;simp only[puts];refine takeM (d:=some 148) 20 rfl rfl hHeld (fun w' hS'=>by obtain⟨⟨xl,gl,gal,q3,⟨e0,e1,e2,e3,e4,e5,e6⟩,r0,r1,r2,r3,r4,r5,r6⟩,g2l,q2,u0,u1,u2,u3,u4,u5,u6,u7⟩:=HQ2.out _ hS'.2.2.2.2.2;clear hS';go_simp;(try rfl)) ?_;simp only[puts]
        refine takeM (d:=some 149) 21 rfl rfl hHeld (fun w' _=>by go_simp;(try rfl)) ?_;simp only[puts];refine takeM (d:=some 150) 22 rfl rfl hHeld (fun w' _=>by go_simp;(try rfl)) ?_;simp only[puts]
        refine takeM (d:=some 151) 23 rfl rfl hHeld (fun w' hS'=>by obtain⟨⟨xl,gl,gal,q3,⟨e0,e1,e2,e3,e4,e5,e6⟩,r0,r1,r2,r3,r4,r5,r6⟩,g2l,q2,u0,u1,u2,u3,u4,u5,u6,u7⟩:=HQ2.out _ hS'.2.2.2.2.2;clear hS';go_simp;(try rfl)) ?_;simp only[puts];refine one_M 16 (by kernel_rfl) ?_
        refine wpOp_call (d:=some 144) 16 98 _ _ [.agg #[pn,pq,pg,sp,sd,ss,sh]] rfl rfl rfl (enters_of Tryz.func98 (by kernel_rfl) rfl) (by rfl) (by rfl) ?_;refine(part15_of pn pq pg sp sd ss sh _).mono ?_;rintro e wr46 ⟨rfl,hb46⟩;clear hHeld;have HRG:=qq (row_be HRG.out hb46);have K41:=qq (K41.out.below hb46);have K42:=qq (K42.out.below hb46);have HO:=qq (row_be HO.out hb46)
        have K43:=qq (K43.out.below hb46);have HB:=qq (below_then HB.out hb46);have z46:=HB.out.size;clear hb46;refine ret_S ⟨HRG.out,K41.out,K42.out,HO.out,K43.out,HB.out⟩ (fun hHeld=> ?_);simp only[puts];refine takeM (d:=some 152) 24 rfl rfl hHeld (fun w' _=>by go_simp;(try rfl)) ?_;simp only[puts];refine takeM (d:=some 153) 25 rfl rfl hHeld (fun w' _=>by go_simp;(try rfl)) ?_;simp only[puts]
        refine takeM (d:=some 154) 26 rfl rfl hHeld (fun w' _=>by go_simp;(try rfl)) ?_;simp only[puts];refine takeM (d:=some 155) 27 rfl rfl hHeld (fun w' _=>by go_simp;(try rfl)) ?_;simp only[puts];refine takeM (d:=some 156) 28 rfl rfl hHeld (fun w' _=>by go_simp;(try rfl)) ?_;simp only[puts];refine takeM (d:=some 157) 29 rfl rfl hHeld (fun w' _=>by go_simp;(try rfl)) ?_;simp only[puts]
        refine takeM (d:=some 158) 30 rfl rfl hHeld (fun w' _=>by go_simp;(try rfl)) ?_;simp only[puts];refine takeM (d:=some 159) 31 rfl rfl hHeld (fun w' _=>by go_simp;(try rfl)) ?_;simp only[puts];refine takeM (d:=some 160) 32 rfl rfl hHeld (fun w' _=>by go_simp;(try rfl)) ?_;simp only[puts];refine takeM (d:=some 161) 33 rfl rfl hHeld (fun w' _=>by go_simp;(try rfl)) ?_;simp only[puts]
        refine takeM (d:=some 162) 34 rfl rfl hHeld (fun w' _=>by go_simp;(try rfl)) ?_;simp only[puts];refine takeM (d:=some 163) 35 rfl rfl hHeld (fun w' hS'=>by have qA:=hS'.2.2.2.2.1.cell;clear hS';go_simp;(try rfl)) ?_;simp only[puts];refine takeM (d:=some 165) 37 rfl rfl hHeld (fun w' _=>by go_simp;(try rfl)) ?_;simp only[puts]
        refine takeM (d:=some 166) 38 rfl rfl hHeld (fun w' _=>by go_simp;(try rfl)) ?_;simp only[puts];refine takeM (d:=some 167) 39 rfl rfl hHeld (fun w' _=>by go_simp;(try rfl)) ?_;simp only[puts]
        refine takeM (d:=some 168) 40 rfl rfl hHeld (fun w' hS'=>by obtain⟨⟨xl,gl,gal,q3,⟨e0,e1,e2,e3,e4,e5,e6⟩,r0,r1,r2,r3,r4,r5,r6⟩,g2l,q2,u0,u1,u2,u3,u4,u5,u6,u7⟩:=HQ2.out _ hS'.2.2.2.2.2;clear hS';go_simp;(try rfl)) ?_;simp only[puts];refine takeM (d:=some 169) 41 rfl rfl hHeld (fun w' _=>by go_simp;(try rfl)) ?_;simp only[puts]
        refine takeM (d:=some 170) 42 rfl rfl hHeld (fun w' _=>by go_simp;(try rfl)) ?_;simp only[puts];refine takeM (d:=some 171) 43 rfl rfl hHeld (fun w' hS'=>by obtain⟨⟨xl,gl,gal,q3,⟨e0,e1,e2,e3,e4,e5,e6⟩,r0,r1,r2,r3,r4,r5,r6⟩,g2l,q2,u0,u1,u2,u3,u4,u5,u6,u7⟩:=HQ2.out _ hS'.2.2.2.2.2;clear hS';go_simp;(try rfl)) ?_;simp only[puts];refine one_M 36 (by kernel_rfl) ?_
        refine wpOp_call (d:=some 164) 36 97 _ _ [.agg #[an,aq,oc,dp,.float .f64 ex,pa,de,.slice fa vn fc]] rfl rfl rfl (enters_of Tryz.func97 (by kernel_rfl) rfl) (by rfl) (by rfl) ?_;refine(HAC.out _ _ _ _ HO.out).mono ?_;rintro e wr47 ⟨b1,d1,rfl,hrow1,hb47⟩;clear hHeld;have HRG:=qq (row_be HRG.out hb47);have K41:=qq (K41.out.below hb47);have K42:=qq (K42.out.below hb47)
        have HO:=qq (row_be HO.out hb47);have K43:=qq (K43.out.below hb47);have HB:=qq (below_then HB.out hb47);have z47:=HB.out.size;clear hb47;have HD1:=qq (hrow1)
        (try clear hrow1)
        refine ret_S ⟨HRG.out,K41.out,K42.out,HO.out,K43.out,HB.out⟩ (fun hHeld=> ?_);simp only[puts];refine one_M 44 (by kernel_rfl) ?_;refine wpOp_call (d:=some 172) 44 96 _ _ [.agg #[an,aq,oc,dp,.float .f64 ex,pa,de,.slice b1 vn d1],.agg #[an,aq,oc,dp,.float .f64 ex,pa,de,.slice va vn vc]] rfl rfl rfl (enters_of Tryz.func96 (by kernel_rfl) rfl) (by rfl) (by rfl) ?_
        refine(HSA.out _ _ _ _ _ _ _ _ _ HD1.out HRG.out).mono ?_;rintro e wr48 ⟨rfl,hb48⟩;clear hHeld;have HRG:=qq (row_be HRG.out hb48);have K41:=qq (K41.out.below hb48);have K42:=qq (K42.out.below hb48);have HO:=qq (row_be HO.out hb48);have K43:=qq (K43.out.below hb48);have HD1:=qq (row_be HD1.out hb48);have HB:=qq (below_then HB.out hb48);have z48:=HB.out.size;clear hb48
        refine ret_S ⟨HRG.out,K41.out,K42.out,HO.out,K43.out,HB.out⟩ (fun hHeld=> ?_);simp only[puts];refine takeM (d:=some 173) 45 rfl rfl hHeld (fun w' _=>by go_simp;(try rfl)) ?_;simp only[puts];refine takeM (d:=some 174) 46 rfl rfl hHeld (fun w' _=>by go_simp;(try rfl)) ?_;simp only[puts];refine takeM (d:=some 175) 47 rfl rfl hHeld (fun w' _=>by go_simp;(try rfl)) ?_;simp only[puts]
        refine doneM (by kernel_rfl) ?_ _;clear hHeld;go_wp2_with fail
        all_goals (go_roundw<;>first | exact⟨j+1,by omega,by go_num,below_then hB HB.out⟩ | (simp[intOf];omega))
     · obtain rfl:j=m:=by omega
       have HPN:=qq (fun W hW=>part_no L S (j:Int) W hW (by
         unfold pGet;rw[if_pos (by omega),Int.toNat_natCast];exact List.getElem?_eq_none_iff.2 (by rw[←HM.out];exact Nat.le_refl _)))
       have HCO:=qq (fun W hW=>Child_out L S (-1) W hW HG.out (by omega));unfold ChildOut at HCO;simp only[partA,part0] at HPN;go_wp2_with fail;refine(HPN.out _ (H.out.below (Below.refl wr.heap.size wr))).mono ?_;rintro e wr61 ⟨rfl,hb61⟩;have HB:=qq (below_then (Below.refl wr.heap.size wr) hb61);have z61:=HB.out.size;clear hb61;go_wp2_with fail
       refine(HCO.out _ (H.out.below (bel_alloc HB.out _))).mono ?_;rintro e wr62 ⟨y1,y2,y3,y4,y5,y6,y7,y8,y9,y10,rfl,hb62⟩;have HB:=qq (below_then (bel_alloc HB.out _) hb62);have z62:=HB.out.size;clear hb62;go_wp2_with fail;refine bodyPost_ret (v:=.bool true) (by simp[results,Tryz.results23,go_sem]) rfl ?_;exact⟨rfl,below_then BW (bel_alloc HB.out _)⟩
theorem rnopart7 (R : RLoc) (S : Sto) (f : SFact) (w : World) (hx : F64 f.ex) (h : RStoreAt R S w) (hok : fok f = true) (hk : f.k = 7) (hi : (S.parts.length : Int) ≤ f.pt) :
    Calls Tryz.prog 22 #[.pointer (some ⟨R.sb,0,none⟩),factV f] w (RApplyEnds R S 9 w):=by
 have hR:=fun W=>rright14_of f hx W
 rw[hok] at hR;obtain⟨a,cap,hv,hn,hr⟩:=part_row h.parts;have HR:=qq hR;have H:=qq h;have hsb:=h.blk.lt;obtain⟨n,hnn⟩:∃n,n=S.parts.length:=⟨_,rfl⟩
 rw[←hnn] at hv hi;have HQ:=qq (fun W (hW:RStoreAt R S W)=>(show W.cell? ⟨R.sb,3,none⟩=some (.slice a n cap) by rw[←hv];exact hW.blk.cell 3));obtain⟨k,an,aq,rg,nd,pt,pr,oc,dp,pa,st,hw,de,ex⟩:=f;dsimp only at hi hk;subst hk;dsimp only[factV,factC] at*;clear hR h hok hx hnn hn hr hv;go_enter Tryz.func22,Tryz.ntmps22;go_wp2_with fail
 (with_reducible refine(HR.out _).mono ?_)
 rintro e w1 ⟨rfl,hb1⟩;have B1:Below w.heap.size w w1:=below_then (by go_grown) hb1;have HK1:=qq ((Blk.fresh w #[.int .i64 7,an,aq,rg,nd,pt,pr,oc,dp,pa,st,hw,de,.float .f64 ex] 42 _ rfl).below hb1);have hz1:=hb1.size;simp only[World.size_alloc] at hz1;have hs1:R.sb<w1.heap.size:=by omega
 have hs2:w.heap.size<w1.heap.size:=by omega
 obtain⟨q,qf⟩:=HK1.out.out;have c3:=HQ.out _ (H.out.below B1);have hi3:decide ((n:Int)≤pt)=true:=decide_eq_true hi;go_wp2_with fail;go_region
 all_goals go_wp2_with fail
 all_goals go_ret
 all_goals exact⟨rfl,RGoes.same H.out (below_then B1 (by go_grown))⟩
theorem rpart7_yes (R : RLoc) (S : Sto) (f : SFact) (i : Nat) (p : SPart) (w : World) (hx : F64 f.ex) (h : RStoreAt R S w) (hok : fok f = true) (hk : f.k = 7) (hi : f.pt = (i : Int)) (hp : S.parts[i]? = some p) (hr7 : p.rg = -1) :
    Calls Tryz.prog 22 #[.pointer (some ⟨R.sb,0,none⟩),factV f] w (RApplyEnds R {S with parts:=S.parts.set i {p with rg:=f.rg}} 0 w):=by
 have hR:=fun W=>rright14_of f hx W
 rw[hok] at hR;obtain⟨a,cap,hv,hn,hr⟩:=part_row h.parts;have hil:=(List.getElem?_eq_some_iff.1 hp).1;obtain⟨g,rfl,hg,hfz,hcell⟩:=hr (by omega);have hcl:=hcell i p hp;have HG:=qq (fun w2 (hb:Below w.heap.size w w2)=>rrg_part_goes h hb hv hp f.rg);obtain⟨n,hnn⟩:∃n,n=S.parts.length:=⟨_,rfl⟩
 rw[←hnn] at hv hil;have HR:=qq hR;have HCL:=qq hcl;have HFZ:=qq hfz;have hsb:=h.blk.lt;have HQ:=qq (show w.cell? ⟨R.sb,3,none⟩=some (.slice (some ⟨g,0,none⟩) n cap) by rw[←hv];exact h.blk.cell 3);have hi0:(0:Int)≤(i:Int):=by omega
 have hi1:(i:Int)<(n:Int):=by omega
 have hi2:¬(n:Int)≤(i:Int):=by omega
 have hi3:decide ((n:Int)≤(i:Int))=false:=decide_eq_false hi2;have hi4:¬n≤i:=by omega
 have hi5:decide (n≤i)=false:=decide_eq_false hi4;obtain⟨pan,paq,prg,⟨sp,sd,ss,sh⟩⟩:=p;obtain⟨k,an,aq,rg,nd,pt,pr,oc,dp,pa,st,hw,de,ex⟩:=f;dsimp only at hi hk;subst hk;subst hi;dsimp only[factV,factC] at*;subst hr7;clear hR h hok hx hnn hn hr hv hcl hcell hp hfz;go_enter Tryz.func22,Tryz.ntmps22;go_wp2_with fail
 (with_reducible refine(HR.out _).mono ?_)
 rintro e w1 ⟨rfl,hb1⟩;have B1:Below w.heap.size w w1:=below_then (by go_grown) hb1;have HK1:=qq ((Blk.fresh w #[.int .i64 7,an,aq,rg,nd,(i:Int),pr,oc,dp,pa,st,hw,de,.float .f64 ex] 42 _ rfl).below hb1);have hz1:=hb1.size;simp only[World.size_alloc] at hz1;have hs1:R.sb<w1.heap.size:=by omega
 have hs2:w.heap.size<w1.heap.size:=by omega
 obtain⟨q,qf⟩:=HK1.out.out;have hg1:g<w1.heap.size:=by omega
 obtain⟨pc0,pc1,pc2,pc3,pc4,pc5,pc6⟩:=PartC.below HCL.out B1 hg;have f1:∀j,w1.frozen? ⟨g,j,none⟩=false:=fun j=>(B1.frozen (p:=⟨g,j,none⟩) hg).trans (HFZ.out j)
 have c3:=(B1.cell (p:=⟨R.sb,3,none⟩) hsb).trans HQ.out;dsimp only at pc0 pc1 pc2 pc3 pc4 pc5 pc6;clear pc0 pc1 pc3 pc4 pc5 pc6;go_wp2_with fail;go_region
 all_goals go_wp2_with fail
 go_region
 all_goals go_wp2_with fail
 all_goals go_ret
 all_goals exact⟨rfl,(HG.out _ (below_then B1 (by go_grown))).then_below (by go_grown)⟩
theorem rpart7_no (R : RLoc) (S : Sto) (f : SFact) (i : Nat) (p : SPart) (w : World) (hx : F64 f.ex) (h : RStoreAt R S w) (hok : fok f = true) (hk : f.k = 7) (hi : f.pt = (i : Int)) (hp : S.parts[i]? = some p) (hr7 : 0 ≤ p.rg) :
    Calls Tryz.prog 22 #[.pointer (some ⟨R.sb,0,none⟩),factV f] w (RApplyEnds R S 9 w):=by
 have hR:=fun W=>rright14_of f hx W
 rw[hok] at hR;obtain⟨a,cap,hv,hn,hr⟩:=part_row h.parts;have hil:=(List.getElem?_eq_some_iff.1 hp).1;obtain⟨g,rfl,hg,hfz,hcell⟩:=hr (by omega);have hcl:=hcell i p hp;have HG:=qq (fun w2 (hb:Below w.heap.size w w2)=>RGoes.same h hb);obtain⟨n,hnn⟩:∃n,n=S.parts.length:=⟨_,rfl⟩
 rw[←hnn] at hv hil;have HR:=qq hR;have HCL:=qq hcl;have HFZ:=qq hfz;have hsb:=h.blk.lt;have HQ:=qq (show w.cell? ⟨R.sb,3,none⟩=some (.slice (some ⟨g,0,none⟩) n cap) by rw[←hv];exact h.blk.cell 3);have hi0:(0:Int)≤(i:Int):=by omega
 have hi1:(i:Int)<(n:Int):=by omega
 have hi2:¬(n:Int)≤(i:Int):=by omega
 have hi3:decide ((n:Int)≤(i:Int))=false:=decide_eq_false hi2;have hi4:¬n≤i:=by omega
 have hi5:decide (n≤i)=false:=decide_eq_false hi4;obtain⟨pan,paq,prg,⟨sp,sd,ss,sh⟩⟩:=p;obtain⟨k,an,aq,rg,nd,pt,pr,oc,dp,pa,st,hw,de,ex⟩:=f;dsimp only at hi hk;subst hk;subst hi;dsimp only[factV,factC] at*;have hr8:decide ((0:Int)≤prg)=true:=decide_eq_true hr7;clear hR h hok hx hnn hn hr hv hcl hcell hp hfz;go_enter Tryz.func22,Tryz.ntmps22;go_wp2_with fail
 (with_reducible refine(HR.out _).mono ?_)
 rintro e w1 ⟨rfl,hb1⟩;have B1:Below w.heap.size w w1:=below_then (by go_grown) hb1;have HK1:=qq ((Blk.fresh w #[.int .i64 7,an,aq,rg,nd,(i:Int),pr,oc,dp,pa,st,hw,de,.float .f64 ex] 42 _ rfl).below hb1);have hz1:=hb1.size;simp only[World.size_alloc] at hz1;have hs1:R.sb<w1.heap.size:=by omega
 have hs2:w.heap.size<w1.heap.size:=by omega
 obtain⟨q,qf⟩:=HK1.out.out;have hg1:g<w1.heap.size:=by omega
 obtain⟨pc0,pc1,pc2,pc3,pc4,pc5,pc6⟩:=PartC.below HCL.out B1 hg;have f1:∀j,w1.frozen? ⟨g,j,none⟩=false:=fun j=>(B1.frozen (p:=⟨g,j,none⟩) hg).trans (HFZ.out j)
 have c3:=(B1.cell (p:=⟨R.sb,3,none⟩) hsb).trans HQ.out;dsimp only at pc0 pc1 pc2 pc3 pc4 pc5 pc6;clear pc0 pc1 pc3 pc4 pc5 pc6;go_wp2_with fail;go_region
 all_goals go_wp2_with fail
 all_goals go_ret
 all_goals exact⟨rfl,HG.out _ (below_then B1 (by go_grown))⟩
theorem rapply_of (R : RLoc) (S : Sto) (f : SFact) (w : World) (hx : F64 f.ex) (h : RStoreAt R S w) (hG : StoGood S) :
    Calls Tryz.prog 22 #[.pointer (some ⟨R.sb,0,none⟩),factV f] w (RApplyEnds R (sapply S f).1 (sapply S f).2 w):=by
 cases hok:fok f with
 | false=>
  have e:sapply S f=(S,4):=by unfold sapply;rw[if_pos hok]
  rw[e];exact rapply_bad R S f w hx h hok
 | true=>
  have hs:∀T,sput S f=some T→sapply S f=(T,0):=fun T hT=>by unfold sapply;rw[if_neg (by rw[hok];simp),hT]
  have hn:sput S f=none→sapply S f=(S,9):=fun hT=>by unfold sapply;rw[if_neg (by rw[hok];simp),hT]
  have hkk:=fok_any hok;by_cases k1:f.k=1
  · obtain⟨f1,f2,f3⟩:=fok1 hok k1;have fi:=ctxOk_id f1;by_cases c1:f.an=S.node
    case neg=>
     have e:sput S f=none:=by unfold sput;rw[if_pos k1,if_pos (.inl c1)]
     rw[hn e];exact ropen_no1 R S f w hx h hok k1 c1
    by_cases c2:S.next≤f.aq
    case neg=>
     have e:sput S f=none:=by unfold sput;rw[if_pos k1,if_pos (.inr (.inl (by omega)))]
     rw[hn e];exact ropen_no2 R S f w hx h hok k1 c1 (by omega)
    by_cases c3:S.acts.length<8
    case neg=>
     have e:sput S f=none:=by unfold sput;rw[if_pos k1,if_pos (.inr (.inr (.inl (by omega))))]
     rw[hn e];exact ropen_no3 R S f w hx h hok k1 c1 c2 (by omega)
    by_cases c4:0<f.pa→f.pa≤(S.parts.length:Int)∧schild S f.pa=none
    · have e:sput S f=some {S with next:=f.aq+1,acts:=S.acts ++ [⟨f.an,f.aq,f.oc,f.dp,f.ex,f.pa,0,[]⟩]}:=by
       unfold sput;rw[if_pos k1,if_neg];rintro(e | e | e | ⟨e1,e2⟩)
       · exact e c1
       · omega
       · omega
       · obtain⟨q1,q2⟩:=c4 e1;rcases e2 with e2 | e2
         · omega
         · rw[q2] at e2;cases e2
      rw[hs _ e];by_cases c5:0<f.pa
      · exact ropen_yes2 R S f w hx h hok k1 ⟨fi.2.2.1,fi.2.2.2⟩ ⟨f2,f3⟩ c1 c2 c3 c5 (c4 c5).1 (c4 c5).2
      · exact ropen_yes1 R S f w hx h hok k1 ⟨fi.2.2.1,fi.2.2.2⟩ ⟨f2,f3⟩ c1 c2 c3 (by omega)
    · have c5:0<f.pa:=Decidable.byContradiction fun e=>c4 (fun e'=>absurd e' e)
      by_cases c6:f.pa≤(S.parts.length:Int)
      · cases hc:schild S f.pa with
        | none=>exact absurd (fun _=>⟨c6,hc⟩) c4
        | some i=>
         have e:sput S f=none:=by unfold sput;rw[if_pos k1,if_pos (.inr (.inr (.inr ⟨c5,.inr (by rw[hc];rfl)⟩)))]
         rw[hn e];exact ropen_no5 R S f w hx h hok k1 hG.acts c1 c2 c3 c5 f3 c6 i hc
      · have e:sput S f=none:=by unfold sput;rw[if_pos k1,if_pos (.inr (.inr (.inr ⟨c5,.inl (by omega)⟩)))]
        rw[hn e];exact ropen_no4 R S f w hx h hok k1 hG.acts c1 c2 c3 c5 f3 (by omega)
  by_cases k6:f.k=6
  · obtain⟨f1,f2,f3,f4,f5⟩:=fok6 hok k6;by_cases c:f.pt=(S.parts.length:Int)
    · have e:sput S f=some {S with parts:=S.parts ++ [⟨f.an,f.aq,-1,⟨f.pr,2,1,0⟩⟩]}:=by unfold sput;rw[if_neg k1,if_pos k6,if_neg (by simp[c])]
      rw[hs _ e];exact rjoin_yes R S f w hx h hok k6 hG.parts c
    · have e:sput S f=none:=by unfold sput;rw[if_neg k1,if_pos k6,if_pos c]
      rw[hn e];exact rjoin_no R S f w hx h hok k6 c
  by_cases k78:f.k=7∨f.k=8
  · have h0:0≤f.pt:=by
     rcases k78 with k | k
     · exact(fok7 hok k).1
     · exact(fok8 hok k).1
    by_cases c:f.pt<(S.parts.length:Int)
    case neg=>
     have e:sput S f=none:=by
      unfold sput;rw[if_neg k1,if_neg k6,if_pos k78,List.getElem?_eq_none (by omega)]
     rw[hn e];rcases k78 with k7 | k8
     · exact rnopart7 R S f w hx h hok k7 (by omega)
     · exact rnopart8 R S f w hx h hok k8 (by omega)
    obtain⟨i,hi⟩:∃i:Nat,f.pt=(i:Int):=⟨f.pt.toNat,by omega⟩
    have hil:i<S.parts.length:=by omega
    have hp:S.parts[i]? =some S.parts[i]:=List.getElem?_eq_getElem hil;have hit:f.pt.toNat=i:=by omega
    obtain⟨p,hpe⟩:∃p,p=S.parts[i]:=⟨_,rfl⟩
    rw[←hpe] at hp;by_cases k8:f.k=8
    · cases ht:sturn p.seat f.st f.hw with
      | none=>
       have e:sput S f=none:=by
        unfold sput;rw[if_neg k1,if_neg k6,if_pos k78,hit,hp];simp only;rw[if_pos k8,ht];rfl
       rw[hn e];exact rpart8_no R S f i p w hx h hok k8 hi hp (turnOk_none ht)
      | some t=>
       have e:sput S f=some {S with parts:=S.parts.set i {p with seat:=t}}:=by
        unfold sput;rw[if_neg k1,if_neg k6,if_pos k78,hit,hp];simp only;rw[if_pos k8,ht];rfl
       rw[hs _ e];obtain⟨q1,q2⟩:=turnOk_some ht;subst q2;exact rpart8_yes R S f i p w hx h hok k8 hi hp q1
    · have k7:=k78.resolve_right k8;by_cases hr:p.rg= -1
      · have e:sput S f=some {S with parts:=S.parts.set i {p with rg:=f.rg}}:=by
         unfold sput;rw[if_neg k1,if_neg k6,if_pos k78,hit,hp];simp only;rw[if_neg k8,if_neg (by simp[hr])]
        rw[hs _ e];exact rpart7_yes R S f i p w hx h hok k7 hi hp hr
      · have e:sput S f=none:=by
         unfold sput;rw[if_neg k1,if_neg k6,if_pos k78,hit,hp];simp only;rw[if_neg k8,if_pos hr]
        rw[hn e];exact rpart7_no R S f i p w hx h hok k7 hi hp (by have:=(hG.part p (List.mem_of_getElem? hp)).2.1;omega)
  have hk4:f.k≠1∧f.k≠6∧f.k≠7∧f.k≠8:=⟨k1,k6,fun e=>k78 (.inl e),fun e=>k78 (.inr e)⟩
  cases hi:sfind S f.an f.aq with
  | none=>
   have e:sput S f=none:=by unfold sput;rw[if_neg k1,if_neg k6,if_neg k78,hi]
   rw[hn e];exact rapply_noact R S f w hx h hG.acts hok hk4 hi
  | some i=>
   have hil:i<S.acts.length:=by unfold sfind at hi;exact(List.findIdx?_eq_some_iff_getElem.1 hi).1
   obtain⟨a,ha⟩:∃a,S.acts[i]? =some a:=⟨_,List.getElem?_eq_getElem hil⟩
   obtain⟨x,hxi⟩:∃x,R.rv[i]? =some x:=⟨_,List.getElem?_eq_getElem (by rw[h.len];exact hil)⟩
   have hA:=hG.act a (List.mem_of_getElem? ha);have hl:=hA.len;have hsp:sput S f=if f.k=5 then(if(a.regs.any fun r=>decide (r.seat.s≠14))=true then none else some {S with acts:=S.acts.take i ++S.acts.drop (i+1)}) else(sact a f).map fun b=>{S with acts:=S.acts.set i b}:=by
    unfold sput;rw[if_neg k1,if_neg k6,if_neg k78,hi];simp only;rw[ha]
   have yes:∀T,sput S f=some T→(∀W,Below w.heap.size w W→Calls Tryz.prog 93 #[.pointer (some ⟨R.sb,0,none⟩),.int .i64 (i:Int),factV f] W fun e w'=>e=.returned (.bool true)∧RGoes R T W w')→Calls Tryz.prog 22 #[.pointer (some ⟨R.sb,0,none⟩),factV f] w (RApplyEnds R (sapply S f).1 (sapply S f).2 w):=fun T hT hC=>by
    rw[hs _ hT];exact rapply_act R S T f i true w hx h hG.acts hok hk4 hi hC
   have no:sput S f=none→(∀W,Below w.heap.size w W→Calls Tryz.prog 93 #[.pointer (some ⟨R.sb,0,none⟩),.int .i64 (i:Int),factV f] W fun e w'=>e=.returned (.bool false)∧RGoes R S W w')→Calls Tryz.prog 22 #[.pointer (some ⟨R.sb,0,none⟩),factV f] w (RApplyEnds R (sapply S f).1 (sapply S f).2 w):=fun hT hC=>by
    rw[hn hT];exact rapply_act R S S f i false w hx h hG.acts hok hk4 hi hC
   have hxl:∀W,Below w.heap.size w W→RStoreAt R S W:=fun W hW=>h.below hW
   by_cases k5:f.k=5
   · rw[if_pos k5] at hsp
     cases hany:(a.regs.any fun r=>decide (r.seat.s≠14)) with
     | true=>
      rw[hany,if_pos rfl] at hsp;exact no hsp (fun W hW=>ract5_no R S f i a x W (hxl W hW) hG.acts k5 hxi ha hl hany)
     | false=>
      rw[hany,if_neg (by simp)] at hsp;exact yes _ hsp (fun W hW=>ract5_yes R S f i a x W (hxl W hW) hG.acts k5 hxi ha hl hany)
   rw[if_neg k5] at hsp;by_cases k2:f.k=2
   · obtain⟨f1,f2,f3,f4,f5,f6,f7,f8,f9⟩:=fok2 hok k2;by_cases c1:f.rg=(a.regs.length:Int)
     case neg=>
      have e:sact a f=none:=by unfold sact;rw[if_pos k2,if_pos (.inl c1)]
      rw[e] at hsp;exact no hsp (fun W hW=>ract2_no1 R S f i a x W (hxl W hW) hG.acts k2 hxi ha c1)
     by_cases c2:a.de=0
     case neg=>
      have e:sact a f=none:=by unfold sact;rw[if_pos k2,if_pos (.inr (.inl c2))]
      rw[e] at hsp;exact no hsp (fun W hW=>ract2_no2 R S f i a x W (hxl W hW) hG.acts k2 hxi ha c1 c2)
     cases hany:(a.regs.any fun r=>decide (r.n=f.nd∧r.p=f.pt)) with
     | true=>
      have e:sact a f=none:=by unfold sact;rw[if_pos k2,if_pos (.inr (.inr hany))]
      rw[e] at hsp;exact no hsp (fun W hW=>ract2_no3 R S f i a x W (hxl W hW) hG.acts k2 hxi ha hl c1 c2 hany)
     | false=>
      have e:sact a f=some {a with regs:=a.regs ++ [⟨f.nd,f.pt,⟨f.pr,1,1,0⟩⟩]}:=by
       unfold sact;rw[if_pos k2,if_neg];rintro(e | e | e)
       · exact e c1
       · exact e c2
       · rw[hany] at e;cases e
      rw[e] at hsp;exact yes _ hsp (fun W hW=>ract2_yes R S f i a x W (hxl W hW) hG.acts k2 hxi ha hl c1 c2 hany)
   by_cases k3:f.k=3
   · obtain⟨f1,f2,f3,f4⟩:=fok3 hok k3;have hsa : sact a f = match a.regs[f.rg.toNat]? with
         | none=>none
         | some r=>(sturn r.seat f.st f.hw).map fun t=>{a with regs:=a.regs.set f.rg.toNat {r with seat:=t}}:=by
      unfold sact;rw[if_neg k2,if_pos k3];cases a.regs[f.rg.toNat]? <;>rfl
     by_cases c1:f.rg<(a.regs.length:Int)
     case neg=>
      have e:sact a f=none:=by rw[hsa,List.getElem?_eq_none (by omega)]
      rw[e] at hsp;exact no hsp (fun W hW=>ract3_len R S f i a x W (hxl W hW) hG.acts k3 hxi ha (by omega))
     obtain⟨j,hj⟩:∃j:Nat,f.rg=(j:Int):=⟨f.rg.toNat,by omega⟩
     have hjt:f.rg.toNat=j:=by omega
     obtain⟨r,hr⟩:∃r,a.regs[j]? =some r:=⟨_,List.getElem?_eq_getElem (by omega)⟩
     rw[hjt,hr] at hsa;simp only at hsa
     cases ht:sturn r.seat f.st f.hw with
     | none=>
      rw[ht] at hsa;rw[hsa] at hsp;exact no hsp (fun W hW=>ract3_no R S f i a x j r W (hxl W hW) hG.acts k3 hxi ha hj hr hl (turnOk_none ht))
     | some t=>
      rw[ht] at hsa;rw[hsa] at hsp;obtain⟨q1,q2⟩:=turnOk_some ht;subst q2;exact yes _ hsp (fun W hW=>ract3_yes R S f i a x j r W (hxl W hW) hG.acts k3 hxi ha hj hr hl q1)
   have k4:f.k=4:=by omega
   have hsa:sact a f=if a.oc≠1∨a.de≠0 then none else some {a with de:=f.de}:=by
    unfold sact;rw[if_neg k2,if_neg k3]
   by_cases c:a.oc≠1∨a.de≠0
   · rw[hsa,if_pos c] at hsp;exact no hsp (fun W hW=>by
       by_cases c0:a.oc=1
       · exact ract4_no2 R S f i a x W (hxl W hW) hG.acts k4 hxi ha c0 (c.resolve_left (fun e=>e c0))
       · exact ract4_no1 R S f i a x W (hxl W hW) hG.acts k4 hxi ha c0)
   · rw[hsa,if_neg c] at hsp;exact yes _ hsp (fun W hW=>ract4_yes R S f i a x W (hxl W hW) hG.acts k4 hxi ha (Decidable.byContradiction fun e=>c (.inl e)) (Decidable.byContradiction fun e=>c (.inr e)))
end Go.Proofs.YtlkajejbfojkeaaGreatDoor
