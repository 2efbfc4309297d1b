/- DlD, LdJ, DlE, LwA, DlF, To17, SaA -/
import Derived.Test.YtlkajejbfojkeaaGreatDoorWMovBwToDlC
set_option linter.unusedSimpArgs false
set_option linter.unusedVariables false
set_option maxRecDepth 100000
set_option maxHeartbeats 16000000
namespace Go.Proofs.YtlkajejbfojkeaaGreatDoor
open Go.RowKit
attribute [local go_sem] store_float
theorem rdirect_ok (R:RLoc) (S:Sto) (na qa k:Int) (w:World) (h:RStoreAt R S w) (hG:StoGood S) (i j:Nat) (a:SAct) (r:SReg) (hf:sfind S na qa=some i) (ha:S.acts[i]? =some a) (hj:a.regs[j]? =some r) (hk:k=2∨k=9∨k=10∨k=11) (ho:¬(a.oc=1∧k≠2)) (ep ed es eh sd' ft wk:Int) (ch:Bool) (hD:∀W,Calls Tryz.prog 145 #[seatV r.seat,.int .i64 k] W (Makes (.tuple #[.agg #[ep,ed,es,eh,.int .i64 (sd'),ft,wk,.bool ch],.int .i64 0]) W)):Calls Tryz.prog 69 #[.pointer (some ⟨R.sb,0,none⟩),.agg #[na,qa],.int .i64 j,.int .i64 k] w (RDoEnds ⟨[fSeat na qa j es eh],[lMsg S a r j k],0⟩ 0 w):=by
 have HF:=qq (fun W (hW:Below w.heap.size w W)=>rfind_of R S na qa W (h.below hW) hG.acts);rw[hf] at HF;dsimp only[oix] at HF;have HK:=qq hk;have hi00:¬(i:Int)<0:=by omega
 have H52:=qq (show(a.oc==1)=false∨(a.oc==1)=true∧(k !=2)=false by
   by_cases h1:a.oc=1
   · exact .inr ⟨by simpa using h1,by simpa using fun h2=>ho ⟨h1,h2⟩⟩
   · exact .inl (by simpa using h1))
 have HD:=qq hD;dsimp only[seatV] at HD;have HM:=qq (fun W (hW:Below w.heap.size w W)=>rlmsg17_of R S i j k a r W (h.below hW) hG ha hj);unfold lMsg at HM⊢;obtain⟨g,n,cap,va,vc,hin,hn8,hv6,hQ,hRR⟩:=ract_at h hG ha;obtain⟨nd,hnd⟩:∃nd,nd=S.node:=⟨_,rfl⟩
 have hi0:(0:Int)≤(i:Int):=by omega
 have hi1:(i:Int)<(n:Int):=by omega
 obtain⟨gr,rfl,hQR⟩:=hRR j r hj;have hj0:(0:Int)≤(j:Int):=by omega
 have hjl:j<a.regs.length:=(List.getElem?_eq_some_iff.1 hj).1;rw[←hnd] at hQ HM⊢;obtain⟨an,aq,oc,dp,ex,pa,de,rs⟩:=a;unfold ActC at hQ;dsimp only at*;obtain⟨vn,hvn⟩:∃n,n=rs.length:=⟨_,rfl⟩
 rw[←hvn] at hQ hv6 hjl;obtain⟨rn,rp,⟨sp,sd,ss,sh⟩⟩:=r;unfold RegC at hQR;dsimp only at*;have hj1:(j:Int)<(vn:Int):=by omega
 have HQ:=qq (fun W hW=>And.intro (hQ W hW) (hQR W hW));dsimp only[msgV,msgA] at HM;clear h hG ha hj hnd hvn hQ hQR hRR hf hk ho hD;go_enter Tryz.func69,Tryz.ntmps69;obtain⟨⟨xl,gl,xn,xa,a0,a1,a2,a3,a4,a5,a6,a7⟩,rl,r0,r1,r2,r3,r4,r5⟩:=HQ.out _ (Below.refl _ _);go_wp2_with fail;clear xl gl xn xa a0 a1 a2 a3 a4 a5 a6 a7 rl r0 r1 r2 r3 r4 r5
 refine(HF.out _ (bel_alloc (bel_alloc (Below.refl w.heap.size w) _) _)).mono ?_;rintro e w1 ⟨rfl,hb1⟩;have K1:=qq (((Blk.fresh _ _ _ (w.heap.size) (by simp)).alloc _).below hb1);have K2:=qq ((Blk.fresh _ _ _ (w.heap.size+1) (by simp)).below hb1);have HB:=qq (below_then (bel_alloc (bel_alloc (Below.refl w.heap.size w) _) _) hb1);have z1:=HB.out.size;clear hb1
 obtain⟨⟨xl,gl,xn,xa,a0,a1,a2,a3,a4,a5,a6,a7⟩,rl,r0,r1,r2,r3,r4,r5⟩:=HQ.out _ HB.out;obtain⟨lK1,qK1,fK1⟩:=K1.out;obtain⟨lK2,qK2,fK2⟩:=K2.out;go_upto_region 6 with fail
 (try simp only[show decide (vn≤j)=false from decide_eq_false (by omega),Bool.or_false])
 go_cut [48] from 35 to 47 (fun sq wx=>sq=.bool false∧w1=wx)
 case first=>
  rcases HK.out with rfl | rfl | rfl | rfl
  all_goals go_wp2_with fail
  all_goals go_meet
  all_goals exact⟨rfl,rfl⟩
 case rest=>
  obtain⟨rfl,rfl⟩:=hcut;clear qK1 fK1 lK1 qK2 fK2 lK2 xl gl xn xa a0 a1 a2 a3 a4 a5 a6 a7 rl r0 r1 r2 r3 r4 r5;obtain⟨⟨xl,gl,xn,xa,a0,a1,a2,a3,a4,a5,a6,a7⟩,rl,r0,r1,r2,r3,r4,r5⟩:=HQ.out _ HB.out;obtain⟨lK1,qK1,fK1⟩:=K1.out;obtain⟨lK2,qK2,fK2⟩:=K2.out;go_upto_region 8 with fail
  go_cut [63] from 50 to 62 (fun sq wx=>sq=.bool false∧w1=wx)
  case first=>
   rcases H52.out with h5 | ⟨h5,h2⟩
   all_goals go_wp2_with fail
   all_goals go_meet
   all_goals exact⟨rfl,rfl⟩
  case rest=>
   obtain⟨rfl,rfl⟩:=hcut;clear qK1 fK1 lK1 qK2 fK2 lK2 xl gl xn xa a0 a1 a2 a3 a4 a5 a6 a7 rl r0 r1 r2 r3 r4 r5;obtain⟨⟨xl,gl,xn,xa,a0,a1,a2,a3,a4,a5,a6,a7⟩,rl,r0,r1,r2,r3,r4,r5⟩:=HQ.out _ HB.out;obtain⟨lK1,qK1,fK1⟩:=K1.out;obtain⟨lK2,qK2,fK2⟩:=K2.out;go_wp2_with fail;clear qK1 fK1 lK1 qK2 fK2 lK2 xl gl xn xa a0 a1 a2 a3 a4 a5 a6 a7 rl r0 r1 r2 r3 r4 r5;refine(HD.out _).mono ?_
   rintro e w2 ⟨rfl,hb2⟩;have K1:=qq (K1.out.below hb2);have K2:=qq (K2.out.below hb2);have HB:=qq (below_then HB.out hb2);have z2:=HB.out.size;clear hb2;have o3K1:=K1.out.lt;have o3K2:=K2.out.lt;obtain⟨⟨xl,gl,xn,xa,a0,a1,a2,a3,a4,a5,a6,a7⟩,rl,r0,r1,r2,r3,r4,r5⟩:=HQ.out _ HB.out;obtain⟨lK1,qK1,fK1⟩:=K1.out;obtain⟨lK2,qK2,fK2⟩:=K2.out;go_wp2_with fail
   clear qK1 fK1 lK1 qK2 fK2 lK2 xl gl xn xa a0 a1 a2 a3 a4 a5 a6 a7 rl r0 r1 r2 r3 r4 r5;refine reg_start2 (fun w'=>Blk w' _ _∧Blk w' _ _∧Below w.heap.size w w') (fun w'=>Blk w' _ _) (by kernel_rfl) ⟨(K1.out.alloc _).drew,(Blk.fresh _ _ _ (w2.heap.size) (by simp)).drew,(bel_drew (bel_alloc HB.out _))⟩ ((K2.out.alloc _).drew) ?_;rintro w3 hHeld K2';have K2:=qq K2';clear K2'
   obtain⟨K1',K3',HB'⟩:=id hHeld;have K1:=qq K1';have K3:=qq K3';have HB:=qq HB';clear K1' K3' HB';have z3:=HB.out.size;refine takeM (d:=some 86) 0 rfl rfl hHeld (fun w' hS'=>by have qA:=hS'.1.cell;clear hS';go_simp;(try rfl)) ?_;simp only[puts];refine takeM (d:=some 87) 1 rfl rfl hHeld (fun w' _=>by go_simp;(try rfl)) ?_;simp only[puts]
   refine takeM (d:=some 88) 2 rfl rfl hHeld (fun w' _=>by go_simp;(try rfl)) ?_;simp only[puts];refine takeM (d:=some 89) 3 rfl rfl hHeld (fun w' _=>by go_simp;(try rfl)) ?_;simp only[puts];refine takeM (d:=some 90) 4 rfl rfl hHeld (fun w' hS'=>by have qA:=hS'.2.1.cell;clear hS';go_simp;(try rfl)) ?_;simp only[puts];refine takeM (d:=some 91) 5 rfl rfl hHeld (fun w' _=>by go_simp;(try rfl)) ?_
   simp only[puts];refine takeM (d:=some 92) 6 rfl rfl hHeld (fun w' _=>by go_simp;(try rfl)) ?_;simp only[puts];refine takeM (d:=some 93) 7 rfl rfl hHeld (fun w' hS'=>by have qA:=hS'.2.1.cell;clear hS';go_simp;(try rfl)) ?_;simp only[puts];refine takeM (d:=some 94) 8 rfl rfl hHeld (fun w' _=>by go_simp;(try rfl)) ?_;simp only[puts]
   refine takeM (d:=some 96) 10 rfl rfl hHeld (fun w' _=>by go_simp;(try rfl)) ?_;simp only[puts];refine takeM (d:=some 97) 11 rfl rfl hHeld (fun w' _=>by go_simp;(try rfl)) ?_;simp only[puts];refine takeM (d:=some 98) 12 rfl rfl hHeld (fun w' _=>by go_simp;(try rfl)) ?_;simp only[puts];refine takeM (d:=some 99) 13 rfl rfl hHeld (fun w' _=>by go_simp;(try rfl)) ?_;simp only[puts]
   refine two_M 9 14 (by kernel_rfl) ?_ ?_
   · skip;have o4K1:=K1.out.lt;have o4K2:=K2.out.lt;have o4K3:=K3.out.lt
     refine new_B (d:=some 95) 9 (.slice (some ⟨w3.heap.size,0,none⟩) 1 1) #[.int .i64 3,.int .i64 na,.int .i64 qa,.int .i64 j,.int .i64 0,.int .i64 0,.int .i64 0,.int .i64 0,.int .i64 0,.int .i64 0,.int .i64 es,.int .i64 eh,.int .i64 0,.float .f64 0] 42 rfl rfl (by go_simp) (fun w'=>Blk w' _ _) ⟨(K1.out.alloc _),(K3.out.alloc _),(bel_alloc HB.out _)⟩ ((K2.out.alloc _)) ?_;clear hHeld
     rintro w4 hHeld K2';have K2:=qq K2';clear K2';obtain⟨⟨K1',K3',HB'⟩,K4'⟩:=id hHeld;have K1:=qq K1';have K3:=qq K3';have HB:=qq HB';have K4:=qq K4';clear K1' K3' HB' K4';have z4:=HB.out.size;have y4:=K4.out.lt;simp only[puts];refine one_M 14 (by kernel_rfl) ?_
     refine wpOp_call (d:=some 100) 14 74 _ _ [.pointer (some ⟨R.sb,0,none⟩),.int .i64 i,.int .i64 j,.int .i64 k] rfl rfl rfl (enters_of Tryz.func74 (by kernel_rfl) rfl) (by rfl) (by rfl) ?_;refine(HM.out _ HB.out).mono ?_;rintro e w5 ⟨rfl,hb5⟩;clear hHeld;have K1:=qq (K1.out.below hb5);have K2:=qq (K2.out.below hb5);have K3:=qq (K3.out.below hb5);have K4:=qq (K4.out.below hb5)
     have HB:=qq (below_then HB.out hb5);have z5:=HB.out.size;clear hb5;refine ret_S ⟨⟨K1.out,K3.out,HB.out⟩,K4.out⟩ (fun hHeld=> ?_);simp only[puts];refine one_M 15 (by kernel_rfl) ?_;have o5K1:=K1.out.lt;have o5K2:=K2.out.lt;have o5K3:=K3.out.lt;have o5K4:=K4.out.lt
     refine new_B (d:=some 101) 15 (.slice (some ⟨w5.heap.size,0,none⟩) 1 1) #[.int .i64 k,.int .i64 nd,.int .i64 rn,.int .i64 an,.int .i64 aq,.int .i64 j,.int .i64 rp,.int .i64 0,.int .i64 0] 81 rfl rfl (by go_simp) (fun w'=>Blk w' _ _) ⟨⟨(K1.out.alloc _),(K3.out.alloc _),(bel_alloc HB.out _)⟩,(K4.out.alloc _)⟩ ((K2.out.alloc _)) ?_;clear hHeld;rintro w6 hHeld K2';have K2:=qq K2';clear K2'
     obtain⟨⟨⟨K1',K3',HB'⟩,K4'⟩,K5'⟩:=id hHeld;have K1:=qq K1';have K3:=qq K3';have HB:=qq HB';have K4:=qq K4';have K5:=qq K5';clear K1' K3' HB' K4' K5';have z6:=HB.out.size;have y6:=K5.out.lt;simp only[puts];refine takeM (d:=some 102) 16 rfl rfl hHeld (fun w' _=>by go_simp;(try rfl)) ?_;simp only[puts];refine one_M 17 (by kernel_rfl) ?_
     obtain⟨⟨xl,gl,xn,xa,a0,a1,a2,a3,a4,a5,a6,a7⟩,rl,r0,r1,r2,r3,r4,r5⟩:=HQ.out _ HB.out;obtain⟨lK1,qK1,fK1⟩:=K1.out;obtain⟨lK2,qK2,fK2⟩:=K2.out;obtain⟨lK3,qK3,fK3⟩:=K3.out;obtain⟨lK4,qK4,fK4⟩:=K4.out;obtain⟨lK5,qK5,fK5⟩:=K5.out
     refine set_M 17 (((w6.setCell ⟨w.heap.size+1,0,none⟩ (.slice (some ⟨w3.heap.size,0,none⟩) 1 1)).setCell ⟨w.heap.size+1,1,none⟩ (.slice (some ⟨w5.heap.size,0,none⟩) 1 1)).setCell ⟨w.heap.size+1,2,none⟩ (.int .i64 0)) rfl rfl (by go_simp) ⟨⟨⟨(((K1.out.other (p:=⟨w.heap.size+1,0,none⟩) (by(try dsimp only);omega) _).other (p:=⟨w.heap.size+1,1,none⟩) (by(try dsimp only);omega) _).other (p:=⟨w.heap.size+1,2,none⟩) (by(try dsimp only);omega) _),(((K3.out.other (p:=⟨w.heap.size+1,0,none⟩) (by(try dsimp only);omega) _).other (p:=⟨w.heap.size+1,1,none⟩) (by(try dsimp only);omega) _).other (p:=⟨w.heap.size+1,2,none⟩) (by(try dsimp only);omega) _),(bel_set (bel_set (bel_set HB.out (p:=⟨w.heap.size+1,0,none⟩) (by(try dsimp only);omega) _) (p:=⟨w.heap.size+1,1,none⟩) (by(try dsimp only);omega) _) (p:=⟨w.heap.size+1,2,none⟩) (by(try dsimp only);omega) _)⟩,(((K4.out.other (p:=⟨w.heap.size+1,0,none⟩) (by(try dsimp only);omega) _).other (p:=⟨w.heap.size+1,1,none⟩) (by(try dsimp only);omega) _).other (p:=⟨w.heap.size+1,2,none⟩) (by(try dsimp only);omega) _)⟩,(((K5.out.other (p:=⟨w.heap.size+1,0,none⟩) (by(try dsimp only);omega) _).other (p:=⟨w.heap.size+1,1,none⟩) (by(try dsimp only);omega) _).other (p:=⟨w.heap.size+1,2,none⟩) (by(try dsimp only);omega) _)⟩ (fun hHeld2=> ?_)
     clear hHeld;have hHeld:=hHeld2;clear hHeld2;clear qK1 fK1 lK1 qK2 fK2 lK2 qK3 fK3 lK3 qK4 fK4 lK4 qK5 fK5 lK5 xl gl xn xa a0 a1 a2 a3 a4 a5 a6 a7 rl r0 r1 r2 r3 r4 r5
     (try simp only[puts])
     refine takeM (d:=some 9) 18 rfl rfl hHeld (fun w' _=>by go_simp;(try rfl)) ?_;simp only[puts];refine doneM (by kernel_rfl) ?_ _;clear hHeld;obtain⟨⟨xl,gl,xn,xa,a0,a1,a2,a3,a4,a5,a6,a7⟩,rl,r0,r1,r2,r3,r4,r5⟩:=HQ.out _ HB.out;obtain⟨lK1,qK1,fK1⟩:=K1.out;obtain⟨lK2,qK2,fK2⟩:=K2.out;obtain⟨lK3,qK3,fK3⟩:=K3.out;obtain⟨lK4,qK4,fK4⟩:=K4.out;obtain⟨lK5,qK5,fK5⟩:=K5.out;go_wp2_with fail
     have hV0:=(((K2.out.set' 0 (by simp) (.slice (some ⟨w3.heap.size,0,none⟩) 1 1)).set' 1 (by simp) (.slice (some ⟨w5.heap.size,0,none⟩) 1 1)).set' 2 (by simp) (.int .i64 0))
     have hVq0:=hV0.cell;have hVf0:=hV0.free;refine bodyPost_ret (v:=.tuple #[.agg #[.slice (some ⟨w3.heap.size,0,none⟩) 1 1,.slice (some ⟨w5.heap.size,0,none⟩) 1 1,.int .i64 0],.int .i64 0]) (by simp[results,Tryz.results69,go_sem,hVq0,hVf0]) rfl ?_;clear qK1 fK1 lK1 qK2 fK2 lK2 qK3 fK3 lK3 qK4 fK4 lK4 qK5 fK5 lK5 xl gl xn xa a0 a1 a2 a3 a4 a5 a6 a7 rl r0 r1 r2 r3 r4 r5
     exact⟨_,_,rfl,read_fone (f:=fSeat na qa j es eh) (((K4.out.other (p:=⟨w.heap.size+1,0,none⟩) (by(try dsimp only);omega) (.slice (some ⟨w3.heap.size,0,none⟩) 1 1)).other (p:=⟨w.heap.size+1,1,none⟩) (by(try dsimp only);omega) (.slice (some ⟨w5.heap.size,0,none⟩) 1 1)).other (p:=⟨w.heap.size+1,2,none⟩) (by(try dsimp only);omega) (.int .i64 0)),read_mone (m:=⟨k,nd,rn,an,aq,j,rp,0,0⟩) (((K5.out.other (p:=⟨w.heap.size+1,0,none⟩) (by(try dsimp only);omega) (.slice (some ⟨w3.heap.size,0,none⟩) 1 1)).other (p:=⟨w.heap.size+1,1,none⟩) (by(try dsimp only);omega) (.slice (some ⟨w5.heap.size,0,none⟩) 1 1)).other (p:=⟨w.heap.size+1,2,none⟩) (by(try dsimp only);omega) (.int .i64 0)),(bel_set (bel_set (bel_set HB.out (p:=⟨w.heap.size+1,0,none⟩) (by(try dsimp only);omega) _) (p:=⟨w.heap.size+1,1,none⟩) (by(try dsimp only);omega) _) (p:=⟨w.heap.size+1,2,none⟩) (by(try dsimp only);omega) _)⟩
   · skip;refine wpOp_call (d:=some 100) 14 74 _ _ [.pointer (some ⟨R.sb,0,none⟩),.int .i64 i,.int .i64 j,.int .i64 k] rfl rfl rfl (enters_of Tryz.func74 (by kernel_rfl) rfl) (by rfl) (by rfl) ?_;refine(HM.out _ HB.out).mono ?_;rintro e w4 ⟨rfl,hb4⟩;clear hHeld;have K1:=qq (K1.out.below hb4);have K2:=qq (K2.out.below hb4);have K3:=qq (K3.out.below hb4);have HB:=qq (below_then HB.out hb4)
     have z4:=HB.out.size;clear hb4;refine ret_S ⟨K1.out,K3.out,HB.out⟩ (fun hHeld=> ?_);simp only[puts];refine two_M 9 15 (by kernel_rfl) ?_ ?_
     · skip;have o4K1:=K1.out.lt;have o4K2:=K2.out.lt;have o4K3:=K3.out.lt
       refine new_B (d:=some 95) 9 (.slice (some ⟨w4.heap.size,0,none⟩) 1 1) #[.int .i64 3,.int .i64 na,.int .i64 qa,.int .i64 j,.int .i64 0,.int .i64 0,.int .i64 0,.int .i64 0,.int .i64 0,.int .i64 0,.int .i64 es,.int .i64 eh,.int .i64 0,.float .f64 0] 42 rfl rfl (by go_simp) (fun w'=>Blk w' _ _) ⟨(K1.out.alloc _),(K3.out.alloc _),(bel_alloc HB.out _)⟩ ((K2.out.alloc _)) ?_;clear hHeld
       rintro w5 hHeld K2';have K2:=qq K2';clear K2';obtain⟨⟨K1',K3',HB'⟩,K4'⟩:=id hHeld;have K1:=qq K1';have K3:=qq K3';have HB:=qq HB';have K4:=qq K4';clear K1' K3' HB' K4';have z5:=HB.out.size;have y5:=K4.out.lt;simp only[puts];refine one_M 15 (by kernel_rfl) ?_;have o5K1:=K1.out.lt;have o5K2:=K2.out.lt;have o5K3:=K3.out.lt;have o5K4:=K4.out.lt
       refine new_B (d:=some 101) 15 (.slice (some ⟨w5.heap.size,0,none⟩) 1 1) #[.int .i64 k,.int .i64 nd,.int .i64 rn,.int .i64 an,.int .i64 aq,.int .i64 j,.int .i64 rp,.int .i64 0,.int .i64 0] 81 rfl rfl (by go_simp) (fun w'=>Blk w' _ _) ⟨⟨(K1.out.alloc _),(K3.out.alloc _),(bel_alloc HB.out _)⟩,(K4.out.alloc _)⟩ ((K2.out.alloc _)) ?_;clear hHeld;rintro w6 hHeld K2';have K2:=qq K2';clear K2'
       obtain⟨⟨⟨K1',K3',HB'⟩,K4'⟩,K5'⟩:=id hHeld;have K1:=qq K1';have K3:=qq K3';have HB:=qq HB';have K4:=qq K4';have K5:=qq K5';clear K1' K3' HB' K4' K5';have z6:=HB.out.size;have y6:=K5.out.lt;simp only[puts];refine takeM (d:=some 102) 16 rfl rfl hHeld (fun w' _=>by go_simp;(try rfl)) ?_;simp only[puts];refine one_M 17 (by kernel_rfl) ?_
       obtain⟨⟨xl,gl,xn,xa,a0,a1,a2,a3,a4,a5,a6,a7⟩,rl,r0,r1,r2,r3,r4,r5⟩:=HQ.out _ HB.out;obtain⟨lK1,qK1,fK1⟩:=K1.out;obtain⟨lK2,qK2,fK2⟩:=K2.out;obtain⟨lK3,qK3,fK3⟩:=K3.out;obtain⟨lK4,qK4,fK4⟩:=K4.out;obtain⟨lK5,qK5,fK5⟩:=K5.out
       refine set_M 17 (((w6.setCell ⟨w.heap.size+1,0,none⟩ (.slice (some ⟨w4.heap.size,0,none⟩) 1 1)).setCell ⟨w.heap.size+1,1,none⟩ (.slice (some ⟨w5.heap.size,0,none⟩) 1 1)).setCell ⟨w.heap.size+1,2,none⟩ (.int .i64 0)) rfl rfl (by go_simp) ⟨⟨⟨(((K1.out.other (p:=⟨w.heap.size+1,0,none⟩) (by(try dsimp only);omega) _).other (p:=⟨w.heap.size+1,1,none⟩) (by(try dsimp only);omega) _).other (p:=⟨w.heap.size+1,2,none⟩) (by(try dsimp only);omega) _),(((K3.out.other (p:=⟨w.heap.size+1,0,none⟩) (by(try dsimp only);omega) _).other (p:=⟨w.heap.size+1,1,none⟩) (by(try dsimp only);omega) _).other (p:=⟨w.heap.size+1,2,none⟩) (by(try dsimp only);omega) _),(bel_set (bel_set (bel_set HB.out (p:=⟨w.heap.size+1,0,none⟩) (by(try dsimp only);omega) _) (p:=⟨w.heap.size+1,1,none⟩) (by(try dsimp only);omega) _) (p:=⟨w.heap.size+1,2,none⟩) (by(try dsimp only);omega) _)⟩,(((K4.out.other (p:=⟨w.heap.size+1,0,none⟩) (by(try dsimp only);omega) _).other (p:=⟨w.heap.size+1,1,none⟩) (by(try dsimp only);omega) _).other (p:=⟨w.heap.size+1,2,none⟩) (by(try dsimp only);omega) _)⟩,(((K5.out.other (p:=⟨w.heap.size+1,0,none⟩) (by(try dsimp only);omega) _).other (p:=⟨w.heap.size+1,1,none⟩) (by(try dsimp only);omega) _).other (p:=⟨w.heap.size+1,2,none⟩) (by(try dsimp only);omega) _)⟩ (fun hHeld2=> ?_)
       clear hHeld;have hHeld:=hHeld2;clear hHeld2;clear qK1 fK1 lK1 qK2 fK2 lK2 qK3 fK3 lK3 qK4 fK4 lK4 qK5 fK5 lK5 xl gl xn xa a0 a1 a2 a3 a4 a5 a6 a7 rl r0 r1 r2 r3 r4 r5
       (try simp only[puts])
       refine takeM (d:=some 9) 18 rfl rfl hHeld (fun w' _=>by go_simp;(try rfl)) ?_;simp only[puts];refine doneM (by kernel_rfl) ?_ _;clear hHeld;obtain⟨⟨xl,gl,xn,xa,a0,a1,a2,a3,a4,a5,a6,a7⟩,rl,r0,r1,r2,r3,r4,r5⟩:=HQ.out _ HB.out;obtain⟨lK1,qK1,fK1⟩:=K1.out;obtain⟨lK2,qK2,fK2⟩:=K2.out;obtain⟨lK3,qK3,fK3⟩:=K3.out;obtain⟨lK4,qK4,fK4⟩:=K4.out;obtain⟨lK5,qK5,fK5⟩:=K5.out;go_wp2_with fail
       have hV0:=(((K2.out.set' 0 (by simp) (.slice (some ⟨w4.heap.size,0,none⟩) 1 1)).set' 1 (by simp) (.slice (some ⟨w5.heap.size,0,none⟩) 1 1)).set' 2 (by simp) (.int .i64 0))
       have hVq0:=hV0.cell;have hVf0:=hV0.free;refine bodyPost_ret (v:=.tuple #[.agg #[.slice (some ⟨w4.heap.size,0,none⟩) 1 1,.slice (some ⟨w5.heap.size,0,none⟩) 1 1,.int .i64 0],.int .i64 0]) (by simp[results,Tryz.results69,go_sem,hVq0,hVf0]) rfl ?_;clear qK1 fK1 lK1 qK2 fK2 lK2 qK3 fK3 lK3 qK4 fK4 lK4 qK5 fK5 lK5 xl gl xn xa a0 a1 a2 a3 a4 a5 a6 a7 rl r0 r1 r2 r3 r4 r5
       exact⟨_,_,rfl,read_fone (f:=fSeat na qa j es eh) (((K4.out.other (p:=⟨w.heap.size+1,0,none⟩) (by(try dsimp only);omega) (.slice (some ⟨w4.heap.size,0,none⟩) 1 1)).other (p:=⟨w.heap.size+1,1,none⟩) (by(try dsimp only);omega) (.slice (some ⟨w5.heap.size,0,none⟩) 1 1)).other (p:=⟨w.heap.size+1,2,none⟩) (by(try dsimp only);omega) (.int .i64 0)),read_mone (m:=⟨k,nd,rn,an,aq,j,rp,0,0⟩) (((K5.out.other (p:=⟨w.heap.size+1,0,none⟩) (by(try dsimp only);omega) (.slice (some ⟨w4.heap.size,0,none⟩) 1 1)).other (p:=⟨w.heap.size+1,1,none⟩) (by(try dsimp only);omega) (.slice (some ⟨w5.heap.size,0,none⟩) 1 1)).other (p:=⟨w.heap.size+1,2,none⟩) (by(try dsimp only);omega) (.int .i64 0)),(bel_set (bel_set (bel_set HB.out (p:=⟨w.heap.size+1,0,none⟩) (by(try dsimp only);omega) _) (p:=⟨w.heap.size+1,1,none⟩) (by(try dsimp only);omega) _) (p:=⟨w.heap.size+1,2,none⟩) (by(try dsimp only);omega) _)⟩
     · skip;have o4K1:=K1.out.lt;have o4K2:=K2.out.lt;have o4K3:=K3.out.lt;refine new_B (d:=some 101) 15 (.slice (some ⟨w4.heap.size,0,none⟩) 1 1) #[.int .i64 k,.int .i64 nd,.int .i64 rn,.int .i64 an,.int .i64 aq,.int .i64 j,.int .i64 rp,.int .i64 0,.int .i64 0] 81 rfl rfl (by go_simp) (fun w'=>Blk w' _ _) ⟨(K1.out.alloc _),(K3.out.alloc _),(bel_alloc HB.out _)⟩ ((K2.out.alloc _)) ?_;clear hHeld
       rintro w5 hHeld K2';have K2:=qq K2';clear K2';obtain⟨⟨K1',K3',HB'⟩,K4'⟩:=id hHeld;have K1:=qq K1';have K3:=qq K3';have HB:=qq HB';have K4:=qq K4';clear K1' K3' HB' K4';have z5:=HB.out.size;have y5:=K4.out.lt;simp only[puts];refine one_M 9 (by kernel_rfl) ?_;have o5K1:=K1.out.lt;have o5K2:=K2.out.lt;have o5K3:=K3.out.lt;have o5K4:=K4.out.lt
       refine new_B (d:=some 95) 9 (.slice (some ⟨w5.heap.size,0,none⟩) 1 1) #[.int .i64 3,.int .i64 na,.int .i64 qa,.int .i64 j,.int .i64 0,.int .i64 0,.int .i64 0,.int .i64 0,.int .i64 0,.int .i64 0,.int .i64 es,.int .i64 eh,.int .i64 0,.float .f64 0] 42 rfl rfl (by go_simp) (fun w'=>Blk w' _ _) ⟨⟨(K1.out.alloc _),(K3.out.alloc _),(bel_alloc HB.out _)⟩,(K4.out.alloc _)⟩ ((K2.out.alloc _)) ?_
       clear hHeld;rintro w6 hHeld K2';have K2:=qq K2';clear K2';obtain⟨⟨⟨K1',K3',HB'⟩,K4'⟩,K5'⟩:=id hHeld;have K1:=qq K1';have K3:=qq K3';have HB:=qq HB';have K4:=qq K4';have K5:=qq K5';clear K1' K3' HB' K4' K5';have z6:=HB.out.size;have y6:=K5.out.lt;simp only[puts];refine takeM (d:=some 102) 16 rfl rfl hHeld (fun w' _=>by go_simp;(try rfl)) ?_;simp only[puts];refine one_M 17 (by kernel_rfl) ?_
       obtain⟨⟨xl,gl,xn,xa,a0,a1,a2,a3,a4,a5,a6,a7⟩,rl,r0,r1,r2,r3,r4,r5⟩:=HQ.out _ HB.out;obtain⟨lK1,qK1,fK1⟩:=K1.out;obtain⟨lK2,qK2,fK2⟩:=K2.out;obtain⟨lK3,qK3,fK3⟩:=K3.out;obtain⟨lK4,qK4,fK4⟩:=K4.out;obtain⟨lK5,qK5,fK5⟩:=K5.out
       refine set_M 17 (((w6.setCell ⟨w.heap.size+1,0,none⟩ (.slice (some ⟨w5.heap.size,0,none⟩) 1 1)).setCell ⟨w.heap.size+1,1,none⟩ (.slice (some ⟨w4.heap.size,0,none⟩) 1 1)).setCell ⟨w.heap.size+1,2,none⟩ (.int .i64 0)) rfl rfl (by go_simp) ⟨⟨⟨(((K1.out.other (p:=⟨w.heap.size+1,0,none⟩) (by(try dsimp only);omega) _).other (p:=⟨w.heap.size+1,1,none⟩) (by(try dsimp only);omega) _).other (p:=⟨w.heap.size+1,2,none⟩) (by(try dsimp only);omega) _),(((K3.out.other (p:=⟨w.heap.size+1,0,none⟩) (by(try dsimp only);omega) _).other (p:=⟨w.heap.size+1,1,none⟩) (by(try dsimp only);omega) _).other (p:=⟨w.heap.size+1,2,none⟩) (by(try dsimp only);omega) _),(bel_set (bel_set (bel_set HB.out (p:=⟨w.heap.size+1,0,none⟩) (by(try dsimp only);omega) _) (p:=⟨w.heap.size+1,1,none⟩) (by(try dsimp only);omega) _) (p:=⟨w.heap.size+1,2,none⟩) (by(try dsimp only);omega) _)⟩,(((K4.out.other (p:=⟨w.heap.size+1,0,none⟩) (by(try dsimp only);omega) _).other (p:=⟨w.heap.size+1,1,none⟩) (by(try dsimp only);omega) _).other (p:=⟨w.heap.size+1,2,none⟩) (by(try dsimp only);omega) _)⟩,(((K5.out.other (p:=⟨w.heap.size+1,0,none⟩) (by(try dsimp only);omega) _).other (p:=⟨w.heap.size+1,1,none⟩) (by(try dsimp only);omega) _).other (p:=⟨w.heap.size+1,2,none⟩) (by(try dsimp only);omega) _)⟩ (fun hHeld2=> ?_)
       clear hHeld;have hHeld:=hHeld2;clear hHeld2;clear qK1 fK1 lK1 qK2 fK2 lK2 qK3 fK3 lK3 qK4 fK4 lK4 qK5 fK5 lK5 xl gl xn xa a0 a1 a2 a3 a4 a5 a6 a7 rl r0 r1 r2 r3 r4 r5
       (try simp only[puts])
       refine takeM (d:=some 9) 18 rfl rfl hHeld (fun w' _=>by go_simp;(try rfl)) ?_;simp only[puts];refine doneM (by kernel_rfl) ?_ _;clear hHeld;obtain⟨⟨xl,gl,xn,xa,a0,a1,a2,a3,a4,a5,a6,a7⟩,rl,r0,r1,r2,r3,r4,r5⟩:=HQ.out _ HB.out;obtain⟨lK1,qK1,fK1⟩:=K1.out;obtain⟨lK2,qK2,fK2⟩:=K2.out;obtain⟨lK3,qK3,fK3⟩:=K3.out;obtain⟨lK4,qK4,fK4⟩:=K4.out;obtain⟨lK5,qK5,fK5⟩:=K5.out;go_wp2_with fail
       have hV0:=(((K2.out.set' 0 (by simp) (.slice (some ⟨w5.heap.size,0,none⟩) 1 1)).set' 1 (by simp) (.slice (some ⟨w4.heap.size,0,none⟩) 1 1)).set' 2 (by simp) (.int .i64 0))
       have hVq0:=hV0.cell;have hVf0:=hV0.free;refine bodyPost_ret (v:=.tuple #[.agg #[.slice (some ⟨w5.heap.size,0,none⟩) 1 1,.slice (some ⟨w4.heap.size,0,none⟩) 1 1,.int .i64 0],.int .i64 0]) (by simp[results,Tryz.results69,go_sem,hVq0,hVf0]) rfl ?_;clear qK1 fK1 lK1 qK2 fK2 lK2 qK3 fK3 lK3 qK4 fK4 lK4 qK5 fK5 lK5 xl gl xn xa a0 a1 a2 a3 a4 a5 a6 a7 rl r0 r1 r2 r3 r4 r5
       exact⟨_,_,rfl,read_fone (f:=fSeat na qa j es eh) (((K5.out.other (p:=⟨w.heap.size+1,0,none⟩) (by(try dsimp only);omega) (.slice (some ⟨w5.heap.size,0,none⟩) 1 1)).other (p:=⟨w.heap.size+1,1,none⟩) (by(try dsimp only);omega) (.slice (some ⟨w4.heap.size,0,none⟩) 1 1)).other (p:=⟨w.heap.size+1,2,none⟩) (by(try dsimp only);omega) (.int .i64 0)),read_mone (m:=⟨k,nd,rn,an,aq,j,rp,0,0⟩) (((K4.out.other (p:=⟨w.heap.size+1,0,none⟩) (by(try dsimp only);omega) (.slice (some ⟨w5.heap.size,0,none⟩) 1 1)).other (p:=⟨w.heap.size+1,1,none⟩) (by(try dsimp only);omega) (.slice (some ⟨w4.heap.size,0,none⟩) 1 1)).other (p:=⟨w.heap.size+1,2,none⟩) (by(try dsimp only);omega) (.int .i64 0)),(bel_set (bel_set (bel_set HB.out (p:=⟨w.heap.size+1,0,none⟩) (by(try dsimp only);omega) _) (p:=⟨w.heap.size+1,1,none⟩) (by(try dsimp only);omega) _) (p:=⟨w.heap.size+1,2,none⟩) (by(try dsimp only);omega) _)⟩
def lOpenRegs (a:SAct):Bool:=a.regs.any fun r=>decide (r.seat.s≠14)
def lForget (S:Sto) (n q:Int):SRes×Int:=match lGet S n q with
 | none=>(res0,8)
 | some (_,a)=>
  if lOpenRegs a=true then(res0,9)
  else if a.oc=1∧0<a.regs.length∧a.de=0 then(res0,9)
  else(⟨[fForget n q],[],0⟩,0)
theorem lforget1_of (W:World) (r:SReg):Calls Tryz.prog 175 #[.agg #[r.n,r.p,r.seat.p,r.seat.d,r.seat.s,r.seat.h]] W (Makes (.bool (decide (r.seat.s≠14))) W):=by
 obtain⟨rn,rp,⟨sp,sd,ss,sh⟩⟩:=r;dsimp only;by_cases h:ss=14
 · have e:(ss !=14)=false:=by simpa using h
   rw[decide_eq_false (fun x=>x h)];clear h;go_enter Tryz.func175,Tryz.ntmps175;go_wp2_with fail;go_ret;exact⟨rfl,by go_grown⟩
 · have e:(ss !=14)=true:=by simpa using h
   rw[decide_eq_true h];clear h;go_enter Tryz.func175,Tryz.ntmps175;go_wp2_with fail;go_ret;exact⟨rfl,by go_grown⟩
theorem indexR_lfg  (B : Nat) (l : List SReg) (q : SReg → Bool) (v : Value) (w : World) (hrow : w.ownsRow B 55 6 v l.length (regsL l)) (hl : l.length ≤ 1000)
    (hp:∀(W:World) (r:SReg),Below w.heap.size w W→Calls Tryz.prog 175 #[.agg #[r.n,r.p,r.seat.p,r.seat.d,r.seat.s,r.seat.h]] W (Makes (.bool (q r)) W)):
    Calls Tryz.prog 239 #[v,.func (.func 175) #[] #[]] w (Makes (.int .i64 (oix (l.findIdx? q))) w):=by
 obtain⟨a,cap,rfl,_,hr⟩:=reg_row hrow;have HR:=qq hr;have HP:=qq hp;clear hr hp hrow;obtain⟨n,hn⟩:∃n,n=l.length:=⟨_,rfl⟩
 rw[←hn] at hl HR⊢;have HN:=qq hn;clear hn;go_enter Tryz.func239,Tryz.ntmps239;go_wp2_with fail;go_loopw [8] (fun i wr=>∃k:Nat,k≤n∧i=.int .i64 (k:Nat)∧Hid (∀(j:Nat) (h:j<l.length),j<k→q l[j]=false)∧Below w.heap.size w wr) (fun i _=>n - (intOf i).toNat)
 case atStart=>exact⟨0,by omega,by go_num,qq (fun j _ h=>absurd h (by omega)),Below.refl _ _⟩
 case round=>
  obtain⟨k,hk,rfl,HBE,hB⟩:=hrel;by_cases hlt:k<n
  · have hks:k<l.length:=by rw[←HN.out];exact hlt
    obtain⟨g,rfl,hg,hfz,hcell⟩:=HR.out (by omega);obtain⟨r,hrk⟩:∃r,r=l[k]:=⟨_,rfl⟩
    have hat:=(hcell k r (by rw[hrk];exact List.getElem?_eq_getElem hks)).below hB hg;obtain⟨c0,c1,c2,c3,c4,c5⟩:=hat;have hki:(k:Int)<(n:Int):=by omega
    have hk0:(0:Int)≤(k:Int):=by omega
    have hc:=fun W hW=>HP.out W r hW
    obtain⟨t,ht⟩:∃t,t=q r:=⟨_,rfl⟩
    rw[←ht] at hc;rw[hrk] at ht;have HT:=qq ht;have HC:=qq hc;clear ht hc hcell hfz hrk;obtain⟨rn,rp,sp,sd,ss,sh⟩:=r;dsimp only at c0 c1 c2 c3 c4 c5 HC;go_wp2_with fail;refine(HC.out _ (below_then hB (by go_grown))).mono ?_;rintro e w1 ⟨rfl,hb1⟩;have hB1:Below w.heap.size w w1:=below_then hB (below_then (by go_grown) hb1)
    cases t with
    | true=>
     go_wp2_with fail;go_ret;exact⟨by rw[find_hit hks HBE.out HT.out.symm];rfl,hB1⟩
    | false=>
     go_wp2_with fail
     all_goals (go_roundw <;> first | exact ⟨k + 1, by omega, by go_num, qq (fun j h hj => by
         rcases Nat.lt_or_eq_of_le (Nat.le_of_lt_succ hj) with h1 | h1
         · exact HBE.out j h h1
         · subst h1;exact HT.out.symm),hB1⟩ | (simp[intOf];omega))
  · obtain rfl:k=n:=by omega
    go_wp2_with fail;go_ret;exact⟨by rw[find_miss (fun j h=>HBE.out j h (by rw[HN.out];exact h))];rfl,hB⟩
theorem containsR_lfg  (B : Nat) (l : List SReg) (q : SReg → Bool) (v : Value) (w : World) (hrow : w.ownsRow B 55 6 v l.length (regsL l)) (hl : l.length ≤ 1000)
    (hp:∀(W:World) (r:SReg),Below w.heap.size w W→Calls Tryz.prog 175 #[.agg #[r.n,r.p,r.seat.p,r.seat.d,r.seat.s,r.seat.h]] W (Makes (.bool (q r)) W)):
    Calls Tryz.prog 174 #[v,.func (.func 175) #[] #[]] w (Makes (.bool (l.any q)) w):=by
 have HI:=qq (indexR_lfg B l q v w hrow hl hp);obtain⟨a,cap,rfl,_,_⟩:=reg_row hrow;rw[←find_any];obtain⟨t,ht⟩:∃t,t=oix (l.findIdx? q):=⟨_,rfl⟩
 rw[←ht] at HI⊢;clear ht hp hl hrow;go_enter Tryz.func174,Tryz.ntmps174;go_wp2_with fail;refine HI.out.mono ?_;rintro e w1 ⟨rfl,hb1⟩;go_wp2_with fail;go_ret;exact⟨rfl,hb1⟩
theorem lforget_none (L:SLoc) (S:Sto) (na qa:Int) (ea:Int→Addr) (w:World) (hE:EnvS ea w) (h:StoreAt L S w) (hG:StoGood S) (hg:lGet S na qa=none):Calls Tryz.prog 75 #[.pointer (some ⟨L.sb,0,none⟩),.agg #[na,qa]] w (DirEnds ea res0 8 w):=by
 have H:=qq h;have HE:=qq hE;have HF:=qq (fun W hW=>Find_no L S na qa W hW hG hg);clear hE h hG;go_enter Tryz.func75,Tryz.ntmps75;go_wp2_with fail;refine(HF.out _ (H.out.below (bel_alloc (bel_alloc (Below.refl w.heap.size w) _) _))).mono ?_;rintro e w1 ⟨rfl,hb1⟩;have K1:=qq (((Blk.fresh _ _ _ (w.heap.size) (by simp)).alloc _).below hb1)
 have K2:=qq ((Blk.fresh _ _ _ (w.heap.size+1) (by simp)).below hb1);have HB:=qq (below_then (bel_alloc (bel_alloc (Below.refl w.heap.size w) _) _) hb1);have z1:=HB.out.size;clear hb1;have o3K1:=K1.out.lt;have o3K2:=K2.out.lt;obtain⟨lK1,qK1,fK1⟩:=K1.out;obtain⟨lK2,qK2,fK2⟩:=K2.out;go_wp2_with fail;clear qK1 fK1 lK1 qK2 fK2 lK2
 refine reg_start2 (fun w'=>Below w.heap.size w w') (fun w'=>Blk w' _ _) (by kernel_rfl) ((bel_drew (bel_alloc HB.out _))) ((K2.out.alloc _).drew) ?_;rintro w2 hHeld K2';have K2:=qq K2';clear K2';obtain HB':=id hHeld;have HB:=qq HB';clear HB';have z2:=HB.out.size;refine takeM (d:=some 17) 0 rfl rfl hHeld (fun w' _=>by go_simp;(try rfl)) ?_;simp only[puts]
 refine takeM (d:=some 18) 1 rfl rfl hHeld (fun w' hS'=>by have qA:w'.cell? ⟨7,0,none⟩=some (errV (ea 8)):=HE.out.e.e8.below hS';clear hS';go_simp;(try rfl)) ?_;simp only[puts];refine one_M 2 (by kernel_rfl) ?_;obtain⟨lK2,qK2,fK2⟩:=K2.out
 refine set_M 2 (((w2.setCell ⟨w.heap.size+1,0,none⟩ (.slice none 0 0)).setCell ⟨w.heap.size+1,1,none⟩ (.slice none 0 0)).setCell ⟨w.heap.size+1,2,none⟩ (.int .i64 0)) rfl rfl (by go_simp) (bel_set (bel_set (bel_set HB.out (p:=⟨w.heap.size+1,0,none⟩) (by(try dsimp only);omega) _) (p:=⟨w.heap.size+1,1,none⟩) (by(try dsimp only);omega) _) (p:=⟨w.heap.size+1,2,none⟩) (by(try dsimp only);omega) _) (fun hHeld2=> ?_)
 clear hHeld;have hHeld:=hHeld2;clear hHeld2;clear qK2 fK2 lK2
 (try simp only[puts])
 refine takeM (d:=some 5) 3 rfl rfl hHeld (fun w' _=>by go_simp;(try rfl)) ?_;simp only[puts];refine doneM (by kernel_rfl) ?_ _;clear hHeld;obtain⟨lK2,qK2,fK2⟩:=K2.out;go_wp2_with fail;have hV0:=(((K2.out.set' 0 (by simp) (.slice none 0 0)).set' 1 (by simp) (.slice none 0 0)).set' 2 (by simp) (.int .i64 0))
 have hVq0:=hV0.cell;have hVf0:=hV0.free;refine bodyPost_ret (v:=.tuple #[.agg #[.slice none 0 0,.slice none 0 0,.int .i64 0],errV (ea 8)]) (by simp[results,Tryz.results75,go_sem,hVq0,hVf0]) rfl ?_;clear qK2 fK2 lK2
 exact⟨none,0,none,0,rfl,⟨read_nil,read_mnil,no_block,no_block⟩,(bel_set (bel_set (bel_set HB.out (p:=⟨w.heap.size+1,0,none⟩) (by(try dsimp only);omega) _) (p:=⟨w.heap.size+1,1,none⟩) (by(try dsimp only);omega) _) (p:=⟨w.heap.size+1,2,none⟩) (by(try dsimp only);omega) _)⟩
theorem lforget_open (L:SLoc) (S:Sto) (na qa:Int) (ea:Int→Addr) (w:World) (hE:EnvS ea w) (h:StoreAt L S w) (hG:StoGood S) (i:Nat) (a:SAct) (hg:lGet S na qa=some (i,a)) (hob:lOpenRegs a=true):Calls Tryz.prog 75 #[.pointer (some ⟨L.sb,0,none⟩),.agg #[na,qa]] w (DirEnds ea res0 9 w):=by
 have H:=qq h;have HE:=qq hE;have HF:=qq (fun W hW=>Find_yes L S na qa i a W hW hG hg);have h6:a.regs.length≤1000:=by have:=(hG.act a (lGet_some hg).2.2.1).len;omega
 have HIX:=qq (fun B va vc W hr=>containsR_lfg B a.regs (fun r=>decide (r.seat.s≠14)) (.slice va a.regs.length vc) W hr h6 (fun W r _=>lforget1_of W r));unfold lOpenRegs at hob;rw[hob] at HIX;obtain⟨an,aq,oc,dp,ex,pa,de,rs⟩:=a;unfold ActOut at HF;dsimp only[actC] at*;obtain⟨vn,hvn⟩:∃n,n=rs.length:=⟨_,rfl⟩
 rw[←hvn] at HF HIX;clear hE h hG hg hob h6 hvn;go_enter Tryz.func75,Tryz.ntmps75;go_wp2_with fail;refine(HF.out _ (H.out.below (bel_alloc (bel_alloc (Below.refl w.heap.size w) _) _))).mono ?_;rintro e w1 ⟨v',rfl,ho,hb1⟩;obtain⟨va,vc,rfl,hlen,hrow⟩:=reg_row ho;clear hlen hrow;have K1:=qq (((Blk.fresh _ _ _ (w.heap.size) (by simp)).alloc _).below hb1)
 have K2:=qq ((Blk.fresh _ _ _ (w.heap.size+1) (by simp)).below hb1);have HB:=qq (below_then (bel_alloc (bel_alloc (Below.refl w.heap.size w) _) _) hb1);have z1:=HB.out.size;clear hb1;have HO:=qq (ho);have o3K1:=K1.out.lt;have o3K2:=K2.out.lt;obtain⟨lK1,qK1,fK1⟩:=K1.out;obtain⟨lK2,qK2,fK2⟩:=K2.out;go_wp2_with fail;clear qK1 fK1 lK1 qK2 fK2 lK2;refine(HIX.out _ _ _ _ (row_al HO.out _)).mono ?_
 rintro e w2 ⟨rfl,hb2⟩;have K2:=qq ((K2.out.alloc _).below hb2);have HO:=qq (row_be (row_al HO.out _) hb2);have K3:=qq ((Blk.fresh _ _ _ (w1.heap.size) (by simp)).below hb2);have HB:=qq (below_then (bel_alloc HB.out _) hb2);have z2:=HB.out.size;clear hb2;obtain⟨lK2,qK2,fK2⟩:=K2.out;obtain⟨lK3,qK3,fK3⟩:=K3.out;go_wp2_with fail;clear qK2 fK2 lK2 qK3 fK3 lK3
 refine reg_start2 (fun w'=>Below w.heap.size w w') (fun w'=>Blk w' _ _) (by kernel_rfl) ((bel_drew HB.out)) (K2.out.drew) ?_;rintro w3 hHeld K2';have K2:=qq K2';clear K2';obtain HB':=id hHeld;have HB:=qq HB';clear HB';have z3:=HB.out.size;refine takeM (d:=some 40) 0 rfl rfl hHeld (fun w' _=>by go_simp;(try rfl)) ?_;simp only[puts]
 refine takeM (d:=some 41) 1 rfl rfl hHeld (fun w' hS'=>by have qA:w'.cell? ⟨8,0,none⟩=some (errV (ea 9)):=HE.out.e.e9.below hS';clear hS';go_simp;(try rfl)) ?_;simp only[puts];refine one_M 2 (by kernel_rfl) ?_;obtain⟨lK2,qK2,fK2⟩:=K2.out
 refine set_M 2 (((w3.setCell ⟨w.heap.size+1,0,none⟩ (.slice none 0 0)).setCell ⟨w.heap.size+1,1,none⟩ (.slice none 0 0)).setCell ⟨w.heap.size+1,2,none⟩ (.int .i64 0)) rfl rfl (by go_simp) (bel_set (bel_set (bel_set HB.out (p:=⟨w.heap.size+1,0,none⟩) (by(try dsimp only);omega) _) (p:=⟨w.heap.size+1,1,none⟩) (by(try dsimp only);omega) _) (p:=⟨w.heap.size+1,2,none⟩) (by(try dsimp only);omega) _) (fun hHeld2=> ?_)
 clear hHeld;have hHeld:=hHeld2;clear hHeld2;clear qK2 fK2 lK2
 (try simp only[puts])
 refine takeM (d:=some 5) 3 rfl rfl hHeld (fun w' _=>by go_simp;(try rfl)) ?_;simp only[puts];refine doneM (by kernel_rfl) ?_ _;clear hHeld;obtain⟨lK2,qK2,fK2⟩:=K2.out;go_wp2_with fail;have hV0:=(((K2.out.set' 0 (by simp) (.slice none 0 0)).set' 1 (by simp) (.slice none 0 0)).set' 2 (by simp) (.int .i64 0))
 have hVq0:=hV0.cell;have hVf0:=hV0.free;refine bodyPost_ret (v:=.tuple #[.agg #[.slice none 0 0,.slice none 0 0,.int .i64 0],errV (ea 9)]) (by simp[results,Tryz.results75,go_sem,hVq0,hVf0]) rfl ?_;clear qK2 fK2 lK2
 exact⟨none,0,none,0,rfl,⟨read_nil,read_mnil,no_block,no_block⟩,(bel_set (bel_set (bel_set HB.out (p:=⟨w.heap.size+1,0,none⟩) (by(try dsimp only);omega) _) (p:=⟨w.heap.size+1,1,none⟩) (by(try dsimp only);omega) _) (p:=⟨w.heap.size+1,2,none⟩) (by(try dsimp only);omega) _)⟩
theorem lforget_stuck (L:SLoc) (S:Sto) (na qa:Int) (ea:Int→Addr) (w:World) (hE:EnvS ea w) (h:StoreAt L S w) (hG:StoGood S) (i:Nat) (a:SAct) (hg:lGet S na qa=some (i,a)) (hob:lOpenRegs a=false) (h1:a.oc=1) (h2:0<a.regs.length) (h3:a.de=0):Calls Tryz.prog 75 #[.pointer (some ⟨L.sb,0,none⟩),.agg #[na,qa]] w (DirEnds ea res0 9 w):=by
 have H:=qq h;have HE:=qq hE;have HF:=qq (fun W hW=>Find_yes L S na qa i a W hW hG hg);have h6:a.regs.length≤1000:=by have:=(hG.act a (lGet_some hg).2.2.1).len;omega
 have HIX:=qq (fun B va vc W hr=>containsR_lfg B a.regs (fun r=>decide (r.seat.s≠14)) (.slice va a.regs.length vc) W hr h6 (fun W r _=>lforget1_of W r));unfold lOpenRegs at hob;rw[hob] at HIX;obtain⟨an,aq,oc,dp,ex,pa,de,rs⟩:=a;unfold ActOut at HF;dsimp only[actC] at*;obtain⟨vn,hvn⟩:∃n,n=rs.length:=⟨_,rfl⟩
 rw[←hvn] at HF HIX h2;have e27:(oc==1)=true:=by simpa using h1
 have g32:decide ((vn:Int)>0)=true:=decide_eq_true (by omega);have g32':decide ((0:Int)<(vn:Int))=true:=decide_eq_true (by omega);have e37:(de==0)=true:=by simpa using h3
 clear h1 h3;clear hE h hG hg hob h6 hvn;go_enter Tryz.func75,Tryz.ntmps75;go_wp2_with fail;refine(HF.out _ (H.out.below (bel_alloc (bel_alloc (Below.refl w.heap.size w) _) _))).mono ?_;rintro e w1 ⟨v',rfl,ho,hb1⟩;obtain⟨va,vc,rfl,hlen,hrow⟩:=reg_row ho;clear hlen hrow;have K1:=qq (((Blk.fresh _ _ _ (w.heap.size) (by simp)).alloc _).below hb1)
 have K2:=qq ((Blk.fresh _ _ _ (w.heap.size+1) (by simp)).below hb1);have HB:=qq (below_then (bel_alloc (bel_alloc (Below.refl w.heap.size w) _) _) hb1);have z1:=HB.out.size;clear hb1;have HO:=qq (ho);have o3K1:=K1.out.lt;have o3K2:=K2.out.lt;obtain⟨lK1,qK1,fK1⟩:=K1.out;obtain⟨lK2,qK2,fK2⟩:=K2.out;go_wp2_with fail;clear qK1 fK1 lK1 qK2 fK2 lK2;refine(HIX.out _ _ _ _ (row_al HO.out _)).mono ?_
 rintro e w2 ⟨rfl,hb2⟩;have K2:=qq ((K2.out.alloc _).below hb2);have HO:=qq (row_be (row_al HO.out _) hb2);have K3:=qq ((Blk.fresh _ _ _ (w1.heap.size) (by simp)).below hb2);have HB:=qq (below_then (bel_alloc HB.out _) hb2);have z2:=HB.out.size;clear hb2;obtain⟨lK2,qK2,fK2⟩:=K2.out;obtain⟨lK3,qK3,fK3⟩:=K3.out;go_wp2_with fail;clear qK2 fK2 lK2 qK3 fK3 lK3
 refine reg_start2 (fun w'=>Below w.heap.size w w') (fun w'=>Blk w' _ _) (by kernel_rfl) ((bel_drew HB.out)) (K2.out.drew) ?_;rintro w3 hHeld K2';have K2:=qq K2';clear K2';obtain HB':=id hHeld;have HB:=qq HB';clear HB';have z3:=HB.out.size;refine takeM (d:=some 40) 0 rfl rfl hHeld (fun w' _=>by go_simp;(try rfl)) ?_;simp only[puts]
 refine takeM (d:=some 41) 1 rfl rfl hHeld (fun w' hS'=>by have qA:w'.cell? ⟨8,0,none⟩=some (errV (ea 9)):=HE.out.e.e9.below hS';clear hS';go_simp;(try rfl)) ?_;simp only[puts];refine one_M 2 (by kernel_rfl) ?_;obtain⟨lK2,qK2,fK2⟩:=K2.out
 refine set_M 2 (((w3.setCell ⟨w.heap.size+1,0,none⟩ (.slice none 0 0)).setCell ⟨w.heap.size+1,1,none⟩ (.slice none 0 0)).setCell ⟨w.heap.size+1,2,none⟩ (.int .i64 0)) rfl rfl (by go_simp) (bel_set (bel_set (bel_set HB.out (p:=⟨w.heap.size+1,0,none⟩) (by(try dsimp only);omega) _) (p:=⟨w.heap.size+1,1,none⟩) (by(try dsimp only);omega) _) (p:=⟨w.heap.size+1,2,none⟩) (by(try dsimp only);omega) _) (fun hHeld2=> ?_)
 clear hHeld;have hHeld:=hHeld2;clear hHeld2;clear qK2 fK2 lK2
 (try simp only[puts])
 refine takeM (d:=some 5) 3 rfl rfl hHeld (fun w' _=>by go_simp;(try rfl)) ?_;simp only[puts];refine doneM (by kernel_rfl) ?_ _;clear hHeld;obtain⟨lK2,qK2,fK2⟩:=K2.out;go_wp2_with fail;have hV0:=(((K2.out.set' 0 (by simp) (.slice none 0 0)).set' 1 (by simp) (.slice none 0 0)).set' 2 (by simp) (.int .i64 0))
 have hVq0:=hV0.cell;have hVf0:=hV0.free;refine bodyPost_ret (v:=.tuple #[.agg #[.slice none 0 0,.slice none 0 0,.int .i64 0],errV (ea 9)]) (by simp[results,Tryz.results75,go_sem,hVq0,hVf0]) rfl ?_;clear qK2 fK2 lK2
 exact⟨none,0,none,0,rfl,⟨read_nil,read_mnil,no_block,no_block⟩,(bel_set (bel_set (bel_set HB.out (p:=⟨w.heap.size+1,0,none⟩) (by(try dsimp only);omega) _) (p:=⟨w.heap.size+1,1,none⟩) (by(try dsimp only);omega) _) (p:=⟨w.heap.size+1,2,none⟩) (by(try dsimp only);omega) _)⟩
theorem lforget_ok1 (L:SLoc) (S:Sto) (na qa:Int) (ea:Int→Addr) (w:World) (hE:EnvS ea w) (h:StoreAt L S w) (hG:StoGood S) (i:Nat) (a:SAct) (hg:lGet S na qa=some (i,a)) (hob:lOpenRegs a=false) (h1:¬a.oc=1):Calls Tryz.prog 75 #[.pointer (some ⟨L.sb,0,none⟩),.agg #[na,qa]] w (DirEnds ea ⟨[fForget na qa],[],0⟩ 0 w):=by
 have H:=qq h;have HE:=qq hE;have HF:=qq (fun W hW=>Find_yes L S na qa i a W hW hG hg);have h6:a.regs.length≤1000:=by have:=(hG.act a (lGet_some hg).2.2.1).len;omega
 have HIX:=qq (fun B va vc W hr=>containsR_lfg B a.regs (fun r=>decide (r.seat.s≠14)) (.slice va a.regs.length vc) W hr h6 (fun W r _=>lforget1_of W r));unfold lOpenRegs at hob;rw[hob] at HIX;obtain⟨an,aq,oc,dp,ex,pa,de,rs⟩:=a;unfold ActOut at HF;dsimp only[actC] at*;obtain⟨vn,hvn⟩:∃n,n=rs.length:=⟨_,rfl⟩
 rw[←hvn] at HF HIX;have e27:(oc==1)=false:=by simpa using h1
 clear h1;clear hE h hG hg hob h6 hvn;go_enter Tryz.func75,Tryz.ntmps75;go_wp2_with fail;refine(HF.out _ (H.out.below (bel_alloc (bel_alloc (Below.refl w.heap.size w) _) _))).mono ?_;rintro e w1 ⟨v',rfl,ho,hb1⟩;obtain⟨va,vc,rfl,hlen,hrow⟩:=reg_row ho;clear hlen hrow;have K1:=qq (((Blk.fresh _ _ _ (w.heap.size) (by simp)).alloc _).below hb1)
 have K2:=qq ((Blk.fresh _ _ _ (w.heap.size+1) (by simp)).below hb1);have HB:=qq (below_then (bel_alloc (bel_alloc (Below.refl w.heap.size w) _) _) hb1);have z1:=HB.out.size;clear hb1;have HO:=qq (ho);have o3K1:=K1.out.lt;have o3K2:=K2.out.lt;obtain⟨lK1,qK1,fK1⟩:=K1.out;obtain⟨lK2,qK2,fK2⟩:=K2.out;go_wp2_with fail;clear qK1 fK1 lK1 qK2 fK2 lK2;refine(HIX.out _ _ _ _ (row_al HO.out _)).mono ?_
 rintro e w2 ⟨rfl,hb2⟩;have K1:=qq ((K1.out.alloc _).below hb2);have K2:=qq ((K2.out.alloc _).below hb2);have HO:=qq (row_be (row_al HO.out _) hb2);have K3:=qq ((Blk.fresh _ _ _ (w1.heap.size) (by simp)).below hb2);have HB:=qq (below_then (bel_alloc HB.out _) hb2);have z2:=HB.out.size;clear hb2;have o4K1:=K1.out.lt;have o4K2:=K2.out.lt;have o4K3:=K3.out.lt;obtain⟨lK1,qK1,fK1⟩:=K1.out
 obtain⟨lK2,qK2,fK2⟩:=K2.out;obtain⟨lK3,qK3,fK3⟩:=K3.out;go_wp2_with fail;have hV0:=((((K2.out.set' 0 (by simp) (.slice (some ⟨w2.heap.size,0,none⟩) 1 1)).set' 1 (by simp) (.slice none 0 0)).set' 2 (by simp) (.int .i64 0)).alloc (.cells #[.int .i64 5,na,qa,.int .i64 0,.int .i64 0,.int .i64 0,.int .i64 0,.int .i64 0,.int .i64 0,.int .i64 0,.int .i64 0,.int .i64 0,.int .i64 0,.float .f64 0] 39))
 have hVq0:=hV0.cell;have hVf0:=hV0.free;refine bodyPost_ret (v:=.tuple #[.agg #[.slice (some ⟨w2.heap.size,0,none⟩) 1 1,.slice none 0 0,.int .i64 0],.nilIface]) (by simp[results,Tryz.results75,go_sem,hVq0,hVf0]) rfl ?_;clear qK1 fK1 lK1 qK2 fK2 lK2 qK3 fK3 lK3
 exact⟨some ⟨w2.heap.size,0,none⟩,1,none,0,rfl,⟨read_fone (f:=fForget na qa) (Blk.fresh ((((w2.setCell ⟨w.heap.size+1,0,none⟩ (.slice (some ⟨w2.heap.size,0,none⟩) 1 1)).setCell ⟨w.heap.size+1,1,none⟩ (.slice none 0 0)).setCell ⟨w.heap.size+1,2,none⟩ (.int .i64 0))) #[.int .i64 5,.int .i64 na,.int .i64 qa,.int .i64 0,.int .i64 0,.int .i64 0,.int .i64 0,.int .i64 0,.int .i64 0,.int .i64 0,.int .i64 0,.int .i64 0,.int .i64 0,.float .f64 0] 39 (w2.heap.size) (by simp)),read_mnil,one_block (by first | omega | (simp;done) | (simp;omega)),no_block⟩,(bel_alloc (bel_set (bel_set (bel_set HB.out (p:=⟨w.heap.size+1,0,none⟩) (by(try dsimp only);omega) _) (p:=⟨w.heap.size+1,1,none⟩) (by(try dsimp only);omega) _) (p:=⟨w.heap.size+1,2,none⟩) (by(try dsimp only);omega) _) _)⟩
theorem lforget_ok2 (L:SLoc) (S:Sto) (na qa:Int) (ea:Int→Addr) (w:World) (hE:EnvS ea w) (h:StoreAt L S w) (hG:StoGood S) (i:Nat) (a:SAct) (hg:lGet S na qa=some (i,a)) (hob:lOpenRegs a=false) (h1:a.oc=1) (h2:¬0<a.regs.length):Calls Tryz.prog 75 #[.pointer (some ⟨L.sb,0,none⟩),.agg #[na,qa]] w (DirEnds ea ⟨[fForget na qa],[],0⟩ 0 w):=by
 have H:=qq h;have HE:=qq hE;have HF:=qq (fun W hW=>Find_yes L S na qa i a W hW hG hg);have h6:a.regs.length≤1000:=by have:=(hG.act a (lGet_some hg).2.2.1).len;omega
 have HIX:=qq (fun B va vc W hr=>containsR_lfg B a.regs (fun r=>decide (r.seat.s≠14)) (.slice va a.regs.length vc) W hr h6 (fun W r _=>lforget1_of W r));unfold lOpenRegs at hob;rw[hob] at HIX;obtain⟨an,aq,oc,dp,ex,pa,de,rs⟩:=a;unfold ActOut at HF;dsimp only[actC] at*;obtain⟨vn,hvn⟩:∃n,n=rs.length:=⟨_,rfl⟩
 rw[←hvn] at HF HIX h2;have e27:(oc==1)=true:=by simpa using h1
 have g32:decide ((vn:Int)>0)=false:=decide_eq_false (by omega);have g32':decide ((0:Int)<(vn:Int))=false:=decide_eq_false (by omega);clear h1;clear hE h hG hg hob h6 hvn;go_enter Tryz.func75,Tryz.ntmps75;go_wp2_with fail;refine(HF.out _ (H.out.below (bel_alloc (bel_alloc (Below.refl w.heap.size w) _) _))).mono ?_;rintro e w1 ⟨v',rfl,ho,hb1⟩;obtain⟨va,vc,rfl,hlen,hrow⟩:=reg_row ho;clear hlen hrow
 have K1:=qq (((Blk.fresh _ _ _ (w.heap.size) (by simp)).alloc _).below hb1);have K2:=qq ((Blk.fresh _ _ _ (w.heap.size+1) (by simp)).below hb1);have HB:=qq (below_then (bel_alloc (bel_alloc (Below.refl w.heap.size w) _) _) hb1);have z1:=HB.out.size;clear hb1;have HO:=qq (ho);have o3K1:=K1.out.lt;have o3K2:=K2.out.lt;obtain⟨lK1,qK1,fK1⟩:=K1.out;obtain⟨lK2,qK2,fK2⟩:=K2.out;go_wp2_with fail
 clear qK1 fK1 lK1 qK2 fK2 lK2;refine(HIX.out _ _ _ _ (row_al HO.out _)).mono ?_;rintro e w2 ⟨rfl,hb2⟩;have K1:=qq ((K1.out.alloc _).below hb2);have K2:=qq ((K2.out.alloc _).below hb2);have HO:=qq (row_be (row_al HO.out _) hb2);have K3:=qq ((Blk.fresh _ _ _ (w1.heap.size) (by simp)).below hb2);have HB:=qq (below_then (bel_alloc HB.out _) hb2);have z2:=HB.out.size;clear hb2
 have o4K1:=K1.out.lt;have o4K2:=K2.out.lt;have o4K3:=K3.out.lt;obtain⟨lK1,qK1,fK1⟩:=K1.out;obtain⟨lK2,qK2,fK2⟩:=K2.out;obtain⟨lK3,qK3,fK3⟩:=K3.out;go_wp2_with fail
 have hV0:=((((K2.out.set' 0 (by simp) (.slice (some ⟨w2.heap.size,0,none⟩) 1 1)).set' 1 (by simp) (.slice none 0 0)).set' 2 (by simp) (.int .i64 0)).alloc (.cells #[.int .i64 5,na,qa,.int .i64 0,.int .i64 0,.int .i64 0,.int .i64 0,.int .i64 0,.int .i64 0,.int .i64 0,.int .i64 0,.int .i64 0,.int .i64 0,.float .f64 0] 39))
 have hVq0:=hV0.cell;have hVf0:=hV0.free;refine bodyPost_ret (v:=.tuple #[.agg #[.slice (some ⟨w2.heap.size,0,none⟩) 1 1,.slice none 0 0,.int .i64 0],.nilIface]) (by simp[results,Tryz.results75,go_sem,hVq0,hVf0]) rfl ?_;clear qK1 fK1 lK1 qK2 fK2 lK2 qK3 fK3 lK3
 exact⟨some ⟨w2.heap.size,0,none⟩,1,none,0,rfl,⟨read_fone (f:=fForget na qa) (Blk.fresh ((((w2.setCell ⟨w.heap.size+1,0,none⟩ (.slice (some ⟨w2.heap.size,0,none⟩) 1 1)).setCell ⟨w.heap.size+1,1,none⟩ (.slice none 0 0)).setCell ⟨w.heap.size+1,2,none⟩ (.int .i64 0))) #[.int .i64 5,.int .i64 na,.int .i64 qa,.int .i64 0,.int .i64 0,.int .i64 0,.int .i64 0,.int .i64 0,.int .i64 0,.int .i64 0,.int .i64 0,.int .i64 0,.int .i64 0,.float .f64 0] 39 (w2.heap.size) (by simp)),read_mnil,one_block (by first | omega | (simp;done) | (simp;omega)),no_block⟩,(bel_alloc (bel_set (bel_set (bel_set HB.out (p:=⟨w.heap.size+1,0,none⟩) (by(try dsimp only);omega) _) (p:=⟨w.heap.size+1,1,none⟩) (by(try dsimp only);omega) _) (p:=⟨w.heap.size+1,2,none⟩) (by(try dsimp only);omega) _) _)⟩
theorem lforget_ok3 (L:SLoc) (S:Sto) (na qa:Int) (ea:Int→Addr) (w:World) (hE:EnvS ea w) (h:StoreAt L S w) (hG:StoGood S) (i:Nat) (a:SAct) (hg:lGet S na qa=some (i,a)) (hob:lOpenRegs a=false) (h1:a.oc=1) (h2:0<a.regs.length) (h3:¬a.de=0):Calls Tryz.prog 75 #[.pointer (some ⟨L.sb,0,none⟩),.agg #[na,qa]] w (DirEnds ea ⟨[fForget na qa],[],0⟩ 0 w):=by
 have H:=qq h;have HE:=qq hE;have HF:=qq (fun W hW=>Find_yes L S na qa i a W hW hG hg);have h6:a.regs.length≤1000:=by have:=(hG.act a (lGet_some hg).2.2.1).len;omega
 have HIX:=qq (fun B va vc W hr=>containsR_lfg B a.regs (fun r=>decide (r.seat.s≠14)) (.slice va a.regs.length vc) W hr h6 (fun W r _=>lforget1_of W r));unfold lOpenRegs at hob;rw[hob] at HIX;obtain⟨an,aq,oc,dp,ex,pa,de,rs⟩:=a;unfold ActOut at HF;dsimp only[actC] at*;obtain⟨vn,hvn⟩:∃n,n=rs.length:=⟨_,rfl⟩
 rw[←hvn] at HF HIX h2;have e27:(oc==1)=true:=by simpa using h1
 have g32:decide ((vn:Int)>0)=true:=decide_eq_true (by omega);have g32':decide ((0:Int)<(vn:Int))=true:=decide_eq_true (by omega);have e37:(de==0)=false:=by simpa using h3
 clear h1 h3;clear hE h hG hg hob h6 hvn;go_enter Tryz.func75,Tryz.ntmps75;go_wp2_with fail;refine(HF.out _ (H.out.below (bel_alloc (bel_alloc (Below.refl w.heap.size w) _) _))).mono ?_;rintro e w1 ⟨v',rfl,ho,hb1⟩;obtain⟨va,vc,rfl,hlen,hrow⟩:=reg_row ho;clear hlen hrow;have K1:=qq (((Blk.fresh _ _ _ (w.heap.size) (by simp)).alloc _).below hb1)
 have K2:=qq ((Blk.fresh _ _ _ (w.heap.size+1) (by simp)).below hb1);have HB:=qq (below_then (bel_alloc (bel_alloc (Below.refl w.heap.size w) _) _) hb1);have z1:=HB.out.size;clear hb1;have HO:=qq (ho);have o3K1:=K1.out.lt;have o3K2:=K2.out.lt;obtain⟨lK1,qK1,fK1⟩:=K1.out;obtain⟨lK2,qK2,fK2⟩:=K2.out;go_wp2_with fail;clear qK1 fK1 lK1 qK2 fK2 lK2;refine(HIX.out _ _ _ _ (row_al HO.out _)).mono ?_
 rintro e w2 ⟨rfl,hb2⟩;have K1:=qq ((K1.out.alloc _).below hb2);have K2:=qq ((K2.out.alloc _).below hb2);have HO:=qq (row_be (row_al HO.out _) hb2);have K3:=qq ((Blk.fresh _ _ _ (w1.heap.size) (by simp)).below hb2);have HB:=qq (below_then (bel_alloc HB.out _) hb2);have z2:=HB.out.size;clear hb2;have o4K1:=K1.out.lt;have o4K2:=K2.out.lt;have o4K3:=K3.out.lt;obtain⟨lK1,qK1,fK1⟩:=K1.out
 obtain⟨lK2,qK2,fK2⟩:=K2.out;obtain⟨lK3,qK3,fK3⟩:=K3.out;go_wp2_with fail;have hV0:=((((K2.out.set' 0 (by simp) (.slice (some ⟨w2.heap.size,0,none⟩) 1 1)).set' 1 (by simp) (.slice none 0 0)).set' 2 (by simp) (.int .i64 0)).alloc (.cells #[.int .i64 5,na,qa,.int .i64 0,.int .i64 0,.int .i64 0,.int .i64 0,.int .i64 0,.int .i64 0,.int .i64 0,.int .i64 0,.int .i64 0,.int .i64 0,.float .f64 0] 39))
 have hVq0:=hV0.cell;have hVf0:=hV0.free;refine bodyPost_ret (v:=.tuple #[.agg #[.slice (some ⟨w2.heap.size,0,none⟩) 1 1,.slice none 0 0,.int .i64 0],.nilIface]) (by simp[results,Tryz.results75,go_sem,hVq0,hVf0]) rfl ?_;clear qK1 fK1 lK1 qK2 fK2 lK2 qK3 fK3 lK3
 exact⟨some ⟨w2.heap.size,0,none⟩,1,none,0,rfl,⟨read_fone (f:=fForget na qa) (Blk.fresh ((((w2.setCell ⟨w.heap.size+1,0,none⟩ (.slice (some ⟨w2.heap.size,0,none⟩) 1 1)).setCell ⟨w.heap.size+1,1,none⟩ (.slice none 0 0)).setCell ⟨w.heap.size+1,2,none⟩ (.int .i64 0))) #[.int .i64 5,.int .i64 na,.int .i64 qa,.int .i64 0,.int .i64 0,.int .i64 0,.int .i64 0,.int .i64 0,.int .i64 0,.int .i64 0,.int .i64 0,.int .i64 0,.int .i64 0,.float .f64 0] 39 (w2.heap.size) (by simp)),read_mnil,one_block (by first | omega | (simp;done) | (simp;omega)),no_block⟩,(bel_alloc (bel_set (bel_set (bel_set HB.out (p:=⟨w.heap.size+1,0,none⟩) (by(try dsimp only);omega) _) (p:=⟨w.heap.size+1,1,none⟩) (by(try dsimp only);omega) _) (p:=⟨w.heap.size+1,2,none⟩) (by(try dsimp only);omega) _) _)⟩
theorem lforget_of (L:SLoc) (S:Sto) (na qa:Int) (ea:Int→Addr) (w:World) (hE:EnvS ea w) (h:StoreAt L S w) (hG:StoGood S):Calls Tryz.prog 75 #[.pointer (some ⟨L.sb,0,none⟩),.agg #[na,qa]] w (DirEnds ea (lForget S na qa).1 (lForget S na qa).2 w):=by
 unfold lForget
 cases hg:lGet S na qa with
 | none=>exact lforget_none L S na qa ea w hE h hG hg
 | some x=>
  obtain⟨i,a⟩:=x;dsimp only
  cases hob:lOpenRegs a with
  | true=>rw[if_pos rfl];exact lforget_open L S na qa ea w hE h hG i a hg hob
  | false=>
   rw[if_neg (by simp)];by_cases h1:a.oc=1
   case neg=>rw[if_neg (fun x=>h1 x.1)];exact lforget_ok1 L S na qa ea w hE h hG i a hg hob h1
   by_cases h2:0<a.regs.length
   case neg=>rw[if_neg (fun x=>h2 x.2.1)];exact lforget_ok2 L S na qa ea w hE h hG i a hg hob h1 h2
   by_cases h3:a.de=0
   · rw[if_pos ⟨h1,h2,h3⟩];exact lforget_stuck L S na qa ea w hE h hG i a hg hob h1 h2 h3
   · rw[if_neg (fun x=>h3 x.2.2)];exact lforget_ok3 L S na qa ea w hE h hG i a hg hob h1 h2 h3
theorem rforget_none (R:RLoc) (S:Sto) (na qa:Int) (w:World) (h:RStoreAt R S w) (hG:StoGood S) (hf:sfind S na qa=none):Calls Tryz.prog 76 #[.pointer (some ⟨R.sb,0,none⟩),.agg #[na,qa]] w (RDoEnds res0 8 w):=by
 have HF:=qq (fun W (hW:Below w.heap.size w W)=>rfind_of R S na qa W (h.below hW) hG.acts);rw[hf] at HF;dsimp only[oix] at HF;clear h hG hf;go_enter Tryz.func76,Tryz.ntmps76;go_wp2_with fail;refine(HF.out _ (bel_alloc (bel_alloc (Below.refl w.heap.size w) _) _)).mono ?_;rintro e w1 ⟨rfl,hb1⟩;have K1:=qq (((Blk.fresh _ _ _ (w.heap.size) (by simp)).alloc _).below hb1)
 have K2:=qq ((Blk.fresh _ _ _ (w.heap.size+1) (by simp)).below hb1);have HB:=qq (below_then (bel_alloc (bel_alloc (Below.refl w.heap.size w) _) _) hb1);have z1:=HB.out.size;clear hb1;obtain⟨lK1,qK1,fK1⟩:=K1.out;obtain⟨lK2,qK2,fK2⟩:=K2.out;go_wp2_with fail;have hV0:=(((K2.out.set' 0 (by simp) (.slice none 0 0)).set' 1 (by simp) (.slice none 0 0)).set' 2 (by simp) (.int .i64 0))
 have hVq0:=hV0.cell;have hVf0:=hV0.free;refine bodyPost_ret (v:=.tuple #[.agg #[.slice none 0 0,.slice none 0 0,.int .i64 0],.int .i64 8]) (by simp[results,Tryz.results76,go_sem,hVq0,hVf0]) rfl ?_;clear qK1 fK1 lK1 qK2 fK2 lK2
 exact⟨_,_,rfl,read_nil,read_mnil,(bel_set (bel_set (bel_set HB.out (p:=⟨w.heap.size+1,0,none⟩) (by(try dsimp only);omega) _) (p:=⟨w.heap.size+1,1,none⟩) (by(try dsimp only);omega) _) (p:=⟨w.heap.size+1,2,none⟩) (by(try dsimp only);omega) _)⟩
def lForgetA (a:SAct) (na qa:Int):SRes×Int:=
 if lOpenRegs a=true then(res0,9)
 else if a.oc=1∧0<a.regs.length∧a.de=0 then(res0,9)
 else(⟨[fForget na qa],[],0⟩,0)
theorem lForgetA_9 {a:SAct} {na qa:Int} (j:Nat) (r:SReg) (hj:a.regs[j]? =some r) (h:r.seat.s≠14∨a.oc=1∧a.de=0):lForgetA a na qa=(res0,9):=by
 have hm:=List.mem_of_getElem? hj;have hl:=(List.getElem?_eq_some_iff.1 hj).1;unfold lForgetA;by_cases ho:lOpenRegs a=true
 · rw[if_pos ho]
 · rw[if_neg ho];rcases h with h | h
   · exact absurd (List.any_eq_true.2 ⟨r,hm,by simpa using h⟩) ho
   · rw[if_pos ⟨h.1,by omega,h.2⟩]
theorem lForgetA_0 {a:SAct} {na qa:Int} (h:∀(j:Nat) (r:SReg),a.regs[j]? =some r→¬(r.seat.s≠14∨a.oc=1∧a.de=0)):lForgetA a na qa=(⟨[fForget na qa],[],0⟩,0):=by
 unfold lForgetA;rw[if_neg (fun ho=>by
   obtain⟨r,hm,hr⟩:=List.any_eq_true.1 ho;obtain⟨j,hj⟩:=List.getElem?_of_mem hm;exact h j r hj (.inl (by simpa using hr))),if_neg (fun hx=>by
   obtain⟨r,hr⟩:∃r,a.regs[0]? =some r:=⟨_,List.getElem?_eq_getElem hx.2.1⟩
   exact h 0 r hr (.inr ⟨hx.1,hx.2.2⟩))]
theorem rforget_yes (R:RLoc) (S:Sto) (na qa:Int) (i:Nat) (a:SAct) (w:World) (h:RStoreAt R S w) (hG:StoGood S) (hf:sfind S na qa=some i) (ha:S.acts[i]? =some a):Calls Tryz.prog 76 #[.pointer (some ⟨R.sb,0,none⟩),.agg #[na,qa]] w (RDoEnds (lForgetA a na qa).1 (lForgetA a na qa).2 w):=by
 have HF:=qq (fun W (hW:Below w.heap.size w W)=>rfind_of R S na qa W (h.below hW) hG.acts);rw[hf] at HF;dsimp only[oix] at HF;obtain⟨g,n,cap,va,vc,hin,hn8,hv6,hQ,hRR⟩:=ract_at h hG ha;obtain⟨nd,hnd⟩:∃nd,nd=S.node:=⟨_,rfl⟩
 have hi0:(0:Int)≤(i:Int):=by omega
 have hi1:(i:Int)<(n:Int):=by omega
 have HP9:=qq (@lForgetA_9 a na qa);have HPE:=qq (@lForgetA_0 a na qa);generalize lForgetA a na qa=X at*;have HRR:=qq hRR;obtain⟨an,aq,oc,dp,ex,pa,de,rs⟩:=a;unfold ActC at hQ;dsimp only at*;obtain⟨vn,hvn⟩:∃n,n=rs.length:=⟨_,rfl⟩
 rw[←hvn] at hQ hv6;have HVN:=qq hvn;have HQ:=qq hQ
 (try dsimp only at HP9 HPE HRR)
 have hi00:¬(i:Int)<0:=by omega
 clear h hG hf ha hnd hvn hQ hRR;go_enter Tryz.func76,Tryz.ntmps76;obtain⟨xl,gl,xn,xa,a0,a1,a2,a3,a4,a5,a6,a7⟩:=HQ.out _ (Below.refl _ _);go_wp2_with fail;clear xl gl xn xa a0 a1 a2 a3 a4 a5 a6 a7;refine(HF.out _ (bel_alloc (bel_alloc (Below.refl w.heap.size w) _) _)).mono ?_;rintro e w1 ⟨rfl,hb1⟩;have K1:=qq (((Blk.fresh _ _ _ (w.heap.size) (by simp)).alloc _).below hb1)
 have K2:=qq ((Blk.fresh _ _ _ (w.heap.size+1) (by simp)).below hb1);have HB:=qq (below_then (bel_alloc (bel_alloc (Below.refl w.heap.size w) _) _) hb1);have z1:=HB.out.size;clear hb1;have o3K1:=K1.out.lt;have o3K2:=K2.out.lt;obtain⟨xl,gl,xn,xa,a0,a1,a2,a3,a4,a5,a6,a7⟩:=HQ.out _ HB.out;go_wp2_with fail;clear xl gl xn xa a0 a1 a2 a3 a4 a5 a6 a7
 go_loopw [26] (fun x wr=>∃k:Nat,k≤vn∧x=.int .i64 (k:Nat)∧Hid (∀j:Nat,j<k→∀r,rs[j]? =some r→¬(r.seat.s≠14∨oc=1∧de=0))∧Hid (Blk wr w.heap.size #[na,qa])∧Hid (Blk wr (w.heap.size+1) #[.slice none 0 0,.slice none 0 0,.int .i64 0])∧Hid (Blk wr w1.heap.size #[an,aq,oc,dp,.float .f64 ex,pa,de,.slice va vn vc])∧Hid (Below w.heap.size w wr)) (fun x _=>vn - (intOf x).toNat)
 case atStart=>exact⟨0,by omega,by first | rfl | go_num,qq (fun j hj=>absurd hj (by omega)),qq (K1.out.alloc _),qq (K2.out.alloc _),qq (Blk.fresh _ _ _ (w1.heap.size) (by simp)),qq (bel_alloc HB.out _)⟩
 case round=>
  clear K1 K2 HB;obtain⟨k,hk,rfl,HALL0,K1,K2,K3,HB⟩:=hrel;by_cases hlt:k<vn
  · obtain⟨r,hr⟩:∃r,rs[k]? =some r:=⟨_,List.getElem?_eq_getElem (by rw[←HVN.out];exact hlt)⟩
    obtain⟨gr,rfl,hQR⟩:=HRR.out k r hr;have HRK:=qq hr;have hki:(k:Int)<(vn:Int):=by omega
    have hk0:(0:Int)≤(k:Int):=by omega
    obtain⟨rn,rp,⟨sp,sd,ss,sh⟩⟩:=r;unfold RegC at hQR;dsimp only at hQR;have HQR:=qq hQR;clear hQR hr HRR;by_cases h14:ss=14
    case neg=>
     have HC:=qq (show ss≠14∨oc=1∧de=0 from .inl h14);have e14:(ss !=14)=true:=by simpa using h14
     clear h14;have o21K1:=K1.out.lt;have o21K2:=K2.out.lt;have o21K3:=K3.out.lt;obtain⟨rl,r0,r1,r2,r3,r4,r5⟩:=HQR.out _ HB.out;obtain⟨lK1,qK1,fK1⟩:=K1.out;obtain⟨lK2,qK2,fK2⟩:=K2.out;obtain⟨lK3,qK3,fK3⟩:=K3.out;go_wp2_with fail;have hV0:=((((K2.out.set' 0 (by simp) (.slice none 0 0)).set' 1 (by simp) (.slice none 0 0)).set' 2 (by simp) (.int .i64 0)).alloc (.cells #[rn,rp,sp,sd,ss,sh] 199))
     have hVq0:=hV0.cell;have hVf0:=hV0.free;refine bodyPost_ret (v:=.tuple #[.agg #[.slice none 0 0,.slice none 0 0,.int .i64 0],.int .i64 9]) (by simp[results,Tryz.results76,go_sem,hVq0,hVf0]) rfl ?_;clear qK1 fK1 lK1 qK2 fK2 lK2 qK3 fK3 lK3 rl r0 r1 r2 r3 r4 r5
     exact by rw[HP9.out k _ HRK.out (HC.out)];exact⟨_,_,rfl,read_nil,read_mnil,(bel_alloc (bel_set (bel_set (bel_set HB.out (p:=⟨w.heap.size+1,0,none⟩) (by(try dsimp only);omega) _) (p:=⟨w.heap.size+1,1,none⟩) (by(try dsimp only);omega) _) (p:=⟨w.heap.size+1,2,none⟩) (by(try dsimp only);omega) _) _)⟩
    have e14:(ss !=14)=false:=by simpa using h14
    by_cases h1:oc=1
    · have e1:(oc==1)=true:=by simpa using h1
      by_cases h0:de=0
      · have HC:=qq (show ss≠14∨oc=1∧de=0 from .inr ⟨h1,h0⟩);have e0:(de==0)=true:=by simpa using h0
        clear h14 h1 h0;have o21K1:=K1.out.lt;have o21K2:=K2.out.lt;have o21K3:=K3.out.lt;obtain⟨rl,r0,r1,r2,r3,r4,r5⟩:=HQR.out _ HB.out;obtain⟨lK1,qK1,fK1⟩:=K1.out;obtain⟨lK2,qK2,fK2⟩:=K2.out;obtain⟨lK3,qK3,fK3⟩:=K3.out;go_wp2_with fail
        have hV0:=((((K2.out.set' 0 (by simp) (.slice none 0 0)).set' 1 (by simp) (.slice none 0 0)).set' 2 (by simp) (.int .i64 0)).alloc (.cells #[rn,rp,sp,sd,ss,sh] 199))
        have hVq0:=hV0.cell;have hVf0:=hV0.free;refine bodyPost_ret (v:=.tuple #[.agg #[.slice none 0 0,.slice none 0 0,.int .i64 0],.int .i64 9]) (by simp[results,Tryz.results76,go_sem,hVq0,hVf0]) rfl ?_;clear qK1 fK1 lK1 qK2 fK2 lK2 qK3 fK3 lK3 rl r0 r1 r2 r3 r4 r5
        exact by rw[HP9.out k _ HRK.out (HC.out)];exact⟨_,_,rfl,read_nil,read_mnil,(bel_alloc (bel_set (bel_set (bel_set HB.out (p:=⟨w.heap.size+1,0,none⟩) (by(try dsimp only);omega) _) (p:=⟨w.heap.size+1,1,none⟩) (by(try dsimp only);omega) _) (p:=⟨w.heap.size+1,2,none⟩) (by(try dsimp only);omega) _) _)⟩
      · have e0:(de==0)=false:=by simpa using h0
        have HALL:Hid (∀j:Nat,j<k+1→∀r,rs[j]? =some r→¬(r.seat.s≠14∨oc=1∧de=0)):=qq (fun j hj r hr=>by
          rcases Nat.lt_or_eq_of_le (Nat.le_of_lt_succ hj) with h | h
          · exact HALL0.out j h r hr
          · subst h;rw[HRK.out] at hr;obtain rfl:=Option.some.inj hr;rintro(x | x);exact x h14;exact h0 x.2)
        clear h14 h1 h0;have o21K1:=K1.out.lt;have o21K2:=K2.out.lt;have o21K3:=K3.out.lt;obtain⟨rl,r0,r1,r2,r3,r4,r5⟩:=HQR.out _ HB.out;obtain⟨lK1,qK1,fK1⟩:=K1.out;obtain⟨lK2,qK2,fK2⟩:=K2.out;obtain⟨lK3,qK3,fK3⟩:=K3.out;go_wp2_with fail;clear qK1 fK1 lK1 qK2 fK2 lK2 qK3 fK3 lK3 rl r0 r1 r2 r3 r4 r5;go_roundw
        case rel=>exact⟨k+1,by omega,by go_num,HALL,qq (K1.out.alloc _),qq (K2.out.alloc _),qq (K3.out.alloc _),qq (bel_alloc HB.out _)⟩
        case measure=>(simp[intOf];omega)
    · have e1:(oc==1)=false:=by simpa using h1
      have HALL:Hid (∀j:Nat,j<k+1→∀r,rs[j]? =some r→¬(r.seat.s≠14∨oc=1∧de=0)):=qq (fun j hj r hr=>by
        rcases Nat.lt_or_eq_of_le (Nat.le_of_lt_succ hj) with h | h
        · exact HALL0.out j h r hr
        · subst h;rw[HRK.out] at hr;obtain rfl:=Option.some.inj hr;rintro(x | x);exact x h14;exact h1 x.1)
      clear h14 h1;have o21K1:=K1.out.lt;have o21K2:=K2.out.lt;have o21K3:=K3.out.lt;obtain⟨rl,r0,r1,r2,r3,r4,r5⟩:=HQR.out _ HB.out;obtain⟨lK1,qK1,fK1⟩:=K1.out;obtain⟨lK2,qK2,fK2⟩:=K2.out;obtain⟨lK3,qK3,fK3⟩:=K3.out;go_wp2_with fail;clear qK1 fK1 lK1 qK2 fK2 lK2 qK3 fK3 lK3 rl r0 r1 r2 r3 r4 r5;go_roundw
      case rel=>exact⟨k+1,by omega,by go_num,HALL,qq (K1.out.alloc _),qq (K2.out.alloc _),qq (K3.out.alloc _),qq (bel_alloc HB.out _)⟩
      case measure=>(simp[intOf];omega)
  · obtain rfl:k=vn:=by omega
    have o21K1:=K1.out.lt;have o21K2:=K2.out.lt;have o21K3:=K3.out.lt;obtain⟨lK1,qK1,fK1⟩:=K1.out;obtain⟨lK2,qK2,fK2⟩:=K2.out;obtain⟨lK3,qK3,fK3⟩:=K3.out;go_wp2_with fail
    have hV0:=((((K2.out.set' 0 (by simp) (.slice (some ⟨wr.heap.size,0,none⟩) 1 1)).set' 1 (by simp) (.slice none 0 0)).set' 2 (by simp) (.int .i64 0)).alloc (.cells #[.int .i64 5,na,qa,.int .i64 0,.int .i64 0,.int .i64 0,.int .i64 0,.int .i64 0,.int .i64 0,.int .i64 0,.int .i64 0,.int .i64 0,.int .i64 0,.float .f64 0] 42))
    have hVq0:=hV0.cell;have hVf0:=hV0.free;refine bodyPost_ret (v:=.tuple #[.agg #[.slice (some ⟨wr.heap.size,0,none⟩) 1 1,.slice none 0 0,.int .i64 0],.int .i64 0]) (by simp[results,Tryz.results76,go_sem,hVq0,hVf0]) rfl ?_;clear qK1 fK1 lK1 qK2 fK2 lK2 qK3 fK3 lK3
    exact by rw[HPE.out (fun j r hj=>HALL0.out j (by have:=(List.getElem?_eq_some_iff.1 hj).1;have:=HVN.out;omega) r hj)];exact⟨_,_,rfl,read_fone (f:=fForget na qa) (Blk.fresh ((((wr.setCell ⟨w.heap.size+1,0,none⟩ (.slice (some ⟨wr.heap.size,0,none⟩) 1 1)).setCell ⟨w.heap.size+1,1,none⟩ (.slice none 0 0)).setCell ⟨w.heap.size+1,2,none⟩ (.int .i64 0))) #[.int .i64 5,.int .i64 na,.int .i64 qa,.int .i64 0,.int .i64 0,.int .i64 0,.int .i64 0,.int .i64 0,.int .i64 0,.int .i64 0,.int .i64 0,.int .i64 0,.int .i64 0,.float .f64 0] 42 (wr.heap.size) (by simp)),read_mnil,(bel_alloc (bel_set (bel_set (bel_set HB.out (p:=⟨w.heap.size+1,0,none⟩) (by(try dsimp only);omega) _) (p:=⟨w.heap.size+1,1,none⟩) (by(try dsimp only);omega) _) (p:=⟨w.heap.size+1,2,none⟩) (by(try dsimp only);omega) _) _)⟩
theorem rforget17_of (R:RLoc) (S:Sto) (na qa:Int) (w:World) (h:RStoreAt R S w) (hG:StoGood S):Calls Tryz.prog 76 #[.pointer (some ⟨R.sb,0,none⟩),.agg #[na,qa]] w (RDoEnds (lForget S na qa).1 (lForget S na qa).2 w):=by
 unfold lForget
 cases hg:lGet S na qa with
 | none=>exact rforget_none R S na qa w h hG (lGet_none hg)
 | some x=>
  obtain⟨i,a⟩:=x;obtain⟨hf,ha,_⟩:=lGet_some hg;exact rforget_yes R S na qa i a w h hG hf ha
theorem num_of (n:Int) (h:0≤n∧n≤14) (ea:Int→Addr) (w:World) (hE:EnvS ea w):Calls Tryz.prog 20 #[errOf ea n] w (Makes (.int .i64 n) w):=by
 unfold errOf;split
 · rename_i h0;subst h0;exact num_nil w
 · exact num_some n (by omega) ea w hE.e
theorem below_draws (w:World) (n:Nat):Below w.heap.size w (w.drewN n):=⟨rfl,rfl,rfl,Nat.le_refl _,fun _ _=>rfl⟩
theorem mDo_num (x:MSeat) (k:Int):0≤(mDo x k).2∧(mDo x k).2≤14:=by
 unfold mDo;split
 · simp
 · split
   · unfold rStep
     repeat' split
     all_goals simp
   · simp
theorem rdirect17_of (R:RLoc) (S:Sto) (na qa rg k:Int) (w:World) (h:RStoreAt R S w) (hG:StoGood S):Calls Tryz.prog 69 #[.pointer (some ⟨R.sb,0,none⟩),.agg #[na,qa],.int .i64 rg,.int .i64 k] w (RDoEnds (lDirect S na qa rg k).1 (lDirect S na qa rg k).2 w):=by
 unfold lDirect
 cases hg:lGet S na qa with
 | none=>exact rdirect_none R S na qa rg k w h hG (lGet_none hg)
 | some x=>
  obtain⟨i,a⟩:=x;obtain⟨hf,ha,hm,h1,h2⟩:=lGet_some hg;subst h1 h2;dsimp only
  cases hr:lReg a rg with
  | none=>
   rcases lReg_none hr with h0 | ⟨h0,h1⟩
   · exact rdirect_neg R S a.an a.aq rg k w h hG i a hf ha h0
   · exact rdirect_out R S a.an a.aq rg k w h hG i a hf ha h0 h1
  | some r=>
   obtain⟨j,rfl,hj,_⟩:=lReg_some hr;dsimp only;have hR:=(hG.act a hm).reg r (List.mem_of_getElem? hj)
   cases hk:lDirects k with
   | false=>rw[if_pos rfl];exact rdirect_form R S a.an a.aq k w h hG i j a r hf ha hj (of_decide_eq_false hk)
   | true=>
    rw[if_neg (by simp)];have hk':=of_decide_eq_true hk;by_cases ho:a.oc=1∧k≠2
    · rw[if_pos ho];exact rdirect_state R S a.an a.aq k w h hG i j a r hf ha hj hk' ho.1 ho.2
    rw[if_neg ho];have hD:=fun W=>gdo_eq r.seat k W
    by_cases hn:(mDo r.seat k).2=0
    · rw[if_neg (by simpa using hn)];rw[hn] at hD;rw[(do_goes hR.2.2.2.2.2 hn).2.2.1.2.2];exact rdirect_ok R S a.an a.aq k w h hG i j a r hf ha hj hk' ho _ _ _ _ _ _ _ _ hD
    · rw[if_pos hn];exact rdirect_err R S a.an a.aq k w h hG i j a r hf ha hj hk' ho _ _ _ _ _ _ _ _ _ hn hD
theorem lDirect_fits {S:Sto} (hS:StoGood S) (na qa rg k:Int):∃T,sfit S (lDirect S na qa rg k).1.fs=(T,true):=by
 unfold lDirect;split
 · exact⟨S,rfl⟩
 rename_i i a hg
 split
 · exact⟨S,rfl⟩
 rename_i r hr
 split
 · exact⟨S,rfl⟩
 split
 · exact⟨S,rfl⟩
 split
 · exact⟨S,rfl⟩
 rename_i hn
 obtain⟨hf,ha,hm,h1,h2⟩:=lGet_some hg;subst h1 h2;obtain⟨j,rfl,hj,_⟩:=lReg_some hr;have hR:=(hS.act a hm).reg r (List.mem_of_getElem? hj);obtain⟨d1,d2,⟨d3,d4,_⟩,d5⟩:=do_goes (k:=k) hR.2.2.2.2.2 (by simpa using hn);have hm':mRight ⟨r.seat.p,r.seat.d,(mDo r.seat k).1.seat.s,(mDo r.seat k).1.seat.h⟩=true:=by
  rw[←d3,←d4];exact d2
 have hA:=apply_seat hS hg hr d1 hm' d5;obtain⟨T,hT⟩:∃T,sapply S (fSeat a.an a.aq (j:Int) (mDo r.seat k).1.seat.s (mDo r.seat k).1.seat.h)=(T,0):=⟨_,hA⟩
 exact⟨T,by unfold sfit;rw[hT,if_pos rfl];rfl⟩
theorem lDirect_ex {S:Sto} {na qa rg k:Int}:∀f∈(lDirect S na qa rg k).1.fs,f.ex=0:=by
 intro f hf;unfold lDirect at hf
 repeat' split at hf
 all_goals first | (cases hf;done) | (obtain rfl:=List.mem_singleton.1 hf;rfl)
theorem lDirect_len {S:Sto} {na qa rg k:Int}:(lDirect S na qa rg k).1.fs.length≤1∧(lDirect S na qa rg k).1.ms.length≤1:=by
 unfold lDirect
 repeat' split
 all_goals simp[res0]
theorem lDirect_num {S:Sto} {na qa rg k:Int}:0≤(lDirect S na qa rg k).2∧(lDirect S na qa rg k).2≤14:=by
 unfold lDirect
 repeat' split
 all_goals first | (simp;done) | exact mDo_num _ _
theorem lForget_ex {S:Sto} {na qa:Int}:∀f∈(lForget S na qa).1.fs,f.ex=0:=by
 intro f hf;unfold lForget at hf
 repeat' split at hf
 all_goals first | (cases hf;done) | (obtain rfl:=List.mem_singleton.1 hf;rfl)
theorem lForget_len {S:Sto} {na qa:Int}:(lForget S na qa).1.fs.length≤1∧(lForget S na qa).1.ms.length≤1:=by
 unfold lForget
 repeat' split
 all_goals simp[res0]
theorem lForget_num {S:Sto} {na qa:Int}:0≤(lForget S na qa).2∧(lForget S na qa).2≤14:=by
 unfold lForget
 repeat' split
 all_goals simp
theorem infoRFact17:(Tryz.prog.info? 42).map (fun i=>(i.zero,i.size,i.bytes))=some (some (.agg #[.int .i64 0,.int .i64 0,.int .i64 0,.int .i64 0,.int .i64 0,.int .i64 0,.int .i64 0,.int .i64 0,.int .i64 0,.int .i64 0,.int .i64 0,.int .i64 0,.int .i64 0,.float .f64 0]),14,112):=by kernel_rfl
theorem read_frow17 {w:World} {B:Nat} {v:Value} {fs:List SFact} (h:w.ownsRow B 42 14 v fs.length (factsL fs)):ReadFacts w v fs:=by
 obtain⟨a,cap,hv⟩:=row_slice h;subst hv;refine⟨a,cap,rfl,fun hn=> ?_⟩;obtain⟨g,cap',hv,_,_,hg,hc,_⟩:=row_form h (List.length_pos_iff.2 hn);simp only[Value.slice.injEq,true_and] at hv;obtain⟨rfl,rfl⟩:=hv;refine⟨g,0,rfl,hg,fun j hj=> ?_⟩;have hat:=fun i hi=>flat_at factL 14 factL_len fs j i hj hi
 rw[Nat.zero_add]
 exact⟨hc _ _ (hat 0 (by decide)),hc _ _ (hat 1 (by decide)),hc _ _ (hat 2 (by decide)),hc _ _ (hat 3 (by decide)),hc _ _ (hat 4 (by decide)),hc _ _ (hat 5 (by decide)),hc _ _ (hat 6 (by decide)),hc _ _ (hat 7 (by decide)),hc _ _ (hat 8 (by decide)),hc _ _ (hat 9 (by decide)),hc _ _ (hat 10 (by decide)),hc _ _ (hat 11 (by decide)),hc _ _ (hat 12 (by decide)),hc _ _ (hat 13 (by decide))⟩
theorem told17_of (a am : Option Addr) (cap lm cm : Nat) (fs : List SFact) (wk : Int) (w : World) (h : ReadFacts w (.slice a fs.length cap) fs) (hl : fs.length ≤ 1000) :
    Calls Tryz.prog 70 #[.agg #[.slice a fs.length cap,.slice am lm cm,wk]] w fun e w'=>∃c fc,e=.returned (.agg #[.slice c fs.length fc,.slice am lm cm,wk])∧ReadFacts w' (.slice c fs.length fc) fs∧Below w.heap.size w w':=by
 obtain⟨i0,ei,ez,es,eb⟩:=info_parts infoRFact17;have HR:Hid (∀k,k<fs.length→∃f,fs[k]? =some f∧∃b off,a=some ⟨b,off,none⟩∧b<w.heap.size∧FactAt w b (off+k*14) f):=qq (fun k hk=>by
   obtain⟨a',cap',hv,hr⟩:=h;obtain⟨b,off,ha,hb,hf⟩:=hr (by intro e;rw[e] at hk;simp at hk);simp only[Value.slice.injEq,true_and] at hv;exact⟨fs[k],List.getElem?_eq_getElem hk,b,off,by rw[hv.1,ha],hb,hf k hk⟩)
 clear h;obtain⟨n,hn⟩:∃n,n=fs.length:=⟨_,rfl⟩
 rw[←hn] at HR hl⊢;have HN:=qq hn;clear hn;obtain⟨W1,hW1⟩:∃W1,W1=((w.alloc (.cells #[.slice a n cap,.slice am lm cm,wk] 87)).alloc (.cells #[.slice none 0 0,.slice none 0 0,.int .i64 0] 95)):=⟨_,rfl⟩
 have HST:Hid (Below (w.heap.size+2) W1 (((w.alloc (.cells #[.slice a n cap,.slice am lm cm,wk] 87)).alloc (.cells #[.slice none 0 0,.slice none 0 0,.int .i64 0] 95)).alloc (.cells #[.slice none 0 0,.slice am lm cm,wk] 95))):=qq (by rw[hW1];exact(Below.refl _ _).alloc (by simp) _);have HWB:Hid (Below w.heap.size w W1):=qq (by rw[hW1];go_grown)
 have HRB0:Hid (Blk W1 (w.heap.size+1) #[.slice none 0 0,.slice none 0 0,.int .i64 0]):=qq (by rw[hW1];exact Blk.fresh (w.alloc (.cells #[.slice a n cap,.slice am lm cm,wk] 87)) #[.slice none 0 0,.slice none 0 0,.int .i64 0] 95 (w.heap.size+1) (by simp))
 have HPB0:Hid (Blk W1 w.heap.size #[.slice a n cap,.slice am lm cm,wk]):=qq (by rw[hW1];exact(Blk.fresh w #[.slice a n cap,.slice am lm cm,wk] 87 _ rfl).alloc _);have HZ:Hid (W1.heap.size=w.heap.size+2):=qq (by rw[hW1];simp);clear hW1;go_enter Tryz.func70,Tryz.ntmps70;go_wp2_with fail
 go_loopw [14] (fun i wr=>∃(k:Nat) (v:Value),k≤n∧i=.int .i64 (k:Nat)∧Hid (wr.ownsRow (w.heap.size+3) 42 14 v k (factsL (fs.take k)))∧Hid (Blk wr (w.heap.size+1+1) #[v,.slice am lm cm,wk])∧Hid (Below (w.heap.size+2) W1 wr)) (fun i _=>n - (intOf i).toNat)
 case atStart=>
  exact⟨0,.slice none 0 0,by omega,by first | rfl | go_num,qq (World.ownsRow_nil _ _ _ _),qq (Blk.fresh _ _ _ _ (by simp)),HST⟩
 case round=>
  obtain⟨k,v,hk,rfl,HO,HB,HW⟩:=hrel;obtain⟨av,cv,rfl⟩:=row_slice HO.out;have q:=HB.out.cell;by_cases hlt:k<n
  · obtain⟨f,hf,b,off,rfl,hbl,hat⟩:=HR.out k hlt;have BR:Below w.heap.size w wr:=HWB.out.trans (HW.out.mono (by omega));obtain⟨p0,p1,p2,p3,p4,p5,p6,p7,p8,p9,p10,p11,p12,p13⟩:=hat.below BR hbl;have hsz:=HB.out.lt;have HF:=qq hf;obtain⟨fk,fan,faq,frg,fnd,fpt,fpr,foc,fdp,fpa,fst,fhw,fde,ex⟩:=f;have qf:=HB.out.free;dsimp only at p0 p1 p2 p3 p4 p5 p6 p7 p8 p9 p10 p11 p12 p13;clear hat hf hbl BR
    go_wp2_with (at_builtin;refine wpList_append_own_at _ rfl _ _ 76 rfl (w.heap.size+3) 42 i0 (.agg #[.int .i64 0,.int .i64 0,.int .i64 0,.int .i64 0,.int .i64 0,.int .i64 0,.int .i64 0,.int .i64 0,.int .i64 0,.int .i64 0,.int .i64 0,.int .i64 0,.int .i64 0,.float .f64 0]) 14 112 Tryz.underlying76 ei ez es eb rfl (by decide) _ _ _ rfl ((HO.out.alloc _).alloc _) ⟨wr.heap.size+1,0,none⟩ 1 1 (factL ⟨fk,fan,faq,frg,fnd,fpt,fpr,foc,fdp,fpa,fst,fhw,fde,ex⟩) (by rfl) rfl (lit_cells (Blk.fresh _ _ _ _ (by simp))) (factL_one _) ?d3 ?d4 ?d5 ?_)
    case d3=>unfold maxLen;omega
    case d4=>omega
    case d5=>simp;omega
    intro v2 w3 hown hgrow _ hat;have hne:v2.ownBlock≠some (w.heap.size+1+1):=fun e=>by have:=(hown.lt _ e).1;omega
    have hne0:(Value.slice av k cv).ownBlock≠some (w.heap.size+1+1):=fun e=>by have:=(HO.out.lt _ e).1;omega
    have kB:=((HB.out.alloc (.cells #[fk,fan,faq,frg,fnd,fpt,fpr,foc,fdp,fpa,fst,fhw,fde,.float .f64 ex] 39)).alloc (.cells #[fk,fan,faq,frg,fnd,fpt,fpr,foc,fdp,fpa,fst,fhw,fde,.float .f64 ex] 42)).same hgrow.size (hgrow.block _ ((HB.out.alloc _).alloc _).lt (fun e=>hne0 e.symm));have R2:=qq (kB.set' 0 (by simp) v2)
    have R1:Hid ((w3.setCell ⟨w.heap.size+1+1,0,none⟩ v2).ownsRow (w.heap.size+3) 42 14 v2 (k+1) (factsL (fs.take (k+1)))):=qq (by
      refine row_heap ?_ (fun j hj=>Below.heap_setCell _ _ _ _ (fun e=>hne (by rw[hj,e])));have htk:fs.take (k+1)=fs.take k ++ [⟨fk,fan,faq,frg,fnd,fpt,fpr,foc,fdp,fpa,fst,fhw,fde,ex⟩]:=by
        obtain⟨hj,he⟩:=List.getElem?_eq_some_iff.1 HF.out;rw[List.take_succ_eq_append_getElem hj,he]
      rw[htk];unfold factsL at hown⊢;rw[List.flatMap_append];simpa using hown)
    have R3:Hid (Below (w.heap.size+2) W1 (w3.setCell ⟨w.heap.size+1+1,0,none⟩ v2)):=qq ((((HW.out.alloc (by omega) _).alloc (by simp;omega) _).grown hgrow (by simp;omega) (fun j hj=>by have:=(HO.out.lt _ hj).1;omega)).setCell (by simp) _);have c0:w3.cell? ⟨w.heap.size+1+1,0,none⟩=some (.slice av k cv):=kB.cell 0;have c1:=kB.free 0;obtain⟨a2,c2,rfl⟩:=row_slice hown
    clear hown hgrow hat kB q qf hne hne0;go_wp2_with fail
    all_goals (go_roundw<;>first | exact⟨k+1,_,by omega,by go_num,R1,R2,R3⟩ | (simp[intOf];omega))
  · obtain rfl:k=n:=by omega
    have HO2:=qq (show ReadFacts wr (.slice av k cv) fs by
      have:=HO.out;rw[List.take_of_length_le (by rw[←HN.out];omega)] at this;have e:=HN.out;subst e;exact read_frow17 this)
    have HRB:=qq (HRB0.out.below (by rw[HZ.out];exact HW.out));obtain⟨qr,fr⟩:=HRB.out.out;have lr:=HRB.out.lt;have BR:Below w.heap.size w wr:=HWB.out.trans (HW.out.mono (by omega));go_wp2_with fail;refine bodyPost_ret (v:=.agg #[.slice av k cv,.slice am lm cm,wk]) (by simp[results,Tryz.results70,go_sem,qr,fr,lr,Nat.ne_of_lt lr]) rfl ⟨av,cv,rfl,HO2.out.heap (by simp) ?_,by go_grown⟩;intro j hj
    have h1:=(HO.out.lt _ (slice_own HO.out _ hj)).1;have h2:j≠w.heap.size+1:=by omega
    rw[Below.heap_setCell _ _ _ _ h2,Below.heap_setCell _ _ _ _ h2,Below.heap_setCell _ _ _ _ h2]
theorem same13 (b c:Nat) (C:Array Value) (hC:∀k,k<13→∃x:Int,C[k]? =some (.int .i64 x)) (w:World) (h1:Blk w b C) (h2:Blk w c C):Calls Tryz.prog 118 #[.slice (some ⟨b,0,none⟩) 13 13,.slice (some ⟨c,0,none⟩) 13 13] w (Makes (.bool true) w):=by
 have H1:=qq h1;have H2:=qq h2;have HC:=qq hC;clear h1 h2 hC;go_enter Tryz.func118,Tryz.ntmps118;go_wp2_with fail;go_loopw [13] (fun i wr=>∃k:Nat,k≤13∧i=.int .i64 (k:Nat)∧Below w.heap.size w wr) (fun i _=>13 - (intOf i).toNat)
 case atStart=>exact⟨0,by omega,by go_num,Below.refl _ _⟩
 case round=>
  obtain⟨k,hk,rfl,hB⟩:=hrel;by_cases hlt:k<13
  · obtain⟨x,hx⟩:=HC.out k hlt;have c1:wr.cell? ⟨b,k,none⟩=some (.int .i64 x):=((H1.out.below hB).cell k).trans hx;have c2:wr.cell? ⟨c,k,none⟩=some (.int .i64 x):=((H2.out.below hB).cell k).trans hx;clear hx;have hki:(k:Int)<13:=by omega
    have hk0:(0:Int)≤(k:Int):=by omega
    go_wp2_with fail;go_quiet (fail)
    all_goals go_wp2_with fail
    all_goals (go_roundw<;>first | exact⟨k+1,by omega,by go_num,below_then hB ⟨rfl,rfl,rfl,Nat.le_refl _,fun _ _=>rfl⟩⟩ | (simp[intOf];omega))
  · obtain rfl:k=13:=by omega
    go_wp2_with fail;go_ret;exact⟨rfl,hB⟩
theorem rsame14_self (f:SFact) (hx:F64 f.ex) (w:World):Calls Tryz.prog 35 #[factV f,factV f] w (Makes (.bool true) w):=by
 have HN:=qq (fun W=>numbers_of f W);have HR:=qq (fun W=>rbits_of f.ex hx W);obtain⟨k,an,aq,rg,nd,pt,pr,oc,dp,pa,st,hw,de,ex⟩:=f;dsimp only[factV,factC] at*
 have HIL:=qq (show ∀jj,jj<13→∃x:Int,(#[.int .i64 k,.int .i64 an,.int .i64 aq,.int .i64 rg,.int .i64 nd,.int .i64 pt,.int .i64 pr,.int .i64 oc,.int .i64 dp,.int .i64 pa,.int .i64 st,.int .i64 hw,.int .i64 de]:Array Value)[jj]? =some (.int .i64 x) from fun jj hk=>by
   have h:jj=0∨jj=1∨jj=2∨jj=3∨jj=4∨jj=5∨jj=6∨jj=7∨jj=8∨jj=9∨jj=10∨jj=11∨jj=12:=by omega
   rcases h with rfl | rfl | rfl | rfl | rfl | rfl | rfl | rfl | rfl | rfl | rfl | rfl | rfl<;>exact⟨_,rfl⟩)
 clear hx;go_enter Tryz.func35,Tryz.ntmps35;go_wp2_with fail;have HB:Hid (Below w.heap.size w (World.drew ((w.alloc (.cells #[k,an,aq,rg,nd,pt,pr,oc,dp,pa,st,hw,de,.float .f64 ex] 42)).alloc (.cells #[k,an,aq,rg,nd,pt,pr,oc,dp,pa,st,hw,de,.float .f64 ex] 42)))):=qq (by go_grown)
 refine wp_region_held_drew (S:=fun w'=>Blk w' w.heap.size #[k,an,aq,rg,nd,pt,pr,oc,dp,pa,st,hw,de,.float .f64 ex]∧Blk w' (w.heap.size+1) #[k,an,aq,rg,nd,pt,pr,oc,dp,pa,st,hw,de,.float .f64 ex]) (by kernel_rfl) (⟨((Blk.fresh w #[k,an,aq,rg,nd,pt,pr,oc,dp,pa,st,hw,de,.float .f64 ex] 42 _ rfl).alloc _).drew,(Blk.fresh (w.alloc (.cells #[k,an,aq,rg,nd,pt,pr,oc,dp,pa,st,hw,de,.float .f64 ex] 42)) #[.int .i64 k,.int .i64 an,.int .i64 aq,.int .i64 rg,.int .i64 nd,.int .i64 pt,.int .i64 pr,.int .i64 oc,.int .i64 dp,.int .i64 pa,.int .i64 st,.int .i64 hw,.int .i64 de,.float .f64 ex] 42 (w.heap.size+1) (by simp)).drew⟩) (fun hHeld=> ?_)
 generalize(World.drew ((w.alloc (.cells #[k,an,aq,rg,nd,pt,pr,oc,dp,pa,st,hw,de,.float .f64 ex] 42)).alloc (.cells #[k,an,aq,rg,nd,pt,pr,oc,dp,pa,st,hw,de,.float .f64 ex] 42)))=w0 at*;refine takeU (d:=some 5) 0 rfl rfl hHeld (fun w' hS'=>by have qA:=hS'.1.cell;have qB:=hS'.2.cell;clear hS';go_simp;(try rfl)) ?_;simp only[puts]
 refine takeU (d:=some 7) 2 rfl rfl hHeld (fun w' hS'=>by have qA:=hS'.1.cell;have qB:=hS'.2.cell;clear hS';go_simp;(try rfl)) ?_;simp only[puts];refine wpAnyH_call (d:=some 6) 1 119 _ _ [.agg #[k,an,aq,rg,nd,pt,pr,oc,dp,pa,st,hw,de,.float .f64 ex]] rfl rfl (by kernel_rfl) rfl (enters_of Tryz.func119 (by kernel_rfl) rfl) (by rfl) (by rfl) ?_;refine(HN.out _).mono ?_;rintro e w5 ⟨g1,rfl,hg1,hb5⟩
 have HB:=qq (below_then HB.out hb5);have HG1:=qq hg1;have hHeld:(fun w'=>Blk w' w.heap.size #[k,an,aq,rg,nd,pt,pr,oc,dp,pa,st,hw,de,.float .f64 ex]∧Blk w' (w.heap.size+1) #[k,an,aq,rg,nd,pt,pr,oc,dp,pa,st,hw,de,.float .f64 ex]) _:=⟨hHeld.1.below hb5,hHeld.2.below hb5⟩
 refine⟨_,rfl,_,fun _ h=>h,hHeld,fun hHeld=> ?_⟩;simp only[Act.put,puts];clear hb5 hg1;refine wpAnyH_call (d:=some 8) 3 119 _ _ [.agg #[k,an,aq,rg,nd,pt,pr,oc,dp,pa,st,hw,de,.float .f64 ex]] rfl rfl (by kernel_rfl) rfl (enters_of Tryz.func119 (by kernel_rfl) rfl) (by rfl) (by rfl) ?_;refine(HN.out _).mono ?_;rintro e w6 ⟨g2,rfl,hg2,hb6⟩
 have HB:=qq (below_then HB.out hb6);have HG1:=qq (HG1.out.below hb6);have HG2:=qq hg2;have hHeld:(fun w'=>Blk w' w.heap.size #[k,an,aq,rg,nd,pt,pr,oc,dp,pa,st,hw,de,.float .f64 ex]∧Blk w' (w.heap.size+1) #[k,an,aq,rg,nd,pt,pr,oc,dp,pa,st,hw,de,.float .f64 ex]) _:=⟨hHeld.1.below hb6,hHeld.2.below hb6⟩
 refine⟨_,rfl,_,fun _ h=>h,hHeld,fun hHeld=> ?_⟩;simp only[Act.put,puts];clear hb6 hg2;refine wpAnyH_call (d:=some 9) 4 118 _ _ [.slice (some ⟨g1,0,none⟩) 13 13,.slice (some ⟨g2,0,none⟩) 13 13] rfl rfl (by kernel_rfl) rfl (enters_of Tryz.func118 (by kernel_rfl) rfl) (by rfl) (by rfl) ?_;refine(same13 g1 g2 _ HIL.out _ HG1.out HG2.out).mono ?_;rintro e w7 ⟨rfl,hb7⟩
 have HB:=qq (below_then HB.out hb7);have hHeld:(fun w'=>Blk w' w.heap.size #[k,an,aq,rg,nd,pt,pr,oc,dp,pa,st,hw,de,.float .f64 ex]∧Blk w' (w.heap.size+1) #[k,an,aq,rg,nd,pt,pr,oc,dp,pa,st,hw,de,.float .f64 ex]) _:=⟨hHeld.1.below hb7,hHeld.2.below hb7⟩
 refine⟨_,rfl,_,fun _ h=>h,hHeld,fun hHeld=> ?_⟩;simp only[Act.put,puts];clear hb7;refine takeU (d:=some 10) 5 rfl rfl hHeld (fun w' hS'=>by have qA:=hS'.1.cell;have qB:=hS'.2.cell;clear hS';go_simp;(try rfl)) ?_;simp only[puts];refine takeU (d:=some 11) 6 rfl rfl hHeld (fun w' hS'=>by have qA:=hS'.1.cell;have qB:=hS'.2.cell;clear hS';go_simp;(try rfl)) ?_;simp only[puts]
 refine takeU (d:=some 12) 7 rfl rfl hHeld (fun w' hS'=>by have qA:=hS'.1.cell;have qB:=hS'.2.cell;clear hS';go_simp;(try rfl)) ?_;simp only[puts];refine takeU (d:=some 14) 9 rfl rfl hHeld (fun w' hS'=>by have qA:=hS'.1.cell;have qB:=hS'.2.cell;clear hS';go_simp;(try rfl)) ?_;simp only[puts]
 refine takeU (d:=some 15) 10 rfl rfl hHeld (fun w' hS'=>by have qA:=hS'.1.cell;have qB:=hS'.2.cell;clear hS';go_simp;(try rfl)) ?_;simp only[puts];refine wpAnyH_call (d:=some 13) 8 120 _ _ [.float .f64 ex] rfl rfl (by kernel_rfl) rfl (enters_of Tryz.func120 (by kernel_rfl) rfl) (by rfl) (by rfl) ?_;refine(HR.out _).mono ?_;rintro e w8 ⟨rfl,rfl⟩;refine⟨_,rfl,_,fun _ h=>h,hHeld,fun hHeld=> ?_⟩
 simp only[Act.put,puts];refine wpAnyH_call (d:=some 16) 11 120 _ _ [.float .f64 ex] rfl rfl (by kernel_rfl) rfl (enters_of Tryz.func120 (by kernel_rfl) rfl) (by rfl) (by rfl) ?_;refine(HR.out _).mono ?_;rintro e w8 ⟨rfl,rfl⟩;refine⟨_,rfl,_,fun _ h=>h,hHeld,fun hHeld=> ?_⟩;simp only[Act.put,puts]
 refine takeU (d:=some 17) 12 rfl rfl hHeld (fun w' hS'=>by have qA:=hS'.1.cell;have qB:=hS'.2.cell;clear hS';go_simp;(try rfl)) ?_;simp only[puts];refine takeU (d:=some 18) 13 rfl rfl hHeld (fun w' hS'=>by have qA:=hS'.1.cell;have qB:=hS'.2.cell;clear hS';go_simp;(try rfl)) ?_;simp only[puts]
 refine takeU (d:=some 4) 14 rfl rfl hHeld (fun w' hS'=>by have qA:=hS'.1.cell;have qB:=hS'.2.cell;clear hS';go_simp;(try rfl)) ?_;simp only[puts];refine wpAnyH_done (by kernel_rfl) ?_ _;clear hHeld;go_wp2_with fail;go_ret;exact⟨ret_bool (by simp),HB.out⟩
theorem msgNe (mk mf mt man maq mrg mpt mpr mco:Int) (w:World):(binOp .neq 81 (.agg #[mk,mf,mt,man,maq,mrg,mpt,mpr,mco]) (.agg #[mk,mf,mt,man,maq,mrg,mpt,mpr,mco])).run Tryz.prog w=.ok (.bool false) w:=by
 go_simp
theorem rsame16_self (a b c d : Option Addr) (ac bc cc dc : Nat) (fs : List SFact) (ms : List SMsg) (wk : Int) (w : World) (h1 : ReadFacts w (.slice a fs.length ac) fs) (h2 : ReadFacts w (.slice b fs.length bc) fs) (h3 : ReadMsgs w (.slice c ms.length cc) ms) (h4 : ReadMsgs w (.slice d ms.length dc) ms) (hx : ∀ f ∈ fs, F64 f.ex) (hl1 : fs.length ≤ 1000) (hl2 : ms.length ≤ 1000) :
    Calls Tryz.prog 42 #[.agg #[.slice a fs.length ac,.slice c ms.length cc,wk],.agg #[.slice b fs.length bc,.slice d ms.length dc,wk]] w (Makes (.bool true) w):=by
 have G1:∀(v:Option Addr) (vc:Nat),ReadFacts w (.slice v fs.length vc) fs→Hid (∀k,k<fs.length→∃f,fs[k]? =some f∧∃b off,v=some ⟨b,off,none⟩∧b<w.heap.size∧FactAt w b (off+k*14) f):=fun v vc h=>qq (fun k hk=>by
   obtain⟨a',cap',hv,hr⟩:=h;obtain⟨b,off,ha,hb,hf⟩:=hr (by intro e;rw[e] at hk;simp at hk);simp only[Value.slice.injEq,true_and] at hv;exact⟨fs[k],List.getElem?_eq_getElem hk,b,off,by rw[hv.1,ha],hb,hf k hk⟩)
 have G2:∀(v:Option Addr) (vc:Nat),ReadMsgs w (.slice v ms.length vc) ms→Hid (∀k,k<ms.length→∃f,ms[k]? =some f∧∃b off,v=some ⟨b,off,none⟩∧b<w.heap.size∧MsgC w b (off+k*9) f):=fun v vc h=>qq (fun k hk=>by
   obtain⟨a',cap',hv,hr⟩:=h;obtain⟨b,off,ha,hb,hf⟩:=hr (by intro e;rw[e] at hk;simp at hk);simp only[Value.slice.injEq,true_and] at hv;exact⟨ms[k],List.getElem?_eq_getElem hk,b,off,by rw[hv.1,ha],hb,hf k hk⟩)
 have H1:=G1 a ac h1;have H2:=G1 b bc h2;have H3:=G2 c cc h3;have H4:=G2 d dc h4;have HS:=qq (fun f hf W=>rsame14_self f (hx f hf) W);clear h1 h2 h3 h4 hx G1 G2;obtain⟨n,hn⟩:∃n,n=fs.length:=⟨_,rfl⟩
 obtain⟨m,hm⟩:∃m,m=ms.length:=⟨_,rfl⟩
 rw[←hn] at H1 H2 hl1⊢;rw[←hm] at H3 H4 hl2⊢;clear hn hm;have B0:Below w.heap.size w ((w.alloc (.cells #[.slice a n ac,.slice c m cc,wk] 95)).alloc (.cells #[.slice b n bc,.slice d m dc,wk] 95)):=by go_grown
 have HA:=qq ((Blk.fresh w #[.slice a n ac,.slice c m cc,wk] 95 _ rfl).alloc (.cells #[.slice b n bc,.slice d m dc,wk] 95));have HB:=qq (Blk.fresh (w.alloc (.cells #[.slice a n ac,.slice c m cc,wk] 95)) #[.slice b n bc,.slice d m dc,wk] 95 (w.heap.size+1) (by simp));have HB0:=qq B0;clear B0;go_enter Tryz.func42,Tryz.ntmps42;go_wp2_with fail
 generalize hW0:((w.alloc (.cells #[.slice a n ac,.slice c m cc,wk] 95)).alloc (.cells #[.slice b n bc,.slice d m dc,wk] 95))=w0 at*;clear hW0;go_loopw [33] (fun i wr=>∃k:Nat,k≤n∧i=.int .i64 (k:Nat)∧Below w0.heap.size w0 wr) (fun i _=>n - (intOf i).toNat)
 case atStart=>exact⟨0,by omega,by first | rfl | go_num,Below.refl _ _⟩
 case round=>
  obtain⟨k,hk,rfl,hB⟩:=hrel;have qa:=(HA.out.below hB).cell;have qb:=(HB.out.below hB).cell;have B1:Below w.heap.size w wr:=below_then HB0.out hB;by_cases hlt:k<n
  · obtain⟨f,hf,b1,o1,rfl,hl1',hc1⟩:=H1.out k hlt;obtain⟨f',hf',b2,o2,rfl,hl2',hc2⟩:=H2.out k hlt;obtain rfl:f=f':=by rw[hf] at hf';injection hf'
    have HSf:=qq (fun W=>HS.out f (List.mem_of_getElem? hf) W);have c1:=hc1.below B1 hl1';have c2:=hc2.below B1 hl2';have hki:(k:Int)<(n:Int):=by omega
    have hk0:(0:Int)≤(k:Int):=by omega
    clear hf hf' hc1 hc2;obtain⟨fk,fan,faq,frg,fnd,fpt,fpr,foc,fdp,fpa,fst,fhw,fde,ex⟩:=f;dsimp only[factV,factC] at HSf;obtain⟨p0,p1,p2,p3,p4,p5,p6,p7,p8,p9,p10,p11,p12,p13⟩:=c1;obtain⟨r0,r1,r2,r3,r4,r5,r6,r7,r8,r9,r10,r11,r12,r13⟩:=c2;dsimp only at p0 p1 p2 p3 p4 p5 p6 p7 p8 p9 p10 p11 p12 p13 r0 r1 r2 r3 r4 r5 r6 r7 r8 r9 r10 r11 r12 r13;have q0:=qa 0;have q1:=qb 0;clear qa qb;go_wp2_with fail
    go_still_tail 10,(by kernel_rfl)
    change wpList _ _ _ _ _ (World.drew _);go_wp2_with (go_at_call 35;refine(HSf.out _).mono ?_;rintro e w5 ⟨rfl,hb5⟩)
    all_goals (go_roundw<;>first | exact⟨k+1,by omega,by go_num,below_then hB (below_then (by go_grown) hb5)⟩ | (simp[intOf];omega))
  · obtain rfl:k=n:=by omega
    have HA2:=qq (HA.out.below hB);have HB2:=qq (HB.out.below hB);have q1:=qa 1;have HB1:=qq B1;clear hB qb hlt hk;go_wp2_with fail;clear qa q1;obtain⟨w1,rfl⟩:∃w1:World,w1=wr:=⟨_,rfl⟩
    clear B1;go_loopw [52] (fun i wr=>∃k:Nat,k≤m∧i=.int .i64 (k:Nat)∧Below w1.heap.size w1 wr) (fun i _=>m - (intOf i).toNat)
    case atStart=>exact⟨0,by omega,by first | rfl | go_num,Below.refl _ _⟩
    case round=>
     obtain⟨k,hk,rfl,hB⟩:=hrel;have qa:=(HA2.out.below hB).cell;have qb:=(HB2.out.below hB).cell;have B1:Below w.heap.size w wr:=below_then HB1.out hB;by_cases hlt:k<m
     · obtain⟨f,hf,b1,o1,rfl,hl1',hc1⟩:=H3.out k hlt;obtain⟨f',hf',b2,o2,rfl,hl2',hc2⟩:=H4.out k hlt;obtain rfl:f=f':=by rw[hf] at hf';injection hf'
       have c1:=hc1.below B1 hl1';have c2:=hc2.below B1 hl2';have hki:(k:Int)<(m:Int):=by omega
       have hk0:(0:Int)≤(k:Int):=by omega
       clear hf hf' hc1 hc2;obtain⟨mk,mf,mt,man,maq,mrg,mpt,mpr,mco⟩:=f;obtain⟨p0,p1,p2,p3,p4,p5,p6,p7,p8⟩:=c1;obtain⟨r0,r1,r2,r3,r4,r5,r6,r7,r8⟩:=c2;dsimp only at p0 p1 p2 p3 p4 p5 p6 p7 p8 r0 r1 r2 r3 r4 r5 r6 r7 r8;have hne:=msgNe mk mf mt man maq mrg mpt mpr mco;have q1:=qa 1;have q2:=qb 1;clear qa qb;go_wp2_with fail;go_quiet (fail)
       all_goals go_wp2_with fail
       all_goals (go_roundw<;>first | exact⟨k+1,by omega,by go_num,below_then hB ⟨rfl,rfl,rfl,Nat.le_refl _,fun _ _=>rfl⟩⟩ | (simp[intOf];omega))
     · obtain rfl:k=m:=by omega
       go_wp2_with fail;go_ret;exact⟨rfl,B1⟩
end Go.Proofs.YtlkajejbfojkeaaGreatDoor
