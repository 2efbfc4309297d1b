/- MovBw, LdH, DlB, LdI, LdI2, LdI4, DlC -/
import Derived.Test.YtlkajejbfojkeaaGreatDoorWRstEToDlA
set_option linter.unusedSimpArgs false
set_option linter.unusedVariables false
set_option maxRecDepth 100000
set_option maxHeartbeats 16000000
namespace Go.Proofs.YtlkajejbfojkeaaGreatDoor
open Go.RowKit
theorem mwaits_of (x:MSeat) (ea:Int→Addr) (w:World) (h:Err3 ea w):Calls Tryz.prog 67 #[seatV x] w (Makes (.int .i64 (mWaits x)) w):=by
 have H:=qq h;clear h;obtain⟨r,hr⟩:∃r,r=mRight x:=⟨_,rfl⟩
 have hR:∀W,Err3 ea W→Calls Tryz.prog 169 #[seatV x] W (Makes (.bool r) W):=fun W hw=>by
  have:=right_of x ea W hw;rw[←hr] at this;exact this
 have hW:r=true→∀W,Err3 ea W→Calls Tryz.prog 170 #[.int .i64 x.p,.int .i64 x.d,.int .i64 x.s] W (Makes (.tuple #[.int .i64 (mWaits x),.nilIface]) W):=fun ht W hw=>by
  have:=waits_any x.p x.d x.s ea W hw;have h1:mRight x=true:=by rw[←hr];exact ht
  have h2:(rWait x.p x.d x.s).2=0:=by
   unfold mRight at h1;simp only[Bool.and_eq_true,decide_eq_true_eq] at h1;exact h1.1
  have h3:mWaits x=(rWait x.p x.d x.s).1:=by unfold mWaits;rw[h1];rfl
  rw[h3];rw[h2] at this;exact this
 have h0:r=false→mWaits x=0:=fun hf=>by unfold mWaits;rw[←hr,hf];rfl
 obtain⟨k,hk⟩:∃k,k=mWaits x:=⟨_,rfl⟩
 rw[←hk] at hW h0⊢;clear hk hr;obtain⟨p,d,s,h4⟩:=x;dsimp only[seatV] at*;have HR:=qq hR;clear hR
 cases r with
 | false=>
  rw[h0 rfl];clear hW h0;go_enter Tryz.func67,Tryz.ntmps67;go_wp2_with (go_at_call 169;refine(HR.out _ (H.out.below (by go_grown))).mono ?_;rintro e w1 ⟨rfl,hb1⟩;have B1:Below w.heap.size w w1:=below_then (by go_grown) hb1);go_ret;exact⟨rfl,B1⟩
 | true=>
  have HW:=qq (hW rfl);clear hW h0;go_enter Tryz.func67,Tryz.ntmps67;go_wp2_with (first
    | (go_at_call 169;refine(HR.out _ (H.out.below (by go_grown))).mono ?_;rintro e w1 ⟨rfl,hb1⟩;have HK1:=qq ((Blk.fresh w _ _ _ rfl).below hb1);obtain⟨q1,f1⟩:=HK1.out.out;have B1:Below w.heap.size w w1:=below_then (by go_grown) hb1)
    | (go_at_call 170;refine(HW.out _ (H.out.below B1)).mono ?_;rintro e w2 ⟨rfl,hb2⟩;have B2:Below w.heap.size w w2:=below_then B1 hb2))
  go_ret;exact⟨rfl,B2⟩
attribute [local go_sem] store_float
def lAgain (S:Sto) (n q rg:Int):SMsg×Bool:=match lGet S n q with
 | none=>(msg0,false)
 | some (_,a)=>match lReg a rg with
  | none=>(msg0,false)
  | some r=>if mWaits r.seat=0 then(msg0,false) else(lMsg S a r rg (mWaits r.seat),true)
def lMessage (S:Sto) (n q rg k:Int):SMsg×Bool:=match lGet S n q with
 | none=>(msg0,false)
 | some (_,a)=>match lReg a rg with
  | none=>(msg0,false)
  | some r=>(lMsg S a r rg k,true)
def lTakesA (S:Sto) (n q:Int) (now:Nat):Bool:=match lGet S n q with
 | none=>false
 | some (_,a)=>lTakes S a now
theorem lagain_none (L:SLoc) (S:Sto) (na qa rg:Int) (w:World) (h:StoreAt L S w) (hG:StoGood S) (hg:lGet S na qa=none):Calls Tryz.prog 66 #[.pointer (some ⟨L.sb,0,none⟩),.agg #[na,qa],.int .i64 rg] w (Makes (.tuple #[.agg #[.int .i64 0,.int .i64 0,.int .i64 0,.int .i64 0,.int .i64 0,.int .i64 0,.int .i64 0,.int .i64 0,.int .i64 0],.bool false]) w):=by
 have H:=qq h;have HF:=qq (fun W hW=>lfind_none L S na qa rg W hW hG hg);clear h hG hg;go_enter Tryz.func66,Tryz.ntmps66;go_wp2_with fail;refine(HF.out _ (H.out.below (bel_alloc (bel_alloc (Below.refl w.heap.size w) _) _))).mono ?_;rintro e w1 ⟨rfl,hb1⟩;have TK2:=qq (hp_be (hp_new (w.heap.size+1) (by simp)) hb1);have K1:=qq (((Blk.fresh _ _ _ (w.heap.size) (by simp)).alloc _).below hb1)
 have K2:=qq ((Blk.fresh _ _ _ (w.heap.size+1) (by simp)).below hb1);have HB:=qq (below_then (bel_alloc (bel_alloc (Below.refl w.heap.size w) _) _) hb1);have z1:=HB.out.size;clear hb1;have o3K1:=K1.out.lt;have o3K2:=K2.out.lt;obtain⟨lK1,qK1,fK1⟩:=K1.out;obtain⟨lK2,qK2,fK2⟩:=K2.out
 have hT:=(hp_al TK2.out (.cells #[.int .i64 0,.int .i64 0,.int .i64 0,.int .i64 0,.int .i64 0,.int .i64 0,.int .i64 0,.int .i64 0,.int .i64 0,.int .i64 0,.float .f64 0,.int .i64 0,.int .i64 0,.slice none 0 0,.int .i64 0,.int .i64 0] 247))
 go_wp2_with (refine row_go 81 (.tmp 6) (.tmp 28) rfl rfl (w.heap.size+1) #[.int .i64 0,.int .i64 0,.int .i64 0,.int .i64 0,.int .i64 0,.int .i64 0,.int .i64 0,.int .i64 0,.int .i64 0] #[.int .i64 0,.int .i64 0,.int .i64 0,.int .i64 0,.int .i64 0,.int .i64 0,.int .i64 0,.int .i64 0,.int .i64 0] 81 hT rfl rfl (by kernel_rfl) rfl (by simp[Value.oneCell']) ?_);clear hT;clear qK1 fK1 lK1 qK2 fK2 lK2
 intro w2 hK hg;have K2:=qq hK;have HB:=qq (bel_gr (bel_alloc HB.out _) hg (by omega));clear hK hg;have z2:=HB.out.size;obtain⟨lK2,qK2,fK2⟩:=K2.out;go_wp2_with fail;refine bodyPost_ret (v:=.tuple #[.agg #[.int .i64 0,.int .i64 0,.int .i64 0,.int .i64 0,.int .i64 0,.int .i64 0,.int .i64 0,.int .i64 0,.int .i64 0],.bool false]) (by simp[results,Tryz.results66,go_sem,qK2,fK2]) rfl ?_
 clear qK2 fK2 lK2;exact⟨rfl,HB.out⟩
theorem lagain_noreg (L:SLoc) (S:Sto) (na qa rg:Int) (w:World) (h:StoreAt L S w) (hG:StoGood S) (i:Nat) (a:SAct) (hg:lGet S na qa=some (i,a)) (hr:lReg a rg=none):Calls Tryz.prog 66 #[.pointer (some ⟨L.sb,0,none⟩),.agg #[na,qa],.int .i64 rg] w (Makes (.tuple #[.agg #[.int .i64 0,.int .i64 0,.int .i64 0,.int .i64 0,.int .i64 0,.int .i64 0,.int .i64 0,.int .i64 0,.int .i64 0],.bool false]) w):=by
 have H:=qq h;have HF:=qq (fun W hW=>lfind_noreg L S na qa rg i a W hW hG hg hr);clear h hG hg hr;go_enter Tryz.func66,Tryz.ntmps66;go_wp2_with fail;refine(HF.out _ (H.out.below (bel_alloc (bel_alloc (Below.refl w.heap.size w) _) _))).mono ?_;rintro e w1 ⟨rfl,hb1⟩;have TK2:=qq (hp_be (hp_new (w.heap.size+1) (by simp)) hb1);have K1:=qq (((Blk.fresh _ _ _ (w.heap.size) (by simp)).alloc _).below hb1)
 have K2:=qq ((Blk.fresh _ _ _ (w.heap.size+1) (by simp)).below hb1);have HB:=qq (below_then (bel_alloc (bel_alloc (Below.refl w.heap.size w) _) _) hb1);have z1:=HB.out.size;clear hb1;have o3K1:=K1.out.lt;have o3K2:=K2.out.lt;obtain⟨lK1,qK1,fK1⟩:=K1.out;obtain⟨lK2,qK2,fK2⟩:=K2.out
 have hT:=(hp_al TK2.out (.cells #[.int .i64 0,.int .i64 0,.int .i64 0,.int .i64 0,.int .i64 0,.int .i64 0,.int .i64 0,.int .i64 0,.int .i64 0,.int .i64 0,.float .f64 0,.int .i64 0,.int .i64 0,.slice none 0 0,.int .i64 0,.int .i64 0] 247))
 go_wp2_with (refine row_go 81 (.tmp 6) (.tmp 28) rfl rfl (w.heap.size+1) #[.int .i64 0,.int .i64 0,.int .i64 0,.int .i64 0,.int .i64 0,.int .i64 0,.int .i64 0,.int .i64 0,.int .i64 0] #[.int .i64 0,.int .i64 0,.int .i64 0,.int .i64 0,.int .i64 0,.int .i64 0,.int .i64 0,.int .i64 0,.int .i64 0] 81 hT rfl rfl (by kernel_rfl) rfl (by simp[Value.oneCell']) ?_);clear hT;clear qK1 fK1 lK1 qK2 fK2 lK2
 intro w2 hK hg;have K2:=qq hK;have HB:=qq (bel_gr (bel_alloc HB.out _) hg (by omega));clear hK hg;have z2:=HB.out.size;obtain⟨lK2,qK2,fK2⟩:=K2.out;go_wp2_with fail;refine bodyPost_ret (v:=.tuple #[.agg #[.int .i64 0,.int .i64 0,.int .i64 0,.int .i64 0,.int .i64 0,.int .i64 0,.int .i64 0,.int .i64 0,.int .i64 0],.bool false]) (by simp[results,Tryz.results66,go_sem,qK2,fK2]) rfl ?_
 clear qK2 fK2 lK2;exact⟨rfl,HB.out⟩
theorem lagain_still (L:SLoc) (S:Sto) (na qa rg:Int) (w:World) (h:StoreAt L S w) (hG:StoGood S) (ea:Int→Addr) (hE:EnvS ea w) (i:Nat) (a:SAct) (hg:lGet S na qa=some (i,a)) (r:SReg) (hr:lReg a rg=some r) (hw:mWaits r.seat=0):Calls Tryz.prog 66 #[.pointer (some ⟨L.sb,0,none⟩),.agg #[na,qa],.int .i64 rg] w (Makes (.tuple #[.agg #[.int .i64 0,.int .i64 0,.int .i64 0,.int .i64 0,.int .i64 0,.int .i64 0,.int .i64 0,.int .i64 0,.int .i64 0],.bool false]) w):=by
 have H:=qq h;have HF:=qq (fun W hW=>lfind_yes L S na qa rg i a r W hW hG hg hr);have HW:=qq (fun W hW=>mwaits_of r.seat ea W hW);have HE:=qq hE;dsimp only[seatV] at HW;rw[hw] at HW;obtain⟨an,aq,oc,dp,ex,pa,de,rs⟩:=a;obtain⟨rn,rp,⟨sp,sd,ss,sh⟩⟩:=r;unfold SeatOut at HF;dsimp only at*;clear h hE hG hg hr hw;go_enter Tryz.func66,Tryz.ntmps66;go_wp2_with fail
 refine(HF.out _ (H.out.below (bel_alloc (bel_alloc (Below.refl w.heap.size w) _) _))).mono ?_;rintro e w1 ⟨va,vn,vc,rfl,hb1⟩;have TK2:=qq (hp_be (hp_new (w.heap.size+1) (by simp)) hb1);have K1:=qq (((Blk.fresh _ _ _ (w.heap.size) (by simp)).alloc _).below hb1);have K2:=qq ((Blk.fresh _ _ _ (w.heap.size+1) (by simp)).below hb1)
 have HB:=qq (below_then (bel_alloc (bel_alloc (Below.refl w.heap.size w) _) _) hb1);have z1:=HB.out.size;clear hb1;have o3K1:=K1.out.lt;have o3K2:=K2.out.lt;obtain⟨lK1,qK1,fK1⟩:=K1.out;obtain⟨lK2,qK2,fK2⟩:=K2.out;go_wp2_with fail;clear qK1 fK1 lK1 qK2 fK2 lK2;refine(HW.out _ (HE.out.below (bel_alloc HB.out _)).err3).mono ?_;rintro e w2 ⟨rfl,hb2⟩;have TK2:=qq (hp_be (hp_al TK2.out _) hb2)
 have K2:=qq ((K2.out.alloc _).below hb2);have K3:=qq ((Blk.fresh _ _ _ (w1.heap.size) (by simp)).below hb2);have HB:=qq (below_then (bel_alloc HB.out _) hb2);have z2:=HB.out.size;clear hb2;obtain⟨lK2,qK2,fK2⟩:=K2.out;obtain⟨lK3,qK3,fK3⟩:=K3.out;have hT:=TK2.out
 go_wp2_with (refine row_go 81 (.tmp 6) (.tmp 28) rfl rfl (w.heap.size+1) #[.int .i64 0,.int .i64 0,.int .i64 0,.int .i64 0,.int .i64 0,.int .i64 0,.int .i64 0,.int .i64 0,.int .i64 0] #[.int .i64 0,.int .i64 0,.int .i64 0,.int .i64 0,.int .i64 0,.int .i64 0,.int .i64 0,.int .i64 0,.int .i64 0] 81 hT rfl rfl (by kernel_rfl) rfl (by simp[Value.oneCell']) ?_);clear hT;clear qK2 fK2 lK2 qK3 fK3 lK3
 intro w3 hK hg;have K2:=qq hK;have HB:=qq (bel_gr HB.out hg (by omega));clear hK hg;have z3:=HB.out.size;obtain⟨lK2,qK2,fK2⟩:=K2.out;go_wp2_with fail;refine bodyPost_ret (v:=.tuple #[.agg #[.int .i64 0,.int .i64 0,.int .i64 0,.int .i64 0,.int .i64 0,.int .i64 0,.int .i64 0,.int .i64 0,.int .i64 0],.bool false]) (by simp[results,Tryz.results66,go_sem,qK2,fK2]) rfl ?_;clear qK2 fK2 lK2
 exact⟨rfl,HB.out⟩
theorem lagain_yes (L:SLoc) (S:Sto) (na qa rg:Int) (w:World) (h:StoreAt L S w) (hG:StoGood S) (ea:Int→Addr) (hE:EnvS ea w) (i:Nat) (a:SAct) (hg:lGet S na qa=some (i,a)) (r:SReg) (hr:lReg a rg=some r) (hw:mWaits r.seat≠0):Calls Tryz.prog 66 #[.pointer (some ⟨L.sb,0,none⟩),.agg #[na,qa],.int .i64 rg] w (Makes (.tuple #[msgV (lMsg S a r rg (mWaits r.seat)),.bool true]) w):=by
 have H:=qq h;have HF:=qq (fun W hW=>lfind_yes L S na qa rg i a r W hW hG hg hr);have HW:=qq (fun W hW=>mwaits_of r.seat ea W hW);have HE:=qq hE;dsimp only[seatV] at HW;obtain⟨k,hk⟩:∃k,k=mWaits r.seat:=⟨_,rfl⟩
 rw[←hk] at HW hw⊢;have ek:(k==0)=false:=by simpa using hw
 unfold lMsg;obtain⟨an,aq,oc,dp,ex,pa,de,rs⟩:=a;obtain⟨rn,rp,⟨sp,sd,ss,sh⟩⟩:=r;unfold SeatOut at HF;dsimp only at*;clear h hE hG hg hr hw hk;go_enter Tryz.func66,Tryz.ntmps66;go_wp2_with fail;refine(HF.out _ (H.out.below (bel_alloc (bel_alloc (Below.refl w.heap.size w) _) _))).mono ?_;rintro e w1 ⟨va,vn,vc,rfl,hb1⟩;have TK2:=qq (hp_be (hp_new (w.heap.size+1) (by simp)) hb1)
 have K1:=qq (((Blk.fresh _ _ _ (w.heap.size) (by simp)).alloc _).below hb1);have K2:=qq ((Blk.fresh _ _ _ (w.heap.size+1) (by simp)).below hb1);have HB:=qq (below_then (bel_alloc (bel_alloc (Below.refl w.heap.size w) _) _) hb1);have z1:=HB.out.size;clear hb1;have o3K1:=K1.out.lt;have o3K2:=K2.out.lt;obtain⟨lK1,qK1,fK1⟩:=K1.out;obtain⟨lK2,qK2,fK2⟩:=K2.out;go_wp2_with fail
 clear qK1 fK1 lK1 qK2 fK2 lK2;refine(HW.out _ (HE.out.below (bel_alloc HB.out _)).err3).mono ?_;rintro e w2 ⟨rfl,hb2⟩;have TK2:=qq (hp_be (hp_al TK2.out _) hb2);have K2:=qq ((K2.out.alloc _).below hb2);have K3:=qq ((Blk.fresh _ _ _ (w1.heap.size) (by simp)).below hb2);have HB:=qq (below_then (bel_alloc HB.out _) hb2);have z2:=HB.out.size;clear hb2;obtain⟨lK2,qK2,fK2⟩:=K2.out
 obtain⟨lK3,qK3,fK3⟩:=K3.out;go_wp2_with fail;clear qK2 fK2 lK2 qK3 fK3 lK3;refine reg_start2 (fun w'=>Blk w' _ _∧Below w.heap.size w w') (fun w'=>Blk w' _ _∧w'.heap[_]? =some _) (by kernel_rfl) ⟨K3.out.drew,(bel_drew HB.out)⟩ ⟨K2.out.drew,(hp_dr TK2.out)⟩ ?_;rintro w3 hHeld ⟨K2',TK2'⟩;have K2:=qq K2';have TK2:=qq TK2';clear K2' TK2';obtain⟨K3',HB'⟩:=id hHeld
 have K3:=qq K3';have HB:=qq HB';clear K3' HB';have z3:=HB.out.size;refine takeM (d:=some 29) 0 rfl rfl hHeld (fun w' hS'=>by have qA:=hS'.1.cell;clear hS';go_simp;(try rfl)) ?_;simp only[puts];refine takeM (d:=some 30) 1 rfl rfl hHeld (fun w' _=>by go_simp;(try rfl)) ?_;simp only[puts];refine takeM (d:=some 31) 2 rfl rfl hHeld (fun w' _=>by go_simp;(try rfl)) ?_;simp only[puts]
 refine takeM (d:=some 32) 3 rfl rfl hHeld (fun w' hS'=>by have qA:=hS'.1.cell;clear hS';go_simp;(try rfl)) ?_;simp only[puts];refine one_M 4 (by kernel_rfl) ?_;refine wpOp_call (d:=some 33) 4 67 _ _ [.agg #[sp,sd,ss,sh]] rfl rfl rfl (enters_of Tryz.func67 (by kernel_rfl) rfl) (by rfl) (by rfl) ?_;refine(HW.out _ (HE.out.below HB.out).err3).mono ?_;rintro e w4 ⟨rfl,hb4⟩;clear hHeld
 have TK2:=qq (hp_be TK2.out hb4);have K2:=qq (K2.out.below hb4);have K3:=qq (K3.out.below hb4);have HB:=qq (below_then HB.out hb4);have z4:=HB.out.size;clear hb4;refine ret_S ⟨K3.out,HB.out⟩ (fun hHeld=> ?_);simp only[puts];refine one_M 5 (by kernel_rfl) ?_
 refine wpOp_call (d:=some 34) 5 168 _ _ [.agg #[rn,rp,sp,sd,ss,sh,an,aq,oc,dp,.float .f64 ex,pa,de,.slice va vn vc,S.node,rg],.int .i64 k] rfl rfl rfl (enters_of Tryz.func168 (by kernel_rfl) rfl) (by rfl) (by rfl) ?_;refine(lmsg_of rn rp sp sd ss sh an aq oc dp ex pa de va vn vc S.node rg k _).mono ?_;rintro e w5 ⟨rfl,hb5⟩;clear hHeld;have TK2:=qq (hp_be TK2.out hb5)
 have K2:=qq (K2.out.below hb5);have K3:=qq (K3.out.below hb5);have HB:=qq (below_then HB.out hb5);have z5:=HB.out.size;clear hb5
 (try dsimp only[msgV,msgA])
 refine ret_S ⟨K3.out,HB.out⟩ (fun hHeld=> ?_);simp only[puts];refine one_M 6 (by kernel_rfl) ?_
 refine row_M 6 81 (.tmp 6) (.tmp 34) rfl rfl rfl (w.heap.size+1) #[.int .i64 k,.int .i64 S.node,.int .i64 rn,.int .i64 an,.int .i64 aq,.int .i64 rg,.int .i64 rp,.int .i64 0,.int .i64 0] #[.int .i64 0,.int .i64 0,.int .i64 0,.int .i64 0,.int .i64 0,.int .i64 0,.int .i64 0,.int .i64 0,.int .i64 0] 81 TK2.out rfl rfl (by kernel_rfl) rfl (by simp[Value.oneCell']) ?_;clear hHeld;intro w6 hK hg
 have K2:=qq hK;have K3:=qq (K3.out.gr hg (by omega));have HB:=qq (bel_gr HB.out hg (by omega));clear hK hg;have z6:=HB.out.size;refine⟨⟨K3.out,HB.out⟩,fun hHeld=> ?_⟩
 (try simp only[puts])
 refine takeM (d:=some 7) 7 rfl rfl hHeld (fun w' _=>by go_simp;(try rfl)) ?_;simp only[puts];refine doneM (by kernel_rfl) ?_ _;clear hHeld;obtain⟨lK2,qK2,fK2⟩:=K2.out;obtain⟨lK3,qK3,fK3⟩:=K3.out;go_wp2_with fail;refine bodyPost_ret (v:=.tuple #[.agg #[k,S.node,rn,an,aq,rg,rp,.int .i64 0,.int .i64 0],.bool true]) (by simp[results,Tryz.results66,go_sem,qK2,fK2]) rfl ?_;clear qK2 fK2 lK2 qK3 fK3 lK3
 exact⟨rfl,HB.out⟩
theorem lagain_of (L:SLoc) (S:Sto) (na qa rg:Int) (ea:Int→Addr) (w:World) (hE:EnvS ea w) (h:StoreAt L S w) (hG:StoGood S):Calls Tryz.prog 66 #[.pointer (some ⟨L.sb,0,none⟩),.agg #[na,qa],.int .i64 rg] w (Makes (.tuple #[msgV (lAgain S na qa rg).1,.bool (lAgain S na qa rg).2]) w):=by
 unfold lAgain
 cases hg:lGet S na qa with
 | none=>exact lagain_none L S na qa rg w h hG hg
 | some x=>
  obtain⟨i,a⟩:=x;dsimp only
  cases hr:lReg a rg with
  | none=>exact lagain_noreg L S na qa rg w h hG i a hg hr
  | some r=>
   dsimp only;by_cases hw:mWaits r.seat=0
   · rw[if_pos hw];exact lagain_still L S na qa rg w h hG ea hE i a hg r hr hw
   · rw[if_neg hw];exact lagain_yes L S na qa rg w h hG ea hE i a hg r hr hw
theorem lmessage_none (L:SLoc) (S:Sto) (na qa rg k:Int) (w:World) (h:StoreAt L S w) (hG:StoGood S) (hg:lGet S na qa=none):Calls Tryz.prog 73 #[.pointer (some ⟨L.sb,0,none⟩),.agg #[na,qa],.int .i64 rg,.int .i64 k] w (Makes (.tuple #[.agg #[.int .i64 0,.int .i64 0,.int .i64 0,.int .i64 0,.int .i64 0,.int .i64 0,.int .i64 0,.int .i64 0,.int .i64 0],.bool false]) w):=by
 have H:=qq h;have HF:=qq (fun W hW=>lfind_none L S na qa rg W hW hG hg);clear h hG hg;go_enter Tryz.func73,Tryz.ntmps73;go_wp2_with fail;refine(HF.out _ (H.out.below (bel_alloc (bel_alloc (Below.refl w.heap.size w) _) _))).mono ?_;rintro e w1 ⟨rfl,hb1⟩;have TK2:=qq (hp_be (hp_new (w.heap.size+1) (by simp)) hb1);have K1:=qq (((Blk.fresh _ _ _ (w.heap.size) (by simp)).alloc _).below hb1)
 have K2:=qq ((Blk.fresh _ _ _ (w.heap.size+1) (by simp)).below hb1);have HB:=qq (below_then (bel_alloc (bel_alloc (Below.refl w.heap.size w) _) _) hb1);have z1:=HB.out.size;clear hb1;have o3K1:=K1.out.lt;have o3K2:=K2.out.lt;obtain⟨lK1,qK1,fK1⟩:=K1.out;obtain⟨lK2,qK2,fK2⟩:=K2.out
 have hT:=(hp_al TK2.out (.cells #[.int .i64 0,.int .i64 0,.int .i64 0,.int .i64 0,.int .i64 0,.int .i64 0,.int .i64 0,.int .i64 0,.int .i64 0,.int .i64 0,.float .f64 0,.int .i64 0,.int .i64 0,.slice none 0 0,.int .i64 0,.int .i64 0] 247))
 go_wp2_with (refine row_go 81 (.tmp 8) (.tmp 23) rfl rfl (w.heap.size+1) #[.int .i64 0,.int .i64 0,.int .i64 0,.int .i64 0,.int .i64 0,.int .i64 0,.int .i64 0,.int .i64 0,.int .i64 0] #[.int .i64 0,.int .i64 0,.int .i64 0,.int .i64 0,.int .i64 0,.int .i64 0,.int .i64 0,.int .i64 0,.int .i64 0] 81 hT rfl rfl (by kernel_rfl) rfl (by simp[Value.oneCell']) ?_);clear hT;clear qK1 fK1 lK1 qK2 fK2 lK2
 intro w2 hK hg;have K2:=qq hK;have HB:=qq (bel_gr (bel_alloc HB.out _) hg (by omega));clear hK hg;have z2:=HB.out.size;obtain⟨lK2,qK2,fK2⟩:=K2.out;go_wp2_with fail;refine bodyPost_ret (v:=.tuple #[.agg #[.int .i64 0,.int .i64 0,.int .i64 0,.int .i64 0,.int .i64 0,.int .i64 0,.int .i64 0,.int .i64 0,.int .i64 0],.bool false]) (by simp[results,Tryz.results73,go_sem,qK2,fK2]) rfl ?_
 clear qK2 fK2 lK2;exact⟨rfl,HB.out⟩
theorem lmessage_noreg (L:SLoc) (S:Sto) (na qa rg k:Int) (w:World) (h:StoreAt L S w) (hG:StoGood S) (i:Nat) (a:SAct) (hg:lGet S na qa=some (i,a)) (hr:lReg a rg=none):Calls Tryz.prog 73 #[.pointer (some ⟨L.sb,0,none⟩),.agg #[na,qa],.int .i64 rg,.int .i64 k] w (Makes (.tuple #[.agg #[.int .i64 0,.int .i64 0,.int .i64 0,.int .i64 0,.int .i64 0,.int .i64 0,.int .i64 0,.int .i64 0,.int .i64 0],.bool false]) w):=by
 have H:=qq h;have HF:=qq (fun W hW=>lfind_noreg L S na qa rg i a W hW hG hg hr);clear h hG hg hr;go_enter Tryz.func73,Tryz.ntmps73;go_wp2_with fail;refine(HF.out _ (H.out.below (bel_alloc (bel_alloc (Below.refl w.heap.size w) _) _))).mono ?_;rintro e w1 ⟨rfl,hb1⟩;have TK2:=qq (hp_be (hp_new (w.heap.size+1) (by simp)) hb1);have K1:=qq (((Blk.fresh _ _ _ (w.heap.size) (by simp)).alloc _).below hb1)
 have K2:=qq ((Blk.fresh _ _ _ (w.heap.size+1) (by simp)).below hb1);have HB:=qq (below_then (bel_alloc (bel_alloc (Below.refl w.heap.size w) _) _) hb1);have z1:=HB.out.size;clear hb1;have o3K1:=K1.out.lt;have o3K2:=K2.out.lt;obtain⟨lK1,qK1,fK1⟩:=K1.out;obtain⟨lK2,qK2,fK2⟩:=K2.out
 have hT:=(hp_al TK2.out (.cells #[.int .i64 0,.int .i64 0,.int .i64 0,.int .i64 0,.int .i64 0,.int .i64 0,.int .i64 0,.int .i64 0,.int .i64 0,.int .i64 0,.float .f64 0,.int .i64 0,.int .i64 0,.slice none 0 0,.int .i64 0,.int .i64 0] 247))
 go_wp2_with (refine row_go 81 (.tmp 8) (.tmp 23) rfl rfl (w.heap.size+1) #[.int .i64 0,.int .i64 0,.int .i64 0,.int .i64 0,.int .i64 0,.int .i64 0,.int .i64 0,.int .i64 0,.int .i64 0] #[.int .i64 0,.int .i64 0,.int .i64 0,.int .i64 0,.int .i64 0,.int .i64 0,.int .i64 0,.int .i64 0,.int .i64 0] 81 hT rfl rfl (by kernel_rfl) rfl (by simp[Value.oneCell']) ?_);clear hT;clear qK1 fK1 lK1 qK2 fK2 lK2
 intro w2 hK hg;have K2:=qq hK;have HB:=qq (bel_gr (bel_alloc HB.out _) hg (by omega));clear hK hg;have z2:=HB.out.size;obtain⟨lK2,qK2,fK2⟩:=K2.out;go_wp2_with fail;refine bodyPost_ret (v:=.tuple #[.agg #[.int .i64 0,.int .i64 0,.int .i64 0,.int .i64 0,.int .i64 0,.int .i64 0,.int .i64 0,.int .i64 0,.int .i64 0],.bool false]) (by simp[results,Tryz.results73,go_sem,qK2,fK2]) rfl ?_
 clear qK2 fK2 lK2;exact⟨rfl,HB.out⟩
theorem lmessage_yes (L:SLoc) (S:Sto) (na qa rg k:Int) (w:World) (h:StoreAt L S w) (hG:StoGood S) (i:Nat) (a:SAct) (hg:lGet S na qa=some (i,a)) (r:SReg) (hr:lReg a rg=some r):Calls Tryz.prog 73 #[.pointer (some ⟨L.sb,0,none⟩),.agg #[na,qa],.int .i64 rg,.int .i64 k] w (Makes (.tuple #[msgV (lMsg S a r rg k),.bool true]) w):=by
 have H:=qq h;have HF:=qq (fun W hW=>lfind_yes L S na qa rg i a r W hW hG hg hr);unfold lMsg;obtain⟨an,aq,oc,dp,ex,pa,de,rs⟩:=a;obtain⟨rn,rp,⟨sp,sd,ss,sh⟩⟩:=r;unfold SeatOut at HF;dsimp only at*;clear h hG hg hr;go_enter Tryz.func73,Tryz.ntmps73;go_wp2_with fail;refine(HF.out _ (H.out.below (bel_alloc (bel_alloc (Below.refl w.heap.size w) _) _))).mono ?_;rintro e w1 ⟨va,vn,vc,rfl,hb1⟩
 have TK2:=qq (hp_be (hp_new (w.heap.size+1) (by simp)) hb1);have K1:=qq (((Blk.fresh _ _ _ (w.heap.size) (by simp)).alloc _).below hb1);have K2:=qq ((Blk.fresh _ _ _ (w.heap.size+1) (by simp)).below hb1);have HB:=qq (below_then (bel_alloc (bel_alloc (Below.refl w.heap.size w) _) _) hb1);have z1:=HB.out.size;clear hb1;have o3K1:=K1.out.lt;have o3K2:=K2.out.lt;obtain⟨lK1,qK1,fK1⟩:=K1.out
 obtain⟨lK2,qK2,fK2⟩:=K2.out;go_wp2_with fail;clear qK1 fK1 lK1 qK2 fK2 lK2;refine(lmsg_of rn rp sp sd ss sh an aq oc dp ex pa de va vn vc S.node rg k _).mono ?_;rintro e w2 ⟨rfl,hb2⟩;have TK2:=qq (hp_be (hp_al TK2.out _) hb2);have K2:=qq ((K2.out.alloc _).below hb2);have K3:=qq ((Blk.fresh _ _ _ (w1.heap.size) (by simp)).below hb2);have HB:=qq (below_then (bel_alloc HB.out _) hb2)
 have z2:=HB.out.size;clear hb2
 (try dsimp only[msgV,msgA])
 obtain⟨lK2,qK2,fK2⟩:=K2.out;obtain⟨lK3,qK3,fK3⟩:=K3.out;have hT:=TK2.out
 go_wp2_with (refine row_go 81 (.tmp 8) (.tmp 26) rfl rfl (w.heap.size+1) #[.int .i64 k,.int .i64 S.node,.int .i64 rn,.int .i64 an,.int .i64 aq,.int .i64 rg,.int .i64 rp,.int .i64 0,.int .i64 0] #[.int .i64 0,.int .i64 0,.int .i64 0,.int .i64 0,.int .i64 0,.int .i64 0,.int .i64 0,.int .i64 0,.int .i64 0] 81 hT rfl rfl (by kernel_rfl) rfl (by simp[Value.oneCell']) ?_);clear hT
 clear qK2 fK2 lK2 qK3 fK3 lK3;intro w3 hK hg;have K2:=qq hK;have K3:=qq (K3.out.gr hg (by omega));have HB:=qq (bel_gr HB.out hg (by omega));clear hK hg;have z3:=HB.out.size;obtain⟨lK2,qK2,fK2⟩:=K2.out;obtain⟨lK3,qK3,fK3⟩:=K3.out;go_wp2_with fail
 refine bodyPost_ret (v:=.tuple #[.agg #[k,S.node,rn,an,aq,rg,rp,.int .i64 0,.int .i64 0],.bool true]) (by simp[results,Tryz.results73,go_sem,qK2,fK2]) rfl ?_;clear qK2 fK2 lK2 qK3 fK3 lK3;exact⟨rfl,HB.out⟩
theorem lmessage_of (L:SLoc) (S:Sto) (na qa rg k:Int) (w:World) (h:StoreAt L S w) (hG:StoGood S):Calls Tryz.prog 73 #[.pointer (some ⟨L.sb,0,none⟩),.agg #[na,qa],.int .i64 rg,.int .i64 k] w (Makes (.tuple #[msgV (lMessage S na qa rg k).1,.bool (lMessage S na qa rg k).2]) w):=by
 unfold lMessage
 cases hg:lGet S na qa with
 | none=>exact lmessage_none L S na qa rg k w h hG hg
 | some x=>
  obtain⟨i,a⟩:=x;dsimp only
  cases hr:lReg a rg with
  | none=>exact lmessage_noreg L S na qa rg k w h hG i a hg hr
  | some r=>exact lmessage_yes L S na qa rg k w h hG i a hg r hr
theorem ltakesA_none (L:SLoc) (S:Sto) (na qa:Int) (now:Nat) (w:World) (h:StoreAt L S w) (hG:StoGood S) (hg:lGet S na qa=none):Calls Tryz.prog 65 #[.pointer (some ⟨L.sb,0,none⟩),.agg #[na,qa],flV now] w (Makes (.bool false) w):=by
 have H:=qq h;have HF:=qq (fun W hW=>Find_no L S na qa W hW hG hg);clear h hG hg;go_enter Tryz.func65,Tryz.ntmps65;go_wp2_with fail;refine(HF.out _ (H.out.below (bel_alloc (Below.refl w.heap.size w) _))).mono ?_;rintro e w1 ⟨rfl,hb1⟩;have K1:=qq ((Blk.fresh _ _ _ (w.heap.size) (by simp)).below hb1);have HB:=qq (below_then (bel_alloc (Below.refl w.heap.size w) _) hb1);have z1:=HB.out.size;clear hb1
 have o2K1:=K1.out.lt;obtain⟨lK1,qK1,fK1⟩:=K1.out;go_wp2_with fail;refine bodyPost_ret (v:=.bool false) (by simp[results,Tryz.results65,go_sem]) rfl ?_;clear qK1 fK1 lK1;exact⟨rfl,(bel_alloc HB.out _)⟩
theorem ltakesA_yes (L:SLoc) (S:Sto) (na qa:Int) (now:Nat) (w:World) (h:StoreAt L S w) (hG:StoGood S) (ea:Int→Addr) (hE:EnvS ea w) (hn64:F64 now) (i:Nat) (a:SAct) (hg:lGet S na qa=some (i,a)):Calls Tryz.prog 65 #[.pointer (some ⟨L.sb,0,none⟩),.agg #[na,qa],flV now] w (Makes (.bool (lTakes S a now)) w):=by
 have H:=qq h;have HF:=qq (fun W hW=>Find_yes L S na qa i a W hW hG hg);have HE:=qq hE;have hA:=hG.act a (lGet_some hg).2.2.1;have hex:F64 a.ex:=by have:=(ctxOk_ex hA.ctx).1;unfold fdelay at this;unfold F64;simp at this;omega
 have HT:=qq (fun va vc W h1 h2=>ltakes_of L S a va vc now ea W h1 h2 hG hex hn64 ⟨hA.pa.1,by have:=hA.pa.2;have:=hG.parts;omega⟩);obtain⟨b,hb⟩:∃b,b=lTakes S a now:=⟨_,rfl⟩
 rw[←hb] at HT⊢;obtain⟨an,aq,oc,dp,ex,pa,de,rs⟩:=a;unfold ActOut at HF;dsimp only[actC] at*;obtain⟨vn,hvn⟩:∃n,n=rs.length:=⟨_,rfl⟩
 rw[←hvn] at HT HF;clear h hE hG hn64 hg hA hex hb hvn;go_enter Tryz.func65,Tryz.ntmps65;go_wp2_with fail;refine(HF.out _ (H.out.below (bel_alloc (Below.refl w.heap.size w) _))).mono ?_;rintro e w1 ⟨v',rfl,ho,hb1⟩;obtain⟨va,vc,rfl,hlen,hrow⟩:=reg_row ho;clear ho hlen hrow;have K1:=qq ((Blk.fresh _ _ _ (w.heap.size) (by simp)).below hb1)
 have HB:=qq (below_then (bel_alloc (Below.refl w.heap.size w) _) hb1);have z1:=HB.out.size;clear hb1;have o2K1:=K1.out.lt;obtain⟨lK1,qK1,fK1⟩:=K1.out;go_wp2_with fail;clear qK1 fK1 lK1;refine(HT.out _ _ _ (HE.out.below (bel_alloc HB.out _)) (H.out.below (bel_alloc HB.out _))).mono ?_;rintro e w2 ⟨rfl,hb2⟩;have K2:=qq ((Blk.fresh _ _ _ (w1.heap.size) (by simp)).below hb2)
 have HB:=qq (below_then (bel_alloc HB.out _) hb2);have z2:=HB.out.size;clear hb2;obtain⟨lK2,qK2,fK2⟩:=K2.out;go_wp2_with fail;refine bodyPost_ret (v:=.bool b) (by simp[results,Tryz.results65,go_sem]) rfl ?_;clear qK2 fK2 lK2;exact⟨rfl,HB.out⟩
theorem ltakesA_of (L:SLoc) (S:Sto) (na qa:Int) (now:Nat) (ea:Int→Addr) (w:World) (hE:EnvS ea w) (h:StoreAt L S w) (hG:StoGood S) (hn64:F64 now):Calls Tryz.prog 65 #[.pointer (some ⟨L.sb,0,none⟩),.agg #[na,qa],flV now] w (Makes (.bool (lTakesA S na qa now)) w):=by
 unfold lTakesA
 cases hg:lGet S na qa with
 | none=>exact ltakesA_none L S na qa now w h hG hg
 | some x=>exact ltakesA_yes L S na qa now w h hG ea hE hn64 x.1 x.2 hg
theorem rlmsg17_of (R:RLoc) (S:Sto) (i j:Nat) (k:Int) (a:SAct) (r:SReg) (w:World) (h:RStoreAt R S w) (hG:StoGood S) (ha:S.acts[i]? =some a) (hj:a.regs[j]? =some r):Calls Tryz.prog 74 #[.pointer (some ⟨R.sb,0,none⟩),.int .i64 i,.int .i64 j,.int .i64 k] w (Makes (msgV (lMsg S a r j k)) w):=by
 unfold lMsg;obtain⟨g,n,cap,va,vc,hin,hn8,hv6,hQ,hRR⟩:=ract_at h hG ha;obtain⟨nd,hnd⟩:∃nd,nd=S.node:=⟨_,rfl⟩
 have hi0:(0:Int)≤(i:Int):=by omega
 have hi1:(i:Int)<(n:Int):=by omega
 obtain⟨gr,rfl,hQR⟩:=hRR j r hj;have hj0:(0:Int)≤(j:Int):=by omega
 have hjl:j<a.regs.length:=(List.getElem?_eq_some_iff.1 hj).1;rw[←hnd] at hQ⊢;obtain⟨an,aq,oc,dp,ex,pa,de,rs⟩:=a;unfold ActC at hQ;dsimp only at*;obtain⟨vn,hvn⟩:∃n,n=rs.length:=⟨_,rfl⟩
 rw[←hvn] at hQ hv6 hjl;obtain⟨rn,rp,⟨sp,sd,ss,sh⟩⟩:=r;unfold RegC at hQR;dsimp only at*;have hj1:(j:Int)<(vn:Int):=by omega
 have HQ:=qq (fun W hW=>And.intro (hQ W hW) (hQR W hW));dsimp only[msgV,msgA];clear h hG ha hj hnd hvn hQ hQR hRR;go_enter Tryz.func74,Tryz.ntmps74;obtain⟨⟨xl,gl,xn,xa,a0,a1,a2,a3,a4,a5,a6,a7⟩,rl,r0,r1,r2,r3,r4,r5⟩:=HQ.out _ (Below.refl _ _);go_wp2_with fail;clear xl gl xn xa a0 a1 a2 a3 a4 a5 a6 a7 rl r0 r1 r2 r3 r4 r5
 refine reg_start2 (fun w'=>Blk w' _ _∧Blk w' _ _∧Below w.heap.size w w') (fun w'=>w'.heap[_]? =some _) (by kernel_rfl) ⟨((Blk.fresh _ _ _ (w.heap.size) (by simp)).alloc _).drew,(Blk.fresh _ _ _ (w.heap.size+1) (by simp)).drew,(bel_drew (bel_alloc (bel_alloc (Below.refl w.heap.size w) _) _))⟩ ((hp_dr (hp_al (hp_new (w.heap.size) (by simp)) _))) ?_;rintro w1 hHeld TK1';have TK1:=qq TK1';clear TK1'
 obtain⟨K1',K2',HB'⟩:=id hHeld;have K1:=qq K1';have K2:=qq K2';have HB:=qq HB';clear K1' K2' HB';have z1:=HB.out.size;refine takeM (d:=some 21) 0 rfl rfl hHeld (fun w' _=>by go_simp;(try rfl)) ?_;simp only[puts];refine takeM (d:=some 22) 1 rfl rfl hHeld (fun w' _=>by go_simp;(try rfl)) ?_;simp only[puts];refine takeM (d:=some 23) 2 rfl rfl hHeld (fun w' _=>by go_simp;(try rfl)) ?_;simp only[puts]
 refine takeM (d:=some 24) 3 rfl rfl hHeld (fun w' _=>by go_simp;(try rfl)) ?_;simp only[puts];refine takeM (d:=some 25) 4 rfl rfl hHeld (fun w' hS'=>by obtain⟨⟨xl,gl,xn,xa,a0,a1,a2,a3,a4,a5,a6,a7⟩,rl,r0,r1,r2,r3,r4,r5⟩:=HQ.out _ hS'.2.2;clear hS';go_simp;(try rfl)) ?_;simp only[puts];refine takeM (d:=some 26) 5 rfl rfl hHeld (fun w' _=>by go_simp;(try rfl)) ?_;simp only[puts]
 refine takeM (d:=some 27) 6 rfl rfl hHeld (fun w' hS'=>by have qA:=hS'.2.1.cell;clear hS';go_simp;(try rfl)) ?_;simp only[puts];refine takeM (d:=some 28) 7 rfl rfl hHeld (fun w' _=>by go_simp;(try rfl)) ?_;simp only[puts];refine takeM (d:=some 29) 8 rfl rfl hHeld (fun w' _=>by go_simp;(try rfl)) ?_;simp only[puts];refine takeM (d:=some 30) 9 rfl rfl hHeld (fun w' _=>by go_simp;(try rfl)) ?_
 simp only[puts];refine takeM (d:=some 31) 10 rfl rfl hHeld (fun w' hS'=>by obtain⟨⟨xl,gl,xn,xa,a0,a1,a2,a3,a4,a5,a6,a7⟩,rl,r0,r1,r2,r3,r4,r5⟩:=HQ.out _ hS'.2.2;clear hS';go_simp;(try rfl)) ?_;simp only[puts];refine takeM (d:=some 32) 11 rfl rfl hHeld (fun w' _=>by go_simp;(try rfl)) ?_;simp only[puts];refine takeM (d:=some 33) 12 rfl rfl hHeld (fun w' _=>by go_simp;(try rfl)) ?_;simp only[puts]
 refine takeM (d:=some 34) 13 rfl rfl hHeld (fun w' _=>by go_simp;(try rfl)) ?_;simp only[puts];refine takeM (d:=some 35) 14 rfl rfl hHeld (fun w' _=>by go_simp;(try rfl)) ?_;simp only[puts];refine takeM (d:=some 36) 15 rfl rfl hHeld (fun w' hS'=>by obtain⟨⟨xl,gl,xn,xa,a0,a1,a2,a3,a4,a5,a6,a7⟩,rl,r0,r1,r2,r3,r4,r5⟩:=HQ.out _ hS'.2.2;clear hS';go_simp;(try rfl)) ?_;simp only[puts]
 refine takeM (d:=some 37) 16 rfl rfl hHeld (fun w' _=>by go_simp;(try rfl)) ?_;simp only[puts];refine takeM (d:=some 38) 17 rfl rfl hHeld (fun w' _=>by go_simp;(try rfl)) ?_;simp only[puts];refine takeM (d:=some 39) 18 rfl rfl hHeld (fun w' hS'=>by have qA:=hS'.2.1.cell;clear hS';go_simp;(try rfl)) ?_;simp only[puts];refine takeM (d:=some 40) 19 rfl rfl hHeld (fun w' _=>by go_simp;(try rfl)) ?_
 simp only[puts];refine last_row 20 81 (.tmp 8) (.tmp 40) rfl rfl rfl (w.heap.size) #[.int .i64 k,.int .i64 nd,.int .i64 rn,.int .i64 an,.int .i64 aq,.int .i64 j,.int .i64 rp,.int .i64 0,.int .i64 0] #[.int .i64 0,.int .i64 0,.int .i64 0,.int .i64 0,.int .i64 0,.int .i64 0,.int .i64 0,.int .i64 0,.int .i64 0] 81 TK1.out rfl rfl (by kernel_rfl) rfl (by simp[Value.oneCell']) ?_;clear hHeld
 rintro w2 hK hg;have K1:=qq hK;have K2:=qq (K2.out.gr hg (by omega));have HB:=qq (bel_gr HB.out hg (by omega));clear hK hg;have z2:=HB.out.size
 (try simp only[puts])
 obtain⟨⟨xl,gl,xn,xa,a0,a1,a2,a3,a4,a5,a6,a7⟩,rl,r0,r1,r2,r3,r4,r5⟩:=HQ.out _ HB.out;obtain⟨lK1,qK1,fK1⟩:=K1.out;obtain⟨lK2,qK2,fK2⟩:=K2.out;go_wp2_with fail;refine bodyPost_ret (v:=.agg #[k,nd,rn,an,aq,j,rp,.int .i64 0,.int .i64 0]) (by simp[results,Tryz.results74,go_sem,qK1,fK1]) rfl ?_;clear qK1 fK1 lK1 qK2 fK2 lK2 xl gl xn xa a0 a1 a2 a3 a4 a5 a6 a7 rl r0 r1 r2 r3 r4 r5;exact⟨rfl,HB.out⟩
theorem rlagain_none (R:RLoc) (S:Sto) (rg:Int) (w:World) (h:RStoreAt R S w) (hG:StoGood S):Calls Tryz.prog 71 #[.pointer (some ⟨R.sb,0,none⟩),.int .i64 (-1),.int .i64 rg] w (Makes (.tuple #[msgV msg0,.bool false]) w):=by
 dsimp only[msgV,msgA,msg0];clear h hG;go_enter Tryz.func71,Tryz.ntmps71;go_wp2_with fail;refine bodyPost_ret (v:=.tuple #[.agg #[.int .i64 0,.int .i64 0,.int .i64 0,.int .i64 0,.int .i64 0,.int .i64 0,.int .i64 0,.int .i64 0,.int .i64 0],.bool false]) (by simp[results,Tryz.results71,go_sem]) rfl ?_;exact⟨rfl,(bel_alloc (Below.refl w.heap.size w) _)⟩
theorem rlagain_neg (R:RLoc) (S:Sto) (i:Nat) (rg:Int) (w:World) (h:RStoreAt R S w) (hG:StoGood S) (hr:rg<0):Calls Tryz.prog 71 #[.pointer (some ⟨R.sb,0,none⟩),.int .i64 i,.int .i64 rg] w (Makes (.tuple #[msgV msg0,.bool false]) w):=by
 dsimp only[msgV,msgA,msg0];have hi0:¬(i:Int)<0:=by omega
 clear h hG;go_enter Tryz.func71,Tryz.ntmps71;go_wp2_with fail;refine bodyPost_ret (v:=.tuple #[.agg #[.int .i64 0,.int .i64 0,.int .i64 0,.int .i64 0,.int .i64 0,.int .i64 0,.int .i64 0,.int .i64 0,.int .i64 0],.bool false]) (by simp[results,Tryz.results71,go_sem]) rfl ?_;exact⟨rfl,(bel_alloc (Below.refl w.heap.size w) _)⟩
theorem rlagain_out (R:RLoc) (S:Sto) (i:Nat) (rg:Int) (a:SAct) (w:World) (h:RStoreAt R S w) (hG:StoGood S) (ha:S.acts[i]? =some a) (hr0:0≤rg) (hr:(a.regs.length:Int)≤rg):Calls Tryz.prog 71 #[.pointer (some ⟨R.sb,0,none⟩),.int .i64 i,.int .i64 rg] w (Makes (.tuple #[msgV msg0,.bool false]) w):=by
 obtain⟨g,n,cap,va,vc,hin,hn8,hv6,hQ,hRR⟩:=ract_at h hG ha;obtain⟨nd,hnd⟩:∃nd,nd=S.node:=⟨_,rfl⟩
 have hi0:(0:Int)≤(i:Int):=by omega
 have hi1:(i:Int)<(n:Int):=by omega
 obtain⟨an,aq,oc,dp,ex,pa,de,rs⟩:=a;unfold ActC at hQ;dsimp only at*;obtain⟨vn,hvn⟩:∃n,n=rs.length:=⟨_,rfl⟩
 rw[←hvn] at hQ hv6 hr;have HQ:=qq hQ;have hi00:¬(i:Int)<0:=by omega
 have hr00:¬rg<0:=by omega
 dsimp only[msgV,msgA,msg0];clear h hG ha hnd hvn hQ hRR;go_enter Tryz.func71,Tryz.ntmps71;obtain⟨xl,gl,xn,xa,a0,a1,a2,a3,a4,a5,a6,a7⟩:=HQ.out _ (Below.refl _ _);go_wp2_with fail;refine bodyPost_ret (v:=.tuple #[.agg #[.int .i64 0,.int .i64 0,.int .i64 0,.int .i64 0,.int .i64 0,.int .i64 0,.int .i64 0,.int .i64 0,.int .i64 0],.bool false]) (by simp[results,Tryz.results71,go_sem]) rfl ?_
 clear xl gl xn xa a0 a1 a2 a3 a4 a5 a6 a7;exact⟨rfl,(bel_alloc (Below.refl w.heap.size w) _)⟩
theorem rlagain_idle (R:RLoc) (S:Sto) (i j:Nat) (a:SAct) (r:SReg) (w:World) (h:RStoreAt R S w) (hG:StoGood S) (ha:S.acts[i]? =some a) (hj:a.regs[j]? =some r) (hw:rWaits 1 r.seat.s=0):Calls Tryz.prog 71 #[.pointer (some ⟨R.sb,0,none⟩),.int .i64 i,.int .i64 j] w (Makes (.tuple #[msgV msg0,.bool false]) w):=by
 have HW:=qq (fun W=>rwaits_any 1 r.seat.s W);rw[hw] at HW;obtain⟨g,n,cap,va,vc,hin,hn8,hv6,hQ,hRR⟩:=ract_at h hG ha;obtain⟨nd,hnd⟩:∃nd,nd=S.node:=⟨_,rfl⟩
 have hi0:(0:Int)≤(i:Int):=by omega
 have hi1:(i:Int)<(n:Int):=by omega
 obtain⟨gr,rfl,hQR⟩:=hRR j r hj;have hj0:(0:Int)≤(j:Int):=by omega
 have hjl:j<a.regs.length:=(List.getElem?_eq_some_iff.1 hj).1;obtain⟨an,aq,oc,dp,ex,pa,de,rs⟩:=a;unfold ActC at hQ;dsimp only at*;obtain⟨vn,hvn⟩:∃n,n=rs.length:=⟨_,rfl⟩
 rw[←hvn] at hQ hv6 hjl;obtain⟨rn,rp,⟨sp,sd,ss,sh⟩⟩:=r;unfold RegC at hQR;dsimp only at*;have hj1:(j:Int)<(vn:Int):=by omega
 have HQ:=qq (fun W hW=>And.intro (hQ W hW) (hQR W hW));dsimp only[msgV,msgA,msg0];clear h hG ha hj hnd hvn hQ hQR hRR hw;go_enter Tryz.func71,Tryz.ntmps71;obtain⟨⟨xl,gl,xn,xa,a0,a1,a2,a3,a4,a5,a6,a7⟩,rl,r0,r1,r2,r3,r4,r5⟩:=HQ.out _ (Below.refl _ _);go_wp2_with fail;clear xl gl xn xa a0 a1 a2 a3 a4 a5 a6 a7 rl r0 r1 r2 r3 r4 r5;refine(HW.out _).mono ?_;rintro e w1 ⟨rfl,rfl⟩
 obtain⟨⟨xl,gl,xn,xa,a0,a1,a2,a3,a4,a5,a6,a7⟩,rl,r0,r1,r2,r3,r4,r5⟩:=HQ.out _ (Below.refl _ _);go_wp2_with fail;refine bodyPost_ret (v:=.tuple #[.agg #[.int .i64 0,.int .i64 0,.int .i64 0,.int .i64 0,.int .i64 0,.int .i64 0,.int .i64 0,.int .i64 0,.int .i64 0],.bool false]) (by simp[results,Tryz.results71,go_sem]) rfl ?_;clear xl gl xn xa a0 a1 a2 a3 a4 a5 a6 a7 rl r0 r1 r2 r3 r4 r5
 exact⟨rfl,(bel_alloc (Below.refl w.heap.size w) _)⟩
theorem rlagain_wait (R:RLoc) (S:Sto) (i j:Nat) (k:Int) (a:SAct) (r:SReg) (w:World) (h:RStoreAt R S w) (hG:StoGood S) (ha:S.acts[i]? =some a) (hj:a.regs[j]? =some r) (hw:rWaits 1 r.seat.s=k) (hk:¬k=0):Calls Tryz.prog 71 #[.pointer (some ⟨R.sb,0,none⟩),.int .i64 i,.int .i64 j] w (Makes (.tuple #[msgV (lMsg S a r j k),.bool true]) w):=by
 have HW:=qq (fun W=>rwaits_any 1 r.seat.s W);rw[hw] at HW;have HM:=qq (fun W (hW:Below w.heap.size w W)=>rlmsg17_of R S i j k a r W (h.below hW) hG ha hj);have hk0:(k==0)=false:=by simpa using hk
 unfold lMsg at HM⊢;obtain⟨g,n,cap,va,vc,hin,hn8,hv6,hQ,hRR⟩:=ract_at h hG ha;obtain⟨nd,hnd⟩:∃nd,nd=S.node:=⟨_,rfl⟩
 have hi0:(0:Int)≤(i:Int):=by omega
 have hi1:(i:Int)<(n:Int):=by omega
 obtain⟨gr,rfl,hQR⟩:=hRR j r hj;have hj0:(0:Int)≤(j:Int):=by omega
 have hjl:j<a.regs.length:=(List.getElem?_eq_some_iff.1 hj).1;rw[←hnd] at hQ HM⊢;obtain⟨an,aq,oc,dp,ex,pa,de,rs⟩:=a;unfold ActC at hQ;dsimp only at*;obtain⟨vn,hvn⟩:∃n,n=rs.length:=⟨_,rfl⟩
 rw[←hvn] at hQ hv6 hjl;obtain⟨rn,rp,⟨sp,sd,ss,sh⟩⟩:=r;unfold RegC at hQR;dsimp only at*;have hj1:(j:Int)<(vn:Int):=by omega
 have HQ:=qq (fun W hW=>And.intro (hQ W hW) (hQR W hW));dsimp only[msgV,msgA] at HM⊢;clear h hG ha hj hnd hvn hQ hQR hRR hw hk;go_enter Tryz.func71,Tryz.ntmps71;obtain⟨⟨xl,gl,xn,xa,a0,a1,a2,a3,a4,a5,a6,a7⟩,rl,r0,r1,r2,r3,r4,r5⟩:=HQ.out _ (Below.refl _ _);go_wp2_with fail;clear xl gl xn xa a0 a1 a2 a3 a4 a5 a6 a7 rl r0 r1 r2 r3 r4 r5;refine(HW.out _).mono ?_;rintro e w1 ⟨rfl,rfl⟩
 obtain⟨⟨xl,gl,xn,xa,a0,a1,a2,a3,a4,a5,a6,a7⟩,rl,r0,r1,r2,r3,r4,r5⟩:=HQ.out _ (Below.refl _ _);go_wp2_with fail;clear xl gl xn xa a0 a1 a2 a3 a4 a5 a6 a7 rl r0 r1 r2 r3 r4 r5;refine(HM.out _ (bel_alloc (Below.refl w.heap.size w) _)).mono ?_;rintro e w2 ⟨rfl,hb2⟩;have TK1:=qq (hp_be (hp_new (w.heap.size) (by simp)) hb2);have K1:=qq ((Blk.fresh _ _ _ (w.heap.size) (by simp)).below hb2)
 have HB:=qq (below_then (bel_alloc (Below.refl w.heap.size w) _) hb2);have z2:=HB.out.size;clear hb2;obtain⟨⟨xl,gl,xn,xa,a0,a1,a2,a3,a4,a5,a6,a7⟩,rl,r0,r1,r2,r3,r4,r5⟩:=HQ.out _ HB.out;obtain⟨lK1,qK1,fK1⟩:=K1.out;have hT:=TK1.out
 go_wp2_with (refine row_go 81 (.tmp 6) (.tmp 50) rfl rfl (w.heap.size) #[.int .i64 k,.int .i64 nd,.int .i64 rn,.int .i64 an,.int .i64 aq,.int .i64 j,.int .i64 rp,.int .i64 0,.int .i64 0] #[.int .i64 0,.int .i64 0,.int .i64 0,.int .i64 0,.int .i64 0,.int .i64 0,.int .i64 0,.int .i64 0,.int .i64 0] 81 hT rfl rfl (by kernel_rfl) rfl (by simp[Value.oneCell']) ?_);clear hT
 clear qK1 fK1 lK1 xl gl xn xa a0 a1 a2 a3 a4 a5 a6 a7 rl r0 r1 r2 r3 r4 r5;intro w3 hK hg;have K1:=qq hK;have HB:=qq (bel_gr HB.out hg (by omega));clear hK hg;have z3:=HB.out.size;obtain⟨⟨xl,gl,xn,xa,a0,a1,a2,a3,a4,a5,a6,a7⟩,rl,r0,r1,r2,r3,r4,r5⟩:=HQ.out _ HB.out;obtain⟨lK1,qK1,fK1⟩:=K1.out;go_wp2_with fail
 refine bodyPost_ret (v:=.tuple #[.agg #[k,nd,rn,an,aq,j,rp,.int .i64 0,.int .i64 0],.bool true]) (by simp[results,Tryz.results71,go_sem,qK1,fK1]) rfl ?_;clear qK1 fK1 lK1 xl gl xn xa a0 a1 a2 a3 a4 a5 a6 a7 rl r0 r1 r2 r3 r4 r5;exact⟨rfl,HB.out⟩
theorem rlagain17_of (R:RLoc) (S:Sto) (na qa rg:Int) (w:World) (h:RStoreAt R S w) (hG:StoGood S):Calls Tryz.prog 71 #[.pointer (some ⟨R.sb,0,none⟩),.int .i64 (oix (sfind S na qa)),.int .i64 rg] w (Makes (.tuple #[msgV (lAgain S na qa rg).1,.bool (lAgain S na qa rg).2]) w):=by
 unfold lAgain
 cases hg:lGet S na qa with
 | none=>rw[lGet_none hg];exact rlagain_none R S rg w h hG
 | some x=>
  obtain⟨i,a⟩:=x;obtain⟨hf,ha,hm,_,_⟩:=lGet_some hg;rw[hf];dsimp only[oix]
  cases hr:lReg a rg with
  | none=>
   rcases lReg_none hr with h0 | ⟨h0,h1⟩
   · exact rlagain_neg R S i rg w h hG h0
   · exact rlagain_out R S i rg a w h hG ha h0 h1
  | some r=>
   obtain⟨j,rfl,hj,_⟩:=lReg_some hr;dsimp only;have hR:=(hG.act a hm).reg r (List.mem_of_getElem? hj);have he:mWaits r.seat=rWaits 1 r.seat.s:=by rw[mwaits_eq hR.2.2.2.2.2,hR.2.2.2.2.1]
   by_cases hw:rWaits 1 r.seat.s=0
   · rw[if_pos (by rw[he];exact hw)];exact rlagain_idle R S i j a r w h hG ha hj hw
   · rw[if_neg (by rw[he];exact hw),he];exact rlagain_wait R S i j _ a r w h hG ha hj rfl hw
def DirEnds (ea:Int→Addr) (r:SRes) (n:Int) (w:World) (e:Ending) (w':World):Prop:=∃a c b d,e=.returned (.tuple #[.agg #[.slice a r.fs.length c,.slice b r.ms.length d,r.wk],errOf ea n])∧ReadR w.heap.size w' (.slice a r.fs.length c) (.slice b r.ms.length d) r∧Below w.heap.size w w'
def lDirects (k:Int):Bool:=decide (k=2∨k=9∨k=10∨k=11)
def lDirect (S:Sto) (n q rg k:Int):SRes×Int:=match lGet S n q with
 | none=>(res0,8)
 | some (_,a)=>match lReg a rg with
  | none=>(res0,1)
  | some r=>
   if lDirects k=false then(res0,4)
   else if a.oc=1∧k≠2 then(res0,9)
   else if(mDo r.seat k).2≠0 then(res0,(mDo r.seat k).2)
   else(⟨[fSeat a.an a.aq rg (mDo r.seat k).1.seat.s (mDo r.seat k).1.seat.h],[lMsg S a r rg (mDo r.seat k).1.send],0⟩,0)
theorem ldirect_none (L:SLoc) (S:Sto) (na qa rg k:Int) (ea:Int→Addr) (w:World) (hE:EnvS ea w) (h:StoreAt L S w) (hG:StoGood S) (hg:lGet S na qa=none):Calls Tryz.prog 68 #[.pointer (some ⟨L.sb,0,none⟩),.agg #[na,qa],.int .i64 rg,.int .i64 k] w (DirEnds ea res0 8 w):=by
 have H:=qq h;have HE:=qq hE;have HF:=qq (fun W hW=>lfind_none L S na qa rg W hW hG hg);clear hE h hG;go_enter Tryz.func68,Tryz.ntmps68;go_wp2_with fail;refine(HF.out _ (H.out.below (bel_alloc (bel_alloc (Below.refl w.heap.size w) _) _))).mono ?_;rintro e w1 ⟨rfl,hb1⟩;have K1:=qq (((Blk.fresh _ _ _ (w.heap.size) (by simp)).alloc _).below hb1)
 have K2:=qq ((Blk.fresh _ _ _ (w.heap.size+1) (by simp)).below hb1);have HB:=qq (below_then (bel_alloc (bel_alloc (Below.refl w.heap.size w) _) _) hb1);have z1:=HB.out.size;clear hb1;have o3K1:=K1.out.lt;have o3K2:=K2.out.lt;obtain⟨lK1,qK1,fK1⟩:=K1.out;obtain⟨lK2,qK2,fK2⟩:=K2.out;go_wp2_with fail;clear qK1 fK1 lK1 qK2 fK2 lK2
 refine reg_start2 (fun w'=>Below w.heap.size w w') (fun w'=>Blk w' _ _) (by kernel_rfl) ((bel_drew (bel_alloc HB.out _))) ((K2.out.alloc _).drew) ?_;rintro w2 hHeld K2';have K2:=qq K2';clear K2';obtain HB':=id hHeld;have HB:=qq HB';clear HB';have z2:=HB.out.size;refine takeM (d:=some 26) 0 rfl rfl hHeld (fun w' _=>by go_simp;(try rfl)) ?_;simp only[puts]
 refine takeM (d:=some 27) 1 rfl rfl hHeld (fun w' hS'=>by have qA:w'.cell? ⟨7,0,none⟩=some (errV (ea 8)):=HE.out.e.e8.below hS';clear hS';go_simp;(try rfl)) ?_;simp only[puts];refine one_M 2 (by kernel_rfl) ?_;obtain⟨lK2,qK2,fK2⟩:=K2.out
 refine set_M 2 (((w2.setCell ⟨w.heap.size+1,0,none⟩ (.slice none 0 0)).setCell ⟨w.heap.size+1,1,none⟩ (.slice none 0 0)).setCell ⟨w.heap.size+1,2,none⟩ (.int .i64 0)) rfl rfl (by go_simp) (bel_set (bel_set (bel_set HB.out (p:=⟨w.heap.size+1,0,none⟩) (by(try dsimp only);omega) _) (p:=⟨w.heap.size+1,1,none⟩) (by(try dsimp only);omega) _) (p:=⟨w.heap.size+1,2,none⟩) (by(try dsimp only);omega) _) (fun hHeld2=> ?_)
 clear hHeld;have hHeld:=hHeld2;clear hHeld2;clear qK2 fK2 lK2
 (try simp only[puts])
 refine takeM (d:=some 9) 3 rfl rfl hHeld (fun w' _=>by go_simp;(try rfl)) ?_;simp only[puts];refine doneM (by kernel_rfl) ?_ _;clear hHeld;obtain⟨lK2,qK2,fK2⟩:=K2.out;go_wp2_with fail;have hV0:=(((K2.out.set' 0 (by simp) (.slice none 0 0)).set' 1 (by simp) (.slice none 0 0)).set' 2 (by simp) (.int .i64 0))
 have hVq0:=hV0.cell;have hVf0:=hV0.free;refine bodyPost_ret (v:=.tuple #[.agg #[.slice none 0 0,.slice none 0 0,.int .i64 0],errV (ea 8)]) (by simp[results,Tryz.results68,go_sem,hVq0,hVf0]) rfl ?_;clear qK2 fK2 lK2
 exact⟨none,0,none,0,rfl,⟨read_nil,read_mnil,no_block,no_block⟩,(bel_set (bel_set (bel_set HB.out (p:=⟨w.heap.size+1,0,none⟩) (by(try dsimp only);omega) _) (p:=⟨w.heap.size+1,1,none⟩) (by(try dsimp only);omega) _) (p:=⟨w.heap.size+1,2,none⟩) (by(try dsimp only);omega) _)⟩
theorem ldirect_range (L:SLoc) (S:Sto) (na qa rg k:Int) (ea:Int→Addr) (w:World) (hE:EnvS ea w) (h:StoreAt L S w) (hG:StoGood S) (i:Nat) (a:SAct) (hg:lGet S na qa=some (i,a)) (hr:lReg a rg=none):Calls Tryz.prog 68 #[.pointer (some ⟨L.sb,0,none⟩),.agg #[na,qa],.int .i64 rg,.int .i64 k] w (DirEnds ea res0 1 w):=by
 have H:=qq h;have HE:=qq hE;have HF:=qq (fun W hW=>lfind_noreg L S na qa rg i a W hW hG hg hr);clear hE h hG hg hr;go_enter Tryz.func68,Tryz.ntmps68;go_wp2_with fail;refine(HF.out _ (H.out.below (bel_alloc (bel_alloc (Below.refl w.heap.size w) _) _))).mono ?_;rintro e w1 ⟨rfl,hb1⟩;have K1:=qq (((Blk.fresh _ _ _ (w.heap.size) (by simp)).alloc _).below hb1)
 have K2:=qq ((Blk.fresh _ _ _ (w.heap.size+1) (by simp)).below hb1);have HB:=qq (below_then (bel_alloc (bel_alloc (Below.refl w.heap.size w) _) _) hb1);have z1:=HB.out.size;clear hb1;have o3K1:=K1.out.lt;have o3K2:=K2.out.lt;obtain⟨lK1,qK1,fK1⟩:=K1.out;obtain⟨lK2,qK2,fK2⟩:=K2.out;go_wp2_with fail;clear qK1 fK1 lK1 qK2 fK2 lK2
 refine reg_start2 (fun w'=>Below w.heap.size w w') (fun w'=>Blk w' _ _) (by kernel_rfl) ((bel_drew (bel_alloc HB.out _))) ((K2.out.alloc _).drew) ?_;rintro w2 hHeld K2';have K2:=qq K2';clear K2';obtain HB':=id hHeld;have HB:=qq HB';clear HB';have z2:=HB.out.size;refine takeM (d:=some 31) 0 rfl rfl hHeld (fun w' _=>by go_simp;(try rfl)) ?_;simp only[puts]
 refine takeM (d:=some 32) 1 rfl rfl hHeld (fun w' hS'=>by have qA:w'.cell? ⟨0,0,none⟩=some (errV (ea 1)):=HE.out.e.e1.below hS';clear hS';go_simp;(try rfl)) ?_;simp only[puts];refine one_M 2 (by kernel_rfl) ?_;obtain⟨lK2,qK2,fK2⟩:=K2.out
 refine set_M 2 (((w2.setCell ⟨w.heap.size+1,0,none⟩ (.slice none 0 0)).setCell ⟨w.heap.size+1,1,none⟩ (.slice none 0 0)).setCell ⟨w.heap.size+1,2,none⟩ (.int .i64 0)) rfl rfl (by go_simp) (bel_set (bel_set (bel_set HB.out (p:=⟨w.heap.size+1,0,none⟩) (by(try dsimp only);omega) _) (p:=⟨w.heap.size+1,1,none⟩) (by(try dsimp only);omega) _) (p:=⟨w.heap.size+1,2,none⟩) (by(try dsimp only);omega) _) (fun hHeld2=> ?_)
 clear hHeld;have hHeld:=hHeld2;clear hHeld2;clear qK2 fK2 lK2
 (try simp only[puts])
 refine takeM (d:=some 9) 3 rfl rfl hHeld (fun w' _=>by go_simp;(try rfl)) ?_;simp only[puts];refine doneM (by kernel_rfl) ?_ _;clear hHeld;obtain⟨lK2,qK2,fK2⟩:=K2.out;go_wp2_with fail;have hV0:=(((K2.out.set' 0 (by simp) (.slice none 0 0)).set' 1 (by simp) (.slice none 0 0)).set' 2 (by simp) (.int .i64 0))
 have hVq0:=hV0.cell;have hVf0:=hV0.free;refine bodyPost_ret (v:=.tuple #[.agg #[.slice none 0 0,.slice none 0 0,.int .i64 0],errV (ea 1)]) (by simp[results,Tryz.results68,go_sem,hVq0,hVf0]) rfl ?_;clear qK2 fK2 lK2
 exact⟨none,0,none,0,rfl,⟨read_nil,read_mnil,no_block,no_block⟩,(bel_set (bel_set (bel_set HB.out (p:=⟨w.heap.size+1,0,none⟩) (by(try dsimp only);omega) _) (p:=⟨w.heap.size+1,1,none⟩) (by(try dsimp only);omega) _) (p:=⟨w.heap.size+1,2,none⟩) (by(try dsimp only);omega) _)⟩
theorem ldirect_form (L:SLoc) (S:Sto) (na qa rg k:Int) (ea:Int→Addr) (w:World) (hE:EnvS ea w) (h:StoreAt L S w) (hG:StoGood S) (i:Nat) (a:SAct) (hg:lGet S na qa=some (i,a)) (r:SReg) (hr:lReg a rg=some r) (hk:lDirects k=false):Calls Tryz.prog 68 #[.pointer (some ⟨L.sb,0,none⟩),.agg #[na,qa],.int .i64 rg,.int .i64 k] w (DirEnds ea res0 4 w):=by
 have H:=qq h;have HE:=qq hE;have HF:=qq (fun W hW=>lfind_yes L S na qa rg i a r W hW hG hg hr);have HK:=qq (fun W=>(show Calls Tryz.prog 171 #[.int .i64 k] W (Gives (.bool false) W) by have:=ldirects_of k W;unfold lDirects at hk;rw[hk] at this;exact this));obtain⟨an,aq,oc,dp,ex,pa,de,rs⟩:=a;obtain⟨rn,rp,⟨sp,sd,ss,sh⟩⟩:=r;unfold SeatOut at HF;dsimp only at*;clear hE h hG hg hr hk
 go_enter Tryz.func68,Tryz.ntmps68;go_wp2_with fail;refine(HF.out _ (H.out.below (bel_alloc (bel_alloc (Below.refl w.heap.size w) _) _))).mono ?_;rintro e w1 ⟨va,vn,vc,rfl,hb1⟩;have K1:=qq (((Blk.fresh _ _ _ (w.heap.size) (by simp)).alloc _).below hb1);have K2:=qq ((Blk.fresh _ _ _ (w.heap.size+1) (by simp)).below hb1)
 have HB:=qq (below_then (bel_alloc (bel_alloc (Below.refl w.heap.size w) _) _) hb1);have z1:=HB.out.size;clear hb1;have o3K1:=K1.out.lt;have o3K2:=K2.out.lt;obtain⟨lK1,qK1,fK1⟩:=K1.out;obtain⟨lK2,qK2,fK2⟩:=K2.out;go_wp2_with fail;clear qK1 fK1 lK1 qK2 fK2 lK2;refine(HK.out _).mono ?_;rintro e w2 ⟨rfl,rfl⟩;obtain⟨lK1,qK1,fK1⟩:=K1.out;obtain⟨lK2,qK2,fK2⟩:=K2.out;go_wp2_with fail
 clear qK1 fK1 lK1 qK2 fK2 lK2;refine reg_start2 (fun w'=>Below w.heap.size w w') (fun w'=>Blk w' _ _) (by kernel_rfl) ((bel_drew (bel_alloc HB.out _))) ((K2.out.alloc _).drew) ?_;rintro w3 hHeld K2';have K2:=qq K2';clear K2';obtain HB':=id hHeld;have HB:=qq HB';clear HB';have z3:=HB.out.size;refine takeM (d:=some 37) 0 rfl rfl hHeld (fun w' _=>by go_simp;(try rfl)) ?_;simp only[puts]
 refine takeM (d:=some 38) 1 rfl rfl hHeld (fun w' hS'=>by have qA:w'.cell? ⟨3,0,none⟩=some (errV (ea 4)):=HE.out.e.e4.below hS';clear hS';go_simp;(try rfl)) ?_;simp only[puts];refine one_M 2 (by kernel_rfl) ?_;obtain⟨lK2,qK2,fK2⟩:=K2.out
 refine set_M 2 (((w3.setCell ⟨w.heap.size+1,0,none⟩ (.slice none 0 0)).setCell ⟨w.heap.size+1,1,none⟩ (.slice none 0 0)).setCell ⟨w.heap.size+1,2,none⟩ (.int .i64 0)) rfl rfl (by go_simp) (bel_set (bel_set (bel_set HB.out (p:=⟨w.heap.size+1,0,none⟩) (by(try dsimp only);omega) _) (p:=⟨w.heap.size+1,1,none⟩) (by(try dsimp only);omega) _) (p:=⟨w.heap.size+1,2,none⟩) (by(try dsimp only);omega) _) (fun hHeld2=> ?_)
 clear hHeld;have hHeld:=hHeld2;clear hHeld2;clear qK2 fK2 lK2
 (try simp only[puts])
 refine takeM (d:=some 9) 3 rfl rfl hHeld (fun w' _=>by go_simp;(try rfl)) ?_;simp only[puts];refine doneM (by kernel_rfl) ?_ _;clear hHeld;obtain⟨lK2,qK2,fK2⟩:=K2.out;go_wp2_with fail;have hV0:=(((K2.out.set' 0 (by simp) (.slice none 0 0)).set' 1 (by simp) (.slice none 0 0)).set' 2 (by simp) (.int .i64 0))
 have hVq0:=hV0.cell;have hVf0:=hV0.free;refine bodyPost_ret (v:=.tuple #[.agg #[.slice none 0 0,.slice none 0 0,.int .i64 0],errV (ea 4)]) (by simp[results,Tryz.results68,go_sem,hVq0,hVf0]) rfl ?_;clear qK2 fK2 lK2
 exact⟨none,0,none,0,rfl,⟨read_nil,read_mnil,no_block,no_block⟩,(bel_set (bel_set (bel_set HB.out (p:=⟨w.heap.size+1,0,none⟩) (by(try dsimp only);omega) _) (p:=⟨w.heap.size+1,1,none⟩) (by(try dsimp only);omega) _) (p:=⟨w.heap.size+1,2,none⟩) (by(try dsimp only);omega) _)⟩
theorem ldirect_state (L:SLoc) (S:Sto) (na qa rg k:Int) (ea:Int→Addr) (w:World) (hE:EnvS ea w) (h:StoreAt L S w) (hG:StoGood S) (i:Nat) (a:SAct) (hg:lGet S na qa=some (i,a)) (r:SReg) (hr:lReg a rg=some r) (hk:lDirects k=true) (ho:a.oc=1∧k≠2):Calls Tryz.prog 68 #[.pointer (some ⟨L.sb,0,none⟩),.agg #[na,qa],.int .i64 rg,.int .i64 k] w (DirEnds ea res0 9 w):=by
 have H:=qq h;have HE:=qq hE;have HF:=qq (fun W hW=>lfind_yes L S na qa rg i a r W hW hG hg hr);have HK:=qq (fun W=>(show Calls Tryz.prog 171 #[.int .i64 k] W (Gives (.bool true) W) by have:=ldirects_of k W;unfold lDirects at hk;rw[hk] at this;exact this));have h44:(a.oc==1)=true:=by simpa using ho.1
 have h47:(k !=2)=true:=by simpa using ho.2
 obtain⟨an,aq,oc,dp,ex,pa,de,rs⟩:=a;obtain⟨rn,rp,⟨sp,sd,ss,sh⟩⟩:=r;unfold SeatOut at HF;dsimp only at*;clear hE h hG hg hr hk ho;go_enter Tryz.func68,Tryz.ntmps68;go_wp2_with fail;refine(HF.out _ (H.out.below (bel_alloc (bel_alloc (Below.refl w.heap.size w) _) _))).mono ?_;rintro e w1 ⟨va,vn,vc,rfl,hb1⟩;have K1:=qq (((Blk.fresh _ _ _ (w.heap.size) (by simp)).alloc _).below hb1)
 have K2:=qq ((Blk.fresh _ _ _ (w.heap.size+1) (by simp)).below hb1);have HB:=qq (below_then (bel_alloc (bel_alloc (Below.refl w.heap.size w) _) _) hb1);have z1:=HB.out.size;clear hb1;have o3K1:=K1.out.lt;have o3K2:=K2.out.lt;obtain⟨lK1,qK1,fK1⟩:=K1.out;obtain⟨lK2,qK2,fK2⟩:=K2.out;go_wp2_with fail;clear qK1 fK1 lK1 qK2 fK2 lK2;refine(HK.out _).mono ?_;rintro e w2 ⟨rfl,rfl⟩
 obtain⟨lK1,qK1,fK1⟩:=K1.out;obtain⟨lK2,qK2,fK2⟩:=K2.out;go_wp2_with fail;clear qK1 fK1 lK1 qK2 fK2 lK2;refine reg_start2 (fun w'=>Below w.heap.size w w') (fun w'=>Blk w' _ _) (by kernel_rfl) ((bel_drew (bel_alloc HB.out _))) ((K2.out.alloc _).drew) ?_;rintro w3 hHeld K2';have K2:=qq K2';clear K2';obtain HB':=id hHeld;have HB:=qq HB';clear HB';have z3:=HB.out.size
 refine takeM (d:=some 49) 0 rfl rfl hHeld (fun w' _=>by go_simp;(try rfl)) ?_;simp only[puts];refine takeM (d:=some 50) 1 rfl rfl hHeld (fun w' hS'=>by have qA:w'.cell? ⟨8,0,none⟩=some (errV (ea 9)):=HE.out.e.e9.below hS';clear hS';go_simp;(try rfl)) ?_;simp only[puts];refine one_M 2 (by kernel_rfl) ?_;obtain⟨lK2,qK2,fK2⟩:=K2.out
 refine set_M 2 (((w3.setCell ⟨w.heap.size+1,0,none⟩ (.slice none 0 0)).setCell ⟨w.heap.size+1,1,none⟩ (.slice none 0 0)).setCell ⟨w.heap.size+1,2,none⟩ (.int .i64 0)) rfl rfl (by go_simp) (bel_set (bel_set (bel_set HB.out (p:=⟨w.heap.size+1,0,none⟩) (by(try dsimp only);omega) _) (p:=⟨w.heap.size+1,1,none⟩) (by(try dsimp only);omega) _) (p:=⟨w.heap.size+1,2,none⟩) (by(try dsimp only);omega) _) (fun hHeld2=> ?_)
 clear hHeld;have hHeld:=hHeld2;clear hHeld2;clear qK2 fK2 lK2
 (try simp only[puts])
 refine takeM (d:=some 9) 3 rfl rfl hHeld (fun w' _=>by go_simp;(try rfl)) ?_;simp only[puts];refine doneM (by kernel_rfl) ?_ _;clear hHeld;obtain⟨lK2,qK2,fK2⟩:=K2.out;go_wp2_with fail;have hV0:=(((K2.out.set' 0 (by simp) (.slice none 0 0)).set' 1 (by simp) (.slice none 0 0)).set' 2 (by simp) (.int .i64 0))
 have hVq0:=hV0.cell;have hVf0:=hV0.free;refine bodyPost_ret (v:=.tuple #[.agg #[.slice none 0 0,.slice none 0 0,.int .i64 0],errV (ea 9)]) (by simp[results,Tryz.results68,go_sem,hVq0,hVf0]) rfl ?_;clear qK2 fK2 lK2
 exact⟨none,0,none,0,rfl,⟨read_nil,read_mnil,no_block,no_block⟩,(bel_set (bel_set (bel_set HB.out (p:=⟨w.heap.size+1,0,none⟩) (by(try dsimp only);omega) _) (p:=⟨w.heap.size+1,1,none⟩) (by(try dsimp only);omega) _) (p:=⟨w.heap.size+1,2,none⟩) (by(try dsimp only);omega) _)⟩
theorem ldirect_err (L:SLoc) (S:Sto) (na qa rg k:Int) (ea:Int→Addr) (w:World) (hE:EnvS ea w) (h:StoreAt L S w) (hG:StoGood S) (i:Nat) (a:SAct) (hg:lGet S na qa=some (i,a)) (r:SReg) (hr:lReg a rg=some r) (hk:lDirects k=true) (ho:¬(a.oc=1∧k≠2)) (ep ed es eh sd' ft wk:Int) (ch:Bool) (n:Int) (hn:n≠0) (hD:∀W,Below w.heap.size w W→Calls Tryz.prog 143 #[seatV r.seat,.int .i64 k] W (Makes (.tuple #[.agg #[ep,ed,es,eh,.int .i64 (sd'),ft,wk,.bool ch],errOf ea n]) W)):Calls Tryz.prog 68 #[.pointer (some ⟨L.sb,0,none⟩),.agg #[na,qa],.int .i64 rg,.int .i64 k] w (DirEnds ea res0 n w):=by
 have H:=qq h;have HE:=qq hE;have HF:=qq (fun W hW=>lfind_yes L S na qa rg i a r W hW hG hg hr);have HK:=qq (fun W=>(show Calls Tryz.prog 171 #[.int .i64 k] W (Gives (.bool true) W) by have:=ldirects_of k W;unfold lDirects at hk;rw[hk] at this;exact this));have h52:(a.oc==1)=false∨(a.oc==1)=true∧(k !=2)=false:=by
  by_cases h1:a.oc=1
  · exact .inr ⟨by simpa using h1,by simpa using fun h2=>ho ⟨h1,h2⟩⟩
  · exact .inl (by simpa using h1)
 have HD:=qq hD;dsimp only[seatV] at HD;have hev0:errOf ea n=errV (ea n):=if_neg hn;unfold DirEnds;rw[hev0] at HD⊢;dsimp only[errV] at HD;obtain⟨an,aq,oc,dp,ex,pa,de,rs⟩:=a;obtain⟨rn,rp,⟨sp,sd,ss,sh⟩⟩:=r;unfold SeatOut at HF;dsimp only at*;clear hE h hG hg hr hk ho hD hn hev0;rcases h52 with h5 | ⟨h5,h2⟩
 all_goals
  go_enter Tryz.func68,Tryz.ntmps68;go_wp2_with fail;refine(HF.out _ (H.out.below (bel_alloc (bel_alloc (Below.refl w.heap.size w) _) _))).mono ?_;rintro e w1 ⟨va,vn,vc,rfl,hb1⟩;have K1:=qq (((Blk.fresh _ _ _ (w.heap.size) (by simp)).alloc _).below hb1);have K2:=qq ((Blk.fresh _ _ _ (w.heap.size+1) (by simp)).below hb1)
  have HB:=qq (below_then (bel_alloc (bel_alloc (Below.refl w.heap.size w) _) _) hb1);have z1:=HB.out.size;clear hb1;have o3K1:=K1.out.lt;have o3K2:=K2.out.lt;obtain⟨lK1,qK1,fK1⟩:=K1.out;obtain⟨lK2,qK2,fK2⟩:=K2.out;go_wp2_with fail;clear qK1 fK1 lK1 qK2 fK2 lK2;refine(HK.out _).mono ?_;rintro e w2 ⟨rfl,rfl⟩;obtain⟨lK1,qK1,fK1⟩:=K1.out;obtain⟨lK2,qK2,fK2⟩:=K2.out;go_wp2_with fail
  clear qK1 fK1 lK1 qK2 fK2 lK2;refine(HD.out _ (bel_alloc HB.out _)).mono ?_;rintro e w3 ⟨rfl,hb3⟩;have K2:=qq ((K2.out.alloc _).below hb3);have K3:=qq ((Blk.fresh _ _ _ (w1.heap.size) (by simp)).below hb3);have HB:=qq (below_then (bel_alloc HB.out _) hb3);have z3:=HB.out.size;clear hb3;have o4K2:=K2.out.lt;have o4K3:=K3.out.lt;obtain⟨lK2,qK2,fK2⟩:=K2.out;obtain⟨lK3,qK3,fK3⟩:=K3.out
  go_wp2_with fail;have hV0:=((((K2.out.set' 0 (by simp) (.slice none 0 0)).set' 1 (by simp) (.slice none 0 0)).set' 2 (by simp) (.int .i64 0)).alloc (.cells #[ep,ed,es,eh,.int .i64 (sd'),ft,wk,.bool ch] 224))
  have hVq0:=hV0.cell;have hVf0:=hV0.free;refine bodyPost_ret (v:=.tuple #[.agg #[.slice none 0 0,.slice none 0 0,.int .i64 0],errV (ea n)]) (by simp[results,Tryz.results68,go_sem,hVq0,hVf0]) rfl ?_;clear qK2 fK2 lK2 qK3 fK3 lK3
  exact⟨none,0,none,0,rfl,⟨read_nil,read_mnil,no_block,no_block⟩,(bel_alloc (bel_set (bel_set (bel_set HB.out (p:=⟨w.heap.size+1,0,none⟩) (by(try dsimp only);omega) _) (p:=⟨w.heap.size+1,1,none⟩) (by(try dsimp only);omega) _) (p:=⟨w.heap.size+1,2,none⟩) (by(try dsimp only);omega) _) _)⟩
theorem ldirect_ok (L:SLoc) (S:Sto) (na qa rg k:Int) (ea:Int→Addr) (w:World) (hE:EnvS ea w) (h:StoreAt L S w) (hG:StoGood S) (i:Nat) (a:SAct) (hg:lGet S na qa=some (i,a)) (r:SReg) (hr:lReg a rg=some r) (hk:lDirects k=true) (ho:¬(a.oc=1∧k≠2)) (ep ed es eh sd' ft wk:Int) (ch:Bool) (hD:∀W,Below w.heap.size w W→Calls Tryz.prog 143 #[seatV r.seat,.int .i64 k] W (Makes (.tuple #[.agg #[ep,ed,es,eh,.int .i64 (sd'),ft,wk,.bool ch],.nilIface]) W)):Calls Tryz.prog 68 #[.pointer (some ⟨L.sb,0,none⟩),.agg #[na,qa],.int .i64 rg,.int .i64 k] w (DirEnds ea ⟨[fSeat a.an a.aq rg es eh],[lMsg S a r rg sd'],0⟩ 0 w):=by
 have H:=qq h;have HE:=qq hE;have HF:=qq (fun W hW=>lfind_yes L S na qa rg i a r W hW hG hg hr);have HK:=qq (fun W=>(show Calls Tryz.prog 171 #[.int .i64 k] W (Gives (.bool true) W) by have:=ldirects_of k W;unfold lDirects at hk;rw[hk] at this;exact this));have H52:=qq (show(a.oc==1)=false∨(a.oc==1)=true∧(k !=2)=false by
   by_cases h1:a.oc=1
   · exact .inr ⟨by simpa using h1,by simpa using fun h2=>ho ⟨h1,h2⟩⟩
   · exact .inl (by simpa using h1))
 have HD:=qq hD;dsimp only[seatV] at HD;unfold lMsg;obtain⟨an,aq,oc,dp,ex,pa,de,rs⟩:=a;obtain⟨rn,rp,⟨sp,sd,ss,sh⟩⟩:=r;unfold SeatOut at HF;dsimp only at*;clear hE h hG hg hr hk hD ho;go_enter Tryz.func68,Tryz.ntmps68;go_wp2_with fail;refine(HF.out _ (H.out.below (bel_alloc (bel_alloc (Below.refl w.heap.size w) _) _))).mono ?_;rintro e w1 ⟨va,vn,vc,rfl,hb1⟩
 have K1:=qq (((Blk.fresh _ _ _ (w.heap.size) (by simp)).alloc _).below hb1);have K2:=qq ((Blk.fresh _ _ _ (w.heap.size+1) (by simp)).below hb1);have HB:=qq (below_then (bel_alloc (bel_alloc (Below.refl w.heap.size w) _) _) hb1);have z1:=HB.out.size;clear hb1;have o3K1:=K1.out.lt;have o3K2:=K2.out.lt;obtain⟨lK1,qK1,fK1⟩:=K1.out;obtain⟨lK2,qK2,fK2⟩:=K2.out;go_wp2_with fail
 clear qK1 fK1 lK1 qK2 fK2 lK2;refine(HK.out _).mono ?_;rintro e w2 ⟨rfl,rfl⟩;obtain⟨lK1,qK1,fK1⟩:=K1.out;obtain⟨lK2,qK2,fK2⟩:=K2.out;go_upto_region 8 with fail
 go_cut [39] from 40 to 48 (fun sq wx=>sq=.bool false∧(w1.alloc (.cells #[rn,rp,sp,sd,ss,sh,an,aq,oc,dp,.float .f64 ex,pa,de,.slice va vn vc,S.node,rg] 247))=wx)
 case first=>
  rcases H52.out with h5 | ⟨h5,h2⟩
  all_goals go_wp2_with fail
  all_goals go_meet
  all_goals exact⟨rfl,rfl⟩
 case rest=>
  obtain⟨rfl,rfl⟩:=hcut;clear qK1 fK1 lK1 qK2 fK2 lK2;obtain⟨lK1,qK1,fK1⟩:=K1.out;obtain⟨lK2,qK2,fK2⟩:=K2.out;go_wp2_with fail;clear qK1 fK1 lK1 qK2 fK2 lK2;refine(HD.out _ (bel_alloc HB.out _)).mono ?_;rintro e w3 ⟨rfl,hb3⟩;have K2:=qq ((K2.out.alloc _).below hb3);have K3:=qq ((Blk.fresh _ _ _ (w1.heap.size) (by simp)).below hb3);have HB:=qq (below_then (bel_alloc HB.out _) hb3)
  have z3:=HB.out.size;clear hb3;have o4K2:=K2.out.lt;have o4K3:=K3.out.lt;obtain⟨lK2,qK2,fK2⟩:=K2.out;obtain⟨lK3,qK3,fK3⟩:=K3.out;go_wp2_with fail;clear qK2 fK2 lK2 qK3 fK3 lK3
  refine reg_start2 (fun w'=>Blk w' _ _∧Blk w' _ _∧Below w.heap.size w w') (fun w'=>Blk w' _ _) (by kernel_rfl) ⟨(K3.out.alloc _).drew,(Blk.fresh _ _ _ (w3.heap.size) (by simp)).drew,(bel_drew (bel_alloc HB.out _))⟩ ((K2.out.alloc _).drew) ?_;rintro w4 hHeld K2';have K2:=qq K2';clear K2';obtain⟨K3',K4',HB'⟩:=id hHeld;have K3:=qq K3';have K4:=qq K4';have HB:=qq HB';clear K3' K4' HB'
  have z4:=HB.out.size;refine takeM (d:=some 63) 0 rfl rfl hHeld (fun w' hS'=>by have qA:=hS'.1.cell;clear hS';go_simp;(try rfl)) ?_;simp only[puts];refine takeM (d:=some 64) 1 rfl rfl hHeld (fun w' _=>by go_simp;(try rfl)) ?_;simp only[puts];refine takeM (d:=some 65) 2 rfl rfl hHeld (fun w' hS'=>by have qA:=hS'.2.1.cell;clear hS';go_simp;(try rfl)) ?_;simp only[puts]
  refine takeM (d:=some 68) 5 rfl rfl hHeld (fun w' hS'=>by have qA:=hS'.1.cell;clear hS';go_simp;(try rfl)) ?_;simp only[puts];refine takeM (d:=some 69) 6 rfl rfl hHeld (fun w' _=>by go_simp;(try rfl)) ?_;simp only[puts];refine takeM (d:=some 70) 7 rfl rfl hHeld (fun w' hS'=>by have qA:=hS'.2.1.cell;clear hS';go_simp;(try rfl)) ?_;simp only[puts];refine one_M 3 (by kernel_rfl) ?_
  refine wpOp_call (d:=some 66) 3 172 _ _ [.agg #[rn,rp,sp,sd,ss,sh,an,aq,oc,dp,.float .f64 ex,pa,de,.slice va vn vc,S.node,rg],.agg #[ep,ed,es,eh]] rfl rfl rfl (enters_of Tryz.func172 (by kernel_rfl) rfl) (by rfl) (by rfl) ?_;refine(lseated_of rn rp sp sd ss sh an aq oc dp ex pa de va vn vc S.node rg ep ed es eh _).mono ?_;rintro e w5 ⟨rfl,hb5⟩;clear hHeld;have K2:=qq (K2.out.below hb5)
  have K3:=qq (K3.out.below hb5);have K4:=qq (K4.out.below hb5);have HB:=qq (below_then HB.out hb5);have z5:=HB.out.size;clear hb5
  (try dsimp only[factV,factC,fSeat])
  refine ret_S ⟨K3.out,K4.out,HB.out⟩ (fun hHeld=> ?_);simp only[puts];refine two_M 4 8 (by kernel_rfl) ?_ ?_
  · skip;have o5K2:=K2.out.lt;have o5K3:=K3.out.lt;have o5K4:=K4.out.lt
    refine new_B (d:=some 67) 4 (.slice (some ⟨w5.heap.size,0,none⟩) 1 1) #[.int .i64 3,.int .i64 an,.int .i64 aq,.int .i64 rg,.int .i64 0,.int .i64 0,.int .i64 0,.int .i64 0,.int .i64 0,.int .i64 0,.int .i64 es,.int .i64 eh,.int .i64 0,.float .f64 0] 39 rfl rfl (by go_simp) (fun w'=>Blk w' _ _) ⟨(K3.out.alloc _),(K4.out.alloc _),(bel_alloc HB.out _)⟩ ((K2.out.alloc _)) ?_;clear hHeld
    rintro w6 hHeld K2';have K2:=qq K2';clear K2';obtain⟨⟨K3',K4',HB'⟩,K5'⟩:=id hHeld;have K3:=qq K3';have K4:=qq K4';have HB:=qq HB';have K5:=qq K5';clear K3' K4' HB' K5';have z6:=HB.out.size;have y6:=K5.out.lt;simp only[puts];refine one_M 8 (by kernel_rfl) ?_
    refine wpOp_call (d:=some 71) 8 168 _ _ [.agg #[rn,rp,sp,sd,ss,sh,an,aq,oc,dp,.float .f64 ex,pa,de,.slice va vn vc,S.node,rg],.int .i64 (sd')] rfl rfl rfl (enters_of Tryz.func168 (by kernel_rfl) rfl) (by rfl) (by rfl) ?_;refine(lmsg_of rn rp sp sd ss sh an aq oc dp ex pa de va vn vc S.node rg sd' _).mono ?_;rintro e w7 ⟨rfl,hb7⟩;clear hHeld;have K2:=qq (K2.out.below hb7)
    have K3:=qq (K3.out.below hb7);have K4:=qq (K4.out.below hb7);have K5:=qq (K5.out.below hb7);have HB:=qq (below_then HB.out hb7);have z7:=HB.out.size;clear hb7
    (try dsimp only[msgV,msgA])
    refine ret_S ⟨⟨K3.out,K4.out,HB.out⟩,K5.out⟩ (fun hHeld=> ?_);simp only[puts];refine one_M 9 (by kernel_rfl) ?_;have o6K2:=K2.out.lt;have o6K3:=K3.out.lt;have o6K4:=K4.out.lt;have o6K5:=K5.out.lt
    refine new_B (d:=some 72) 9 (.slice (some ⟨w7.heap.size,0,none⟩) 1 1) #[.int .i64 (sd'),.int .i64 S.node,.int .i64 rn,.int .i64 an,.int .i64 aq,.int .i64 rg,.int .i64 rp,.int .i64 0,.int .i64 0] 81 rfl rfl (by go_simp) (fun w'=>Blk w' _ _) ⟨⟨(K3.out.alloc _),(K4.out.alloc _),(bel_alloc HB.out _)⟩,(K5.out.alloc _)⟩ ((K2.out.alloc _)) ?_;clear hHeld;rintro w8 hHeld K2';have K2:=qq K2';clear K2'
    obtain⟨⟨⟨K3',K4',HB'⟩,K5'⟩,K6'⟩:=id hHeld;have K3:=qq K3';have K4:=qq K4';have HB:=qq HB';have K5:=qq K5';have K6:=qq K6';clear K3' K4' HB' K5' K6';have z8:=HB.out.size;have y8:=K6.out.lt;simp only[puts];refine takeM (d:=some 73) 10 rfl rfl hHeld (fun w' _=>by go_simp;(try rfl)) ?_;simp only[puts];refine one_M 11 (by kernel_rfl) ?_;obtain⟨lK2,qK2,fK2⟩:=K2.out;obtain⟨lK3,qK3,fK3⟩:=K3.out
    obtain⟨lK4,qK4,fK4⟩:=K4.out;obtain⟨lK5,qK5,fK5⟩:=K5.out;obtain⟨lK6,qK6,fK6⟩:=K6.out
    refine set_M 11 (((w8.setCell ⟨w.heap.size+1,0,none⟩ (.slice (some ⟨w5.heap.size,0,none⟩) 1 1)).setCell ⟨w.heap.size+1,1,none⟩ (.slice (some ⟨w7.heap.size,0,none⟩) 1 1)).setCell ⟨w.heap.size+1,2,none⟩ (.int .i64 0)) rfl rfl (by go_simp) ⟨⟨⟨(((K3.out.other (p:=⟨w.heap.size+1,0,none⟩) (by(try dsimp only);omega) _).other (p:=⟨w.heap.size+1,1,none⟩) (by(try dsimp only);omega) _).other (p:=⟨w.heap.size+1,2,none⟩) (by(try dsimp only);omega) _),(((K4.out.other (p:=⟨w.heap.size+1,0,none⟩) (by(try dsimp only);omega) _).other (p:=⟨w.heap.size+1,1,none⟩) (by(try dsimp only);omega) _).other (p:=⟨w.heap.size+1,2,none⟩) (by(try dsimp only);omega) _),(bel_set (bel_set (bel_set HB.out (p:=⟨w.heap.size+1,0,none⟩) (by(try dsimp only);omega) _) (p:=⟨w.heap.size+1,1,none⟩) (by(try dsimp only);omega) _) (p:=⟨w.heap.size+1,2,none⟩) (by(try dsimp only);omega) _)⟩,(((K5.out.other (p:=⟨w.heap.size+1,0,none⟩) (by(try dsimp only);omega) _).other (p:=⟨w.heap.size+1,1,none⟩) (by(try dsimp only);omega) _).other (p:=⟨w.heap.size+1,2,none⟩) (by(try dsimp only);omega) _)⟩,(((K6.out.other (p:=⟨w.heap.size+1,0,none⟩) (by(try dsimp only);omega) _).other (p:=⟨w.heap.size+1,1,none⟩) (by(try dsimp only);omega) _).other (p:=⟨w.heap.size+1,2,none⟩) (by(try dsimp only);omega) _)⟩ (fun hHeld2=> ?_)
    clear hHeld;have hHeld:=hHeld2;clear hHeld2;clear qK2 fK2 lK2 qK3 fK3 lK3 qK4 fK4 lK4 qK5 fK5 lK5 qK6 fK6 lK6
    (try simp only[puts])
    refine takeM (d:=some 9) 12 rfl rfl hHeld (fun w' _=>by go_simp;(try rfl)) ?_;simp only[puts];refine doneM (by kernel_rfl) ?_ _;clear hHeld;obtain⟨lK2,qK2,fK2⟩:=K2.out;obtain⟨lK3,qK3,fK3⟩:=K3.out;obtain⟨lK4,qK4,fK4⟩:=K4.out;obtain⟨lK5,qK5,fK5⟩:=K5.out;obtain⟨lK6,qK6,fK6⟩:=K6.out;go_wp2_with fail
    have hV0:=(((K2.out.set' 0 (by simp) (.slice (some ⟨w5.heap.size,0,none⟩) 1 1)).set' 1 (by simp) (.slice (some ⟨w7.heap.size,0,none⟩) 1 1)).set' 2 (by simp) (.int .i64 0))
    have hVq0:=hV0.cell;have hVf0:=hV0.free;refine bodyPost_ret (v:=.tuple #[.agg #[.slice (some ⟨w5.heap.size,0,none⟩) 1 1,.slice (some ⟨w7.heap.size,0,none⟩) 1 1,.int .i64 0],.nilIface]) (by simp[results,Tryz.results68,go_sem,hVq0,hVf0]) rfl ?_;clear qK2 fK2 lK2 qK3 fK3 lK3 qK4 fK4 lK4 qK5 fK5 lK5 qK6 fK6 lK6
    exact⟨some ⟨w5.heap.size,0,none⟩,1,some ⟨w7.heap.size,0,none⟩,1,rfl,⟨read_fone (f:=fSeat an aq rg es eh) (((K5.out.other (p:=⟨w.heap.size+1,0,none⟩) (by(try dsimp only);omega) (.slice (some ⟨w5.heap.size,0,none⟩) 1 1)).other (p:=⟨w.heap.size+1,1,none⟩) (by(try dsimp only);omega) (.slice (some ⟨w7.heap.size,0,none⟩) 1 1)).other (p:=⟨w.heap.size+1,2,none⟩) (by(try dsimp only);omega) (.int .i64 0)),read_mone (m:=⟨sd',S.node,rn,an,aq,rg,rp,0,0⟩) (((K6.out.other (p:=⟨w.heap.size+1,0,none⟩) (by(try dsimp only);omega) (.slice (some ⟨w5.heap.size,0,none⟩) 1 1)).other (p:=⟨w.heap.size+1,1,none⟩) (by(try dsimp only);omega) (.slice (some ⟨w7.heap.size,0,none⟩) 1 1)).other (p:=⟨w.heap.size+1,2,none⟩) (by(try dsimp only);omega) (.int .i64 0)),one_block (by first | omega | (simp;done) | (simp;omega)),one_block (by first | omega | (simp;done) | (simp;omega))⟩,(bel_set (bel_set (bel_set HB.out (p:=⟨w.heap.size+1,0,none⟩) (by(try dsimp only);omega) _) (p:=⟨w.heap.size+1,1,none⟩) (by(try dsimp only);omega) _) (p:=⟨w.heap.size+1,2,none⟩) (by(try dsimp only);omega) _)⟩
  · skip;refine wpOp_call (d:=some 71) 8 168 _ _ [.agg #[rn,rp,sp,sd,ss,sh,an,aq,oc,dp,.float .f64 ex,pa,de,.slice va vn vc,S.node,rg],.int .i64 (sd')] rfl rfl rfl (enters_of Tryz.func168 (by kernel_rfl) rfl) (by rfl) (by rfl) ?_;refine(lmsg_of rn rp sp sd ss sh an aq oc dp ex pa de va vn vc S.node rg sd' _).mono ?_;rintro e w6 ⟨rfl,hb6⟩;clear hHeld;have K2:=qq (K2.out.below hb6)
    have K3:=qq (K3.out.below hb6);have K4:=qq (K4.out.below hb6);have HB:=qq (below_then HB.out hb6);have z6:=HB.out.size;clear hb6
    (try dsimp only[msgV,msgA])
    refine ret_S ⟨K3.out,K4.out,HB.out⟩ (fun hHeld=> ?_);simp only[puts];refine two_M 4 9 (by kernel_rfl) ?_ ?_
    · skip;have o5K2:=K2.out.lt;have o5K3:=K3.out.lt;have o5K4:=K4.out.lt
      refine new_B (d:=some 67) 4 (.slice (some ⟨w6.heap.size,0,none⟩) 1 1) #[.int .i64 3,.int .i64 an,.int .i64 aq,.int .i64 rg,.int .i64 0,.int .i64 0,.int .i64 0,.int .i64 0,.int .i64 0,.int .i64 0,.int .i64 es,.int .i64 eh,.int .i64 0,.float .f64 0] 39 rfl rfl (by go_simp) (fun w'=>Blk w' _ _) ⟨(K3.out.alloc _),(K4.out.alloc _),(bel_alloc HB.out _)⟩ ((K2.out.alloc _)) ?_;clear hHeld
      rintro w7 hHeld K2';have K2:=qq K2';clear K2';obtain⟨⟨K3',K4',HB'⟩,K5'⟩:=id hHeld;have K3:=qq K3';have K4:=qq K4';have HB:=qq HB';have K5:=qq K5';clear K3' K4' HB' K5';have z7:=HB.out.size;have y7:=K5.out.lt;simp only[puts];refine one_M 9 (by kernel_rfl) ?_;have o6K2:=K2.out.lt;have o6K3:=K3.out.lt;have o6K4:=K4.out.lt;have o6K5:=K5.out.lt
      refine new_B (d:=some 72) 9 (.slice (some ⟨w7.heap.size,0,none⟩) 1 1) #[.int .i64 (sd'),.int .i64 S.node,.int .i64 rn,.int .i64 an,.int .i64 aq,.int .i64 rg,.int .i64 rp,.int .i64 0,.int .i64 0] 81 rfl rfl (by go_simp) (fun w'=>Blk w' _ _) ⟨⟨(K3.out.alloc _),(K4.out.alloc _),(bel_alloc HB.out _)⟩,(K5.out.alloc _)⟩ ((K2.out.alloc _)) ?_;clear hHeld;rintro w8 hHeld K2'
      have K2:=qq K2';clear K2';obtain⟨⟨⟨K3',K4',HB'⟩,K5'⟩,K6'⟩:=id hHeld;have K3:=qq K3';have K4:=qq K4';have HB:=qq HB';have K5:=qq K5';have K6:=qq K6';clear K3' K4' HB' K5' K6';have z8:=HB.out.size;have y8:=K6.out.lt;simp only[puts];refine takeM (d:=some 73) 10 rfl rfl hHeld (fun w' _=>by go_simp;(try rfl)) ?_;simp only[puts];refine one_M 11 (by kernel_rfl) ?_;obtain⟨lK2,qK2,fK2⟩:=K2.out
      obtain⟨lK3,qK3,fK3⟩:=K3.out;obtain⟨lK4,qK4,fK4⟩:=K4.out;obtain⟨lK5,qK5,fK5⟩:=K5.out;obtain⟨lK6,qK6,fK6⟩:=K6.out
      refine set_M 11 (((w8.setCell ⟨w.heap.size+1,0,none⟩ (.slice (some ⟨w6.heap.size,0,none⟩) 1 1)).setCell ⟨w.heap.size+1,1,none⟩ (.slice (some ⟨w7.heap.size,0,none⟩) 1 1)).setCell ⟨w.heap.size+1,2,none⟩ (.int .i64 0)) rfl rfl (by go_simp) ⟨⟨⟨(((K3.out.other (p:=⟨w.heap.size+1,0,none⟩) (by(try dsimp only);omega) _).other (p:=⟨w.heap.size+1,1,none⟩) (by(try dsimp only);omega) _).other (p:=⟨w.heap.size+1,2,none⟩) (by(try dsimp only);omega) _),(((K4.out.other (p:=⟨w.heap.size+1,0,none⟩) (by(try dsimp only);omega) _).other (p:=⟨w.heap.size+1,1,none⟩) (by(try dsimp only);omega) _).other (p:=⟨w.heap.size+1,2,none⟩) (by(try dsimp only);omega) _),(bel_set (bel_set (bel_set HB.out (p:=⟨w.heap.size+1,0,none⟩) (by(try dsimp only);omega) _) (p:=⟨w.heap.size+1,1,none⟩) (by(try dsimp only);omega) _) (p:=⟨w.heap.size+1,2,none⟩) (by(try dsimp only);omega) _)⟩,(((K5.out.other (p:=⟨w.heap.size+1,0,none⟩) (by(try dsimp only);omega) _).other (p:=⟨w.heap.size+1,1,none⟩) (by(try dsimp only);omega) _).other (p:=⟨w.heap.size+1,2,none⟩) (by(try dsimp only);omega) _)⟩,(((K6.out.other (p:=⟨w.heap.size+1,0,none⟩) (by(try dsimp only);omega) _).other (p:=⟨w.heap.size+1,1,none⟩) (by(try dsimp only);omega) _).other (p:=⟨w.heap.size+1,2,none⟩) (by(try dsimp only);omega) _)⟩ (fun hHeld2=> ?_)
      clear hHeld;have hHeld:=hHeld2;clear hHeld2;clear qK2 fK2 lK2 qK3 fK3 lK3 qK4 fK4 lK4 qK5 fK5 lK5 qK6 fK6 lK6
      (try simp only[puts])
      refine takeM (d:=some 9) 12 rfl rfl hHeld (fun w' _=>by go_simp;(try rfl)) ?_;simp only[puts];refine doneM (by kernel_rfl) ?_ _;clear hHeld;obtain⟨lK2,qK2,fK2⟩:=K2.out;obtain⟨lK3,qK3,fK3⟩:=K3.out;obtain⟨lK4,qK4,fK4⟩:=K4.out;obtain⟨lK5,qK5,fK5⟩:=K5.out;obtain⟨lK6,qK6,fK6⟩:=K6.out;go_wp2_with fail
      have hV0:=(((K2.out.set' 0 (by simp) (.slice (some ⟨w6.heap.size,0,none⟩) 1 1)).set' 1 (by simp) (.slice (some ⟨w7.heap.size,0,none⟩) 1 1)).set' 2 (by simp) (.int .i64 0))
      have hVq0:=hV0.cell;have hVf0:=hV0.free;refine bodyPost_ret (v:=.tuple #[.agg #[.slice (some ⟨w6.heap.size,0,none⟩) 1 1,.slice (some ⟨w7.heap.size,0,none⟩) 1 1,.int .i64 0],.nilIface]) (by simp[results,Tryz.results68,go_sem,hVq0,hVf0]) rfl ?_;clear qK2 fK2 lK2 qK3 fK3 lK3 qK4 fK4 lK4 qK5 fK5 lK5 qK6 fK6 lK6
      exact⟨some ⟨w6.heap.size,0,none⟩,1,some ⟨w7.heap.size,0,none⟩,1,rfl,⟨read_fone (f:=fSeat an aq rg es eh) (((K5.out.other (p:=⟨w.heap.size+1,0,none⟩) (by(try dsimp only);omega) (.slice (some ⟨w6.heap.size,0,none⟩) 1 1)).other (p:=⟨w.heap.size+1,1,none⟩) (by(try dsimp only);omega) (.slice (some ⟨w7.heap.size,0,none⟩) 1 1)).other (p:=⟨w.heap.size+1,2,none⟩) (by(try dsimp only);omega) (.int .i64 0)),read_mone (m:=⟨sd',S.node,rn,an,aq,rg,rp,0,0⟩) (((K6.out.other (p:=⟨w.heap.size+1,0,none⟩) (by(try dsimp only);omega) (.slice (some ⟨w6.heap.size,0,none⟩) 1 1)).other (p:=⟨w.heap.size+1,1,none⟩) (by(try dsimp only);omega) (.slice (some ⟨w7.heap.size,0,none⟩) 1 1)).other (p:=⟨w.heap.size+1,2,none⟩) (by(try dsimp only);omega) (.int .i64 0)),one_block (by first | omega | (simp;done) | (simp;omega)),one_block (by first | omega | (simp;done) | (simp;omega))⟩,(bel_set (bel_set (bel_set HB.out (p:=⟨w.heap.size+1,0,none⟩) (by(try dsimp only);omega) _) (p:=⟨w.heap.size+1,1,none⟩) (by(try dsimp only);omega) _) (p:=⟨w.heap.size+1,2,none⟩) (by(try dsimp only);omega) _)⟩
    · skip;have o5K2:=K2.out.lt;have o5K3:=K3.out.lt;have o5K4:=K4.out.lt;refine new_B (d:=some 72) 9 (.slice (some ⟨w6.heap.size,0,none⟩) 1 1) #[.int .i64 (sd'),.int .i64 S.node,.int .i64 rn,.int .i64 an,.int .i64 aq,.int .i64 rg,.int .i64 rp,.int .i64 0,.int .i64 0] 81 rfl rfl (by go_simp) (fun w'=>Blk w' _ _) ⟨(K3.out.alloc _),(K4.out.alloc _),(bel_alloc HB.out _)⟩ ((K2.out.alloc _)) ?_
      clear hHeld;rintro w7 hHeld K2';have K2:=qq K2';clear K2';obtain⟨⟨K3',K4',HB'⟩,K5'⟩:=id hHeld;have K3:=qq K3';have K4:=qq K4';have HB:=qq HB';have K5:=qq K5';clear K3' K4' HB' K5';have z7:=HB.out.size;have y7:=K5.out.lt;simp only[puts];refine one_M 4 (by kernel_rfl) ?_;have o6K2:=K2.out.lt;have o6K3:=K3.out.lt;have o6K4:=K4.out.lt;have o6K5:=K5.out.lt
      refine new_B (d:=some 67) 4 (.slice (some ⟨w7.heap.size,0,none⟩) 1 1) #[.int .i64 3,.int .i64 an,.int .i64 aq,.int .i64 rg,.int .i64 0,.int .i64 0,.int .i64 0,.int .i64 0,.int .i64 0,.int .i64 0,.int .i64 es,.int .i64 eh,.int .i64 0,.float .f64 0] 39 rfl rfl (by go_simp) (fun w'=>Blk w' _ _) ⟨⟨(K3.out.alloc _),(K4.out.alloc _),(bel_alloc HB.out _)⟩,(K5.out.alloc _)⟩ ((K2.out.alloc _)) ?_
      clear hHeld;rintro w8 hHeld K2';have K2:=qq K2';clear K2';obtain⟨⟨⟨K3',K4',HB'⟩,K5'⟩,K6'⟩:=id hHeld;have K3:=qq K3';have K4:=qq K4';have HB:=qq HB';have K5:=qq K5';have K6:=qq K6';clear K3' K4' HB' K5' K6';have z8:=HB.out.size;have y8:=K6.out.lt;simp only[puts];refine takeM (d:=some 73) 10 rfl rfl hHeld (fun w' _=>by go_simp;(try rfl)) ?_;simp only[puts];refine one_M 11 (by kernel_rfl) ?_
      obtain⟨lK2,qK2,fK2⟩:=K2.out;obtain⟨lK3,qK3,fK3⟩:=K3.out;obtain⟨lK4,qK4,fK4⟩:=K4.out;obtain⟨lK5,qK5,fK5⟩:=K5.out;obtain⟨lK6,qK6,fK6⟩:=K6.out
      refine set_M 11 (((w8.setCell ⟨w.heap.size+1,0,none⟩ (.slice (some ⟨w7.heap.size,0,none⟩) 1 1)).setCell ⟨w.heap.size+1,1,none⟩ (.slice (some ⟨w6.heap.size,0,none⟩) 1 1)).setCell ⟨w.heap.size+1,2,none⟩ (.int .i64 0)) rfl rfl (by go_simp) ⟨⟨⟨(((K3.out.other (p:=⟨w.heap.size+1,0,none⟩) (by(try dsimp only);omega) _).other (p:=⟨w.heap.size+1,1,none⟩) (by(try dsimp only);omega) _).other (p:=⟨w.heap.size+1,2,none⟩) (by(try dsimp only);omega) _),(((K4.out.other (p:=⟨w.heap.size+1,0,none⟩) (by(try dsimp only);omega) _).other (p:=⟨w.heap.size+1,1,none⟩) (by(try dsimp only);omega) _).other (p:=⟨w.heap.size+1,2,none⟩) (by(try dsimp only);omega) _),(bel_set (bel_set (bel_set HB.out (p:=⟨w.heap.size+1,0,none⟩) (by(try dsimp only);omega) _) (p:=⟨w.heap.size+1,1,none⟩) (by(try dsimp only);omega) _) (p:=⟨w.heap.size+1,2,none⟩) (by(try dsimp only);omega) _)⟩,(((K5.out.other (p:=⟨w.heap.size+1,0,none⟩) (by(try dsimp only);omega) _).other (p:=⟨w.heap.size+1,1,none⟩) (by(try dsimp only);omega) _).other (p:=⟨w.heap.size+1,2,none⟩) (by(try dsimp only);omega) _)⟩,(((K6.out.other (p:=⟨w.heap.size+1,0,none⟩) (by(try dsimp only);omega) _).other (p:=⟨w.heap.size+1,1,none⟩) (by(try dsimp only);omega) _).other (p:=⟨w.heap.size+1,2,none⟩) (by(try dsimp only);omega) _)⟩ (fun hHeld2=> ?_)
      clear hHeld;have hHeld:=hHeld2;clear hHeld2;clear qK2 fK2 lK2 qK3 fK3 lK3 qK4 fK4 lK4 qK5 fK5 lK5 qK6 fK6 lK6
      (try simp only[puts])
      refine takeM (d:=some 9) 12 rfl rfl hHeld (fun w' _=>by go_simp;(try rfl)) ?_;simp only[puts];refine doneM (by kernel_rfl) ?_ _;clear hHeld;obtain⟨lK2,qK2,fK2⟩:=K2.out;obtain⟨lK3,qK3,fK3⟩:=K3.out;obtain⟨lK4,qK4,fK4⟩:=K4.out;obtain⟨lK5,qK5,fK5⟩:=K5.out;obtain⟨lK6,qK6,fK6⟩:=K6.out;go_wp2_with fail
      have hV0:=(((K2.out.set' 0 (by simp) (.slice (some ⟨w7.heap.size,0,none⟩) 1 1)).set' 1 (by simp) (.slice (some ⟨w6.heap.size,0,none⟩) 1 1)).set' 2 (by simp) (.int .i64 0))
      have hVq0:=hV0.cell;have hVf0:=hV0.free;refine bodyPost_ret (v:=.tuple #[.agg #[.slice (some ⟨w7.heap.size,0,none⟩) 1 1,.slice (some ⟨w6.heap.size,0,none⟩) 1 1,.int .i64 0],.nilIface]) (by simp[results,Tryz.results68,go_sem,hVq0,hVf0]) rfl ?_;clear qK2 fK2 lK2 qK3 fK3 lK3 qK4 fK4 lK4 qK5 fK5 lK5 qK6 fK6 lK6
      exact⟨some ⟨w7.heap.size,0,none⟩,1,some ⟨w6.heap.size,0,none⟩,1,rfl,⟨read_fone (f:=fSeat an aq rg es eh) (((K6.out.other (p:=⟨w.heap.size+1,0,none⟩) (by(try dsimp only);omega) (.slice (some ⟨w7.heap.size,0,none⟩) 1 1)).other (p:=⟨w.heap.size+1,1,none⟩) (by(try dsimp only);omega) (.slice (some ⟨w6.heap.size,0,none⟩) 1 1)).other (p:=⟨w.heap.size+1,2,none⟩) (by(try dsimp only);omega) (.int .i64 0)),read_mone (m:=⟨sd',S.node,rn,an,aq,rg,rp,0,0⟩) (((K5.out.other (p:=⟨w.heap.size+1,0,none⟩) (by(try dsimp only);omega) (.slice (some ⟨w7.heap.size,0,none⟩) 1 1)).other (p:=⟨w.heap.size+1,1,none⟩) (by(try dsimp only);omega) (.slice (some ⟨w6.heap.size,0,none⟩) 1 1)).other (p:=⟨w.heap.size+1,2,none⟩) (by(try dsimp only);omega) (.int .i64 0)),one_block (by first | omega | (simp;done) | (simp;omega)),one_block (by first | omega | (simp;done) | (simp;omega))⟩,(bel_set (bel_set (bel_set HB.out (p:=⟨w.heap.size+1,0,none⟩) (by(try dsimp only);omega) _) (p:=⟨w.heap.size+1,1,none⟩) (by(try dsimp only);omega) _) (p:=⟨w.heap.size+1,2,none⟩) (by(try dsimp only);omega) _)⟩
theorem ldirect_of (L:SLoc) (S:Sto) (na qa rg k:Int) (ea:Int→Addr) (w:World) (hE:EnvS ea w) (h:StoreAt L S w) (hG:StoGood S):Calls Tryz.prog 68 #[.pointer (some ⟨L.sb,0,none⟩),.agg #[na,qa],.int .i64 rg,.int .i64 k] w (DirEnds ea (lDirect S na qa rg k).1 (lDirect S na qa rg k).2 w):=by
 unfold lDirect
 cases hg:lGet S na qa with
 | none=>exact ldirect_none L S na qa rg k ea w hE h hG hg
 | some x=>
  obtain⟨i,a⟩:=x;dsimp only
  cases hr:lReg a rg with
  | none=>exact ldirect_range L S na qa rg k ea w hE h hG i a hg hr
  | some r=>
   dsimp only
   cases hk:lDirects k with
   | false=>rw[if_pos rfl];exact ldirect_form L S na qa rg k ea w hE h hG i a hg r hr hk
   | true=>
    rw[if_neg (by simp)];by_cases ho:a.oc=1∧k≠2
    · rw[if_pos ho];exact ldirect_state L S na qa rg k ea w hE h hG i a hg r hr hk ho
    rw[if_neg ho];have hD:=fun W (hW:Below w.heap.size w W)=>do_of r.seat k ea W (hE.below hW).err3 (hE.e.e9.below hW)
    by_cases hn:(mDo r.seat k).2=0
    · rw[if_neg (by simpa using hn)];rw[hn,show errOf ea 0=.nilIface from rfl] at hD;exact ldirect_ok L S na qa rg k ea w hE h hG i a hg r hr hk ho _ _ _ _ _ _ _ _ hD
    · rw[if_pos hn];exact ldirect_err L S na qa rg k ea w hE h hG i a hg r hr hk ho _ _ _ _ _ _ _ _ _ hn hD
theorem rdirect_none (R:RLoc) (S:Sto) (na qa rg k:Int) (w:World) (h:RStoreAt R S w) (hG:StoGood S) (hf:sfind S na qa=none):Calls Tryz.prog 69 #[.pointer (some ⟨R.sb,0,none⟩),.agg #[na,qa],.int .i64 rg,.int .i64 k] w (RDoEnds res0 8 w):=by
 have HF:=qq (fun W (hW:Below w.heap.size w W)=>rfind_of R S na qa W (h.below hW) hG.acts);rw[hf] at HF;dsimp only[oix] at HF;clear h hG hf;go_enter Tryz.func69,Tryz.ntmps69;go_wp2_with fail;refine(HF.out _ (bel_alloc (bel_alloc (Below.refl w.heap.size w) _) _)).mono ?_;rintro e w1 ⟨rfl,hb1⟩;have K1:=qq (((Blk.fresh _ _ _ (w.heap.size) (by simp)).alloc _).below hb1)
 have K2:=qq ((Blk.fresh _ _ _ (w.heap.size+1) (by simp)).below hb1);have HB:=qq (below_then (bel_alloc (bel_alloc (Below.refl w.heap.size w) _) _) hb1);have z1:=HB.out.size;clear hb1;obtain⟨lK1,qK1,fK1⟩:=K1.out;obtain⟨lK2,qK2,fK2⟩:=K2.out;go_wp2_with fail;have hV0:=(((K2.out.set' 0 (by simp) (.slice none 0 0)).set' 1 (by simp) (.slice none 0 0)).set' 2 (by simp) (.int .i64 0))
 have hVq0:=hV0.cell;have hVf0:=hV0.free;refine bodyPost_ret (v:=.tuple #[.agg #[.slice none 0 0,.slice none 0 0,.int .i64 0],.int .i64 8]) (by simp[results,Tryz.results69,go_sem,hVq0,hVf0]) rfl ?_;clear qK1 fK1 lK1 qK2 fK2 lK2
 exact⟨_,_,rfl,read_nil,read_mnil,(bel_set (bel_set (bel_set HB.out (p:=⟨w.heap.size+1,0,none⟩) (by(try dsimp only);omega) _) (p:=⟨w.heap.size+1,1,none⟩) (by(try dsimp only);omega) _) (p:=⟨w.heap.size+1,2,none⟩) (by(try dsimp only);omega) _)⟩
theorem rdirect_neg (R:RLoc) (S:Sto) (na qa rg k:Int) (w:World) (h:RStoreAt R S w) (hG:StoGood S) (i:Nat) (a:SAct) (hf:sfind S na qa=some i) (ha:S.acts[i]? =some a) (hr:rg<0):Calls Tryz.prog 69 #[.pointer (some ⟨R.sb,0,none⟩),.agg #[na,qa],.int .i64 rg,.int .i64 k] w (RDoEnds res0 1 w):=by
 have HF:=qq (fun W (hW:Below w.heap.size w W)=>rfind_of R S na qa W (h.below hW) hG.acts);rw[hf] at HF;dsimp only[oix] at HF;have hi00:¬(i:Int)<0:=by omega
 clear h hG hf ha;go_enter Tryz.func69,Tryz.ntmps69;go_wp2_with fail;refine(HF.out _ (bel_alloc (bel_alloc (Below.refl w.heap.size w) _) _)).mono ?_;rintro e w1 ⟨rfl,hb1⟩;have K1:=qq (((Blk.fresh _ _ _ (w.heap.size) (by simp)).alloc _).below hb1);have K2:=qq ((Blk.fresh _ _ _ (w.heap.size+1) (by simp)).below hb1);have HB:=qq (below_then (bel_alloc (bel_alloc (Below.refl w.heap.size w) _) _) hb1)
 have z1:=HB.out.size;clear hb1;obtain⟨lK1,qK1,fK1⟩:=K1.out;obtain⟨lK2,qK2,fK2⟩:=K2.out;go_wp2_with fail;have hV0:=(((K2.out.set' 0 (by simp) (.slice none 0 0)).set' 1 (by simp) (.slice none 0 0)).set' 2 (by simp) (.int .i64 0))
 have hVq0:=hV0.cell;have hVf0:=hV0.free;refine bodyPost_ret (v:=.tuple #[.agg #[.slice none 0 0,.slice none 0 0,.int .i64 0],.int .i64 1]) (by simp[results,Tryz.results69,go_sem,hVq0,hVf0]) rfl ?_;clear qK1 fK1 lK1 qK2 fK2 lK2
 exact⟨_,_,rfl,read_nil,read_mnil,(bel_set (bel_set (bel_set HB.out (p:=⟨w.heap.size+1,0,none⟩) (by(try dsimp only);omega) _) (p:=⟨w.heap.size+1,1,none⟩) (by(try dsimp only);omega) _) (p:=⟨w.heap.size+1,2,none⟩) (by(try dsimp only);omega) _)⟩
theorem rdirect_out (R:RLoc) (S:Sto) (na qa rg k:Int) (w:World) (h:RStoreAt R S w) (hG:StoGood S) (i:Nat) (a:SAct) (hf:sfind S na qa=some i) (ha:S.acts[i]? =some a) (hr0:0≤rg) (hr:(a.regs.length:Int)≤rg):Calls Tryz.prog 69 #[.pointer (some ⟨R.sb,0,none⟩),.agg #[na,qa],.int .i64 rg,.int .i64 k] w (RDoEnds res0 1 w):=by
 have HF:=qq (fun W (hW:Below w.heap.size w W)=>rfind_of R S na qa W (h.below hW) hG.acts);rw[hf] at HF;dsimp only[oix] at HF;obtain⟨g,n,cap,va,vc,hin,hn8,hv6,hQ,hRR⟩:=ract_at h hG ha;obtain⟨nd,hnd⟩:∃nd,nd=S.node:=⟨_,rfl⟩
 have hi0:(0:Int)≤(i:Int):=by omega
 have hi1:(i:Int)<(n:Int):=by omega
 obtain⟨an,aq,oc,dp,ex,pa,de,rs⟩:=a;unfold ActC at hQ;dsimp only at*;obtain⟨vn,hvn⟩:∃n,n=rs.length:=⟨_,rfl⟩
 rw[←hvn] at hQ hv6 hr;have HQ:=qq hQ;have hi00:¬(i:Int)<0:=by omega
 have hr00:¬rg<0:=by omega
 clear h hG hf ha hnd hvn hQ hRR;go_enter Tryz.func69,Tryz.ntmps69;obtain⟨xl,gl,xn,xa,a0,a1,a2,a3,a4,a5,a6,a7⟩:=HQ.out _ (Below.refl _ _);go_wp2_with fail;clear xl gl xn xa a0 a1 a2 a3 a4 a5 a6 a7;refine(HF.out _ (bel_alloc (bel_alloc (Below.refl w.heap.size w) _) _)).mono ?_;rintro e w1 ⟨rfl,hb1⟩;have K1:=qq (((Blk.fresh _ _ _ (w.heap.size) (by simp)).alloc _).below hb1)
 have K2:=qq ((Blk.fresh _ _ _ (w.heap.size+1) (by simp)).below hb1);have HB:=qq (below_then (bel_alloc (bel_alloc (Below.refl w.heap.size w) _) _) hb1);have z1:=HB.out.size;clear hb1;obtain⟨xl,gl,xn,xa,a0,a1,a2,a3,a4,a5,a6,a7⟩:=HQ.out _ HB.out;obtain⟨lK1,qK1,fK1⟩:=K1.out;obtain⟨lK2,qK2,fK2⟩:=K2.out;go_wp2_with fail
 have hV0:=(((K2.out.set' 0 (by simp) (.slice none 0 0)).set' 1 (by simp) (.slice none 0 0)).set' 2 (by simp) (.int .i64 0))
 have hVq0:=hV0.cell;have hVf0:=hV0.free;refine bodyPost_ret (v:=.tuple #[.agg #[.slice none 0 0,.slice none 0 0,.int .i64 0],.int .i64 1]) (by simp[results,Tryz.results69,go_sem,hVq0,hVf0]) rfl ?_;clear qK1 fK1 lK1 qK2 fK2 lK2 xl gl xn xa a0 a1 a2 a3 a4 a5 a6 a7
 exact⟨_,_,rfl,read_nil,read_mnil,(bel_set (bel_set (bel_set HB.out (p:=⟨w.heap.size+1,0,none⟩) (by(try dsimp only);omega) _) (p:=⟨w.heap.size+1,1,none⟩) (by(try dsimp only);omega) _) (p:=⟨w.heap.size+1,2,none⟩) (by(try dsimp only);omega) _)⟩
theorem rdirect_form (R:RLoc) (S:Sto) (na qa k:Int) (w:World) (h:RStoreAt R S w) (hG:StoGood S) (i j:Nat) (a:SAct) (r:SReg) (hf:sfind S na qa=some i) (ha:S.acts[i]? =some a) (hj:a.regs[j]? =some r) (hk:¬(k=2∨k=9∨k=10∨k=11)):Calls Tryz.prog 69 #[.pointer (some ⟨R.sb,0,none⟩),.agg #[na,qa],.int .i64 j,.int .i64 k] w (RDoEnds res0 4 w):=by
 have HF:=qq (fun W (hW:Below w.heap.size w W)=>rfind_of R S na qa W (h.below hW) hG.acts);rw[hf] at HF;dsimp only[oix] at HF;have k2:(k !=2)=true:=by simpa using fun e=>hk (.inl e)
 have k9:(k !=9)=true:=by simpa using fun e=>hk (.inr (.inl e))
 have k10:(k !=10)=true:=by simpa using fun e=>hk (.inr (.inr (.inl e)))
 have k11:(k !=11)=true:=by simpa using fun e=>hk (.inr (.inr (.inr e)))
 clear hk;have hi00:¬(i:Int)<0:=by omega
 obtain⟨g,n,cap,va,vc,hin,hn8,hv6,hQ,hRR⟩:=ract_at h hG ha;obtain⟨nd,hnd⟩:∃nd,nd=S.node:=⟨_,rfl⟩
 have hi0:(0:Int)≤(i:Int):=by omega
 have hi1:(i:Int)<(n:Int):=by omega
 obtain⟨gr,rfl,hQR⟩:=hRR j r hj;have hj0:(0:Int)≤(j:Int):=by omega
 have hjl:j<a.regs.length:=(List.getElem?_eq_some_iff.1 hj).1;obtain⟨an,aq,oc,dp,ex,pa,de,rs⟩:=a;unfold ActC at hQ;dsimp only at*;obtain⟨vn,hvn⟩:∃n,n=rs.length:=⟨_,rfl⟩
 rw[←hvn] at hQ hv6 hjl;obtain⟨rn,rp,⟨sp,sd,ss,sh⟩⟩:=r;unfold RegC at hQR;dsimp only at*;have hj1:(j:Int)<(vn:Int):=by omega
 have HQ:=qq (fun W hW=>And.intro (hQ W hW) (hQR W hW));clear h hG ha hj hnd hvn hQ hQR hRR hf;go_enter Tryz.func69,Tryz.ntmps69;obtain⟨⟨xl,gl,xn,xa,a0,a1,a2,a3,a4,a5,a6,a7⟩,rl,r0,r1,r2,r3,r4,r5⟩:=HQ.out _ (Below.refl _ _);go_wp2_with fail;clear xl gl xn xa a0 a1 a2 a3 a4 a5 a6 a7 rl r0 r1 r2 r3 r4 r5;refine(HF.out _ (bel_alloc (bel_alloc (Below.refl w.heap.size w) _) _)).mono ?_
 rintro e w1 ⟨rfl,hb1⟩;have K1:=qq (((Blk.fresh _ _ _ (w.heap.size) (by simp)).alloc _).below hb1);have K2:=qq ((Blk.fresh _ _ _ (w.heap.size+1) (by simp)).below hb1);have HB:=qq (below_then (bel_alloc (bel_alloc (Below.refl w.heap.size w) _) _) hb1);have z1:=HB.out.size;clear hb1;obtain⟨⟨xl,gl,xn,xa,a0,a1,a2,a3,a4,a5,a6,a7⟩,rl,r0,r1,r2,r3,r4,r5⟩:=HQ.out _ HB.out;obtain⟨lK1,qK1,fK1⟩:=K1.out
 obtain⟨lK2,qK2,fK2⟩:=K2.out;go_wp2_with fail;have hV0:=(((K2.out.set' 0 (by simp) (.slice none 0 0)).set' 1 (by simp) (.slice none 0 0)).set' 2 (by simp) (.int .i64 0))
 have hVq0:=hV0.cell;have hVf0:=hV0.free;refine bodyPost_ret (v:=.tuple #[.agg #[.slice none 0 0,.slice none 0 0,.int .i64 0],.int .i64 4]) (by simp[results,Tryz.results69,go_sem,hVq0,hVf0]) rfl ?_;clear qK1 fK1 lK1 qK2 fK2 lK2 xl gl xn xa a0 a1 a2 a3 a4 a5 a6 a7 rl r0 r1 r2 r3 r4 r5
 exact⟨_,_,rfl,read_nil,read_mnil,(bel_set (bel_set (bel_set HB.out (p:=⟨w.heap.size+1,0,none⟩) (by(try dsimp only);omega) _) (p:=⟨w.heap.size+1,1,none⟩) (by(try dsimp only);omega) _) (p:=⟨w.heap.size+1,2,none⟩) (by(try dsimp only);omega) _)⟩
theorem rdirect_state (R:RLoc) (S:Sto) (na qa k:Int) (w:World) (h:RStoreAt R S w) (hG:StoGood S) (i j:Nat) (a:SAct) (r:SReg) (hf:sfind S na qa=some i) (ha:S.acts[i]? =some a) (hj:a.regs[j]? =some r) (hk:k=2∨k=9∨k=10∨k=11) (ho:a.oc=1) (h2:¬k=2):Calls Tryz.prog 69 #[.pointer (some ⟨R.sb,0,none⟩),.agg #[na,qa],.int .i64 j,.int .i64 k] w (RDoEnds res0 9 w):=by
 have HF:=qq (fun W (hW:Below w.heap.size w W)=>rfind_of R S na qa W (h.below hW) hG.acts);rw[hf] at HF;dsimp only[oix] at HF;have HK:=qq hk;have hi00:¬(i:Int)<0:=by omega
 have h44:(a.oc==1)=true:=by simpa using ho
 have H47:=qq (show(k !=2)=true by simpa using h2);obtain⟨g,n,cap,va,vc,hin,hn8,hv6,hQ,hRR⟩:=ract_at h hG ha;obtain⟨nd,hnd⟩:∃nd,nd=S.node:=⟨_,rfl⟩
 have hi0:(0:Int)≤(i:Int):=by omega
 have hi1:(i:Int)<(n:Int):=by omega
 obtain⟨gr,rfl,hQR⟩:=hRR j r hj;have hj0:(0:Int)≤(j:Int):=by omega
 have hjl:j<a.regs.length:=(List.getElem?_eq_some_iff.1 hj).1;obtain⟨an,aq,oc,dp,ex,pa,de,rs⟩:=a;unfold ActC at hQ;dsimp only at*;obtain⟨vn,hvn⟩:∃n,n=rs.length:=⟨_,rfl⟩
 rw[←hvn] at hQ hv6 hjl;obtain⟨rn,rp,⟨sp,sd,ss,sh⟩⟩:=r;unfold RegC at hQR;dsimp only at*;have hj1:(j:Int)<(vn:Int):=by omega
 have HQ:=qq (fun W hW=>And.intro (hQ W hW) (hQR W hW));clear h hG ha hj hnd hvn hQ hQR hRR hf hk ho h2;go_enter Tryz.func69,Tryz.ntmps69;obtain⟨⟨xl,gl,xn,xa,a0,a1,a2,a3,a4,a5,a6,a7⟩,rl,r0,r1,r2,r3,r4,r5⟩:=HQ.out _ (Below.refl _ _);go_wp2_with fail;clear xl gl xn xa a0 a1 a2 a3 a4 a5 a6 a7 rl r0 r1 r2 r3 r4 r5;refine(HF.out _ (bel_alloc (bel_alloc (Below.refl w.heap.size w) _) _)).mono ?_
 rintro e w1 ⟨rfl,hb1⟩;have K1:=qq (((Blk.fresh _ _ _ (w.heap.size) (by simp)).alloc _).below hb1);have K2:=qq ((Blk.fresh _ _ _ (w.heap.size+1) (by simp)).below hb1);have HB:=qq (below_then (bel_alloc (bel_alloc (Below.refl w.heap.size w) _) _) hb1);have z1:=HB.out.size;clear hb1;obtain⟨⟨xl,gl,xn,xa,a0,a1,a2,a3,a4,a5,a6,a7⟩,rl,r0,r1,r2,r3,r4,r5⟩:=HQ.out _ HB.out;obtain⟨lK1,qK1,fK1⟩:=K1.out
 obtain⟨lK2,qK2,fK2⟩:=K2.out;go_upto_region 6 with fail
 (try simp only[show decide (vn≤j)=false from decide_eq_false (by omega),Bool.or_false])
 go_cut [48] from 35 to 47 (fun sq wx=>sq=.bool false∧w1=wx)
 case first=>
  rcases HK.out with rfl | rfl | rfl | rfl
  all_goals go_wp2_with fail
  all_goals go_meet
  all_goals exact⟨rfl,rfl⟩
 case rest=>
  obtain⟨rfl,rfl⟩:=hcut;clear qK1 fK1 lK1 qK2 fK2 lK2 xl gl xn xa a0 a1 a2 a3 a4 a5 a6 a7 rl r0 r1 r2 r3 r4 r5;have h47:=H47.out;obtain⟨⟨xl,gl,xn,xa,a0,a1,a2,a3,a4,a5,a6,a7⟩,rl,r0,r1,r2,r3,r4,r5⟩:=HQ.out _ HB.out;obtain⟨lK1,qK1,fK1⟩:=K1.out;obtain⟨lK2,qK2,fK2⟩:=K2.out;go_wp2_with fail
  have hV0:=(((K2.out.set' 0 (by simp) (.slice none 0 0)).set' 1 (by simp) (.slice none 0 0)).set' 2 (by simp) (.int .i64 0))
  have hVq0:=hV0.cell;have hVf0:=hV0.free;refine bodyPost_ret (v:=.tuple #[.agg #[.slice none 0 0,.slice none 0 0,.int .i64 0],.int .i64 9]) (by simp[results,Tryz.results69,go_sem,hVq0,hVf0]) rfl ?_;clear qK1 fK1 lK1 qK2 fK2 lK2 xl gl xn xa a0 a1 a2 a3 a4 a5 a6 a7 rl r0 r1 r2 r3 r4 r5
  exact⟨_,_,rfl,read_nil,read_mnil,(bel_set (bel_set (bel_set HB.out (p:=⟨w.heap.size+1,0,none⟩) (by(try dsimp only);omega) _) (p:=⟨w.heap.size+1,1,none⟩) (by(try dsimp only);omega) _) (p:=⟨w.heap.size+1,2,none⟩) (by(try dsimp only);omega) _)⟩
theorem rdirect_err (R:RLoc) (S:Sto) (na qa k:Int) (w:World) (h:RStoreAt R S w) (hG:StoGood S) (i j:Nat) (a:SAct) (r:SReg) (hf:sfind S na qa=some i) (ha:S.acts[i]? =some a) (hj:a.regs[j]? =some r) (hk:k=2∨k=9∨k=10∨k=11) (ho:¬(a.oc=1∧k≠2)) (ep ed es eh sd' ft wk:Int) (ch:Bool) (en:Int) (hn:¬en=0) (hD:∀W,Calls Tryz.prog 145 #[seatV r.seat,.int .i64 k] W (Makes (.tuple #[.agg #[ep,ed,es,eh,.int .i64 (sd'),ft,wk,.bool ch],.int .i64 en]) W)):Calls Tryz.prog 69 #[.pointer (some ⟨R.sb,0,none⟩),.agg #[na,qa],.int .i64 j,.int .i64 k] w (RDoEnds res0 en w):=by
 have HF:=qq (fun W (hW:Below w.heap.size w W)=>rfind_of R S na qa W (h.below hW) hG.acts);rw[hf] at HF;dsimp only[oix] at HF;have HK:=qq hk;have hi00:¬(i:Int)<0:=by omega
 have H52:=qq (show(a.oc==1)=false∨(a.oc==1)=true∧(k !=2)=false by
   by_cases h1:a.oc=1
   · exact .inr ⟨by simpa using h1,by simpa using fun h2=>ho ⟨h1,h2⟩⟩
   · exact .inl (by simpa using h1))
 have HD:=qq hD;dsimp only[seatV] at HD;have hn0:(en !=0)=true:=by simpa using hn
 obtain⟨g,n,cap,va,vc,hin,hn8,hv6,hQ,hRR⟩:=ract_at h hG ha;obtain⟨nd,hnd⟩:∃nd,nd=S.node:=⟨_,rfl⟩
 have hi0:(0:Int)≤(i:Int):=by omega
 have hi1:(i:Int)<(n:Int):=by omega
 obtain⟨gr,rfl,hQR⟩:=hRR j r hj;have hj0:(0:Int)≤(j:Int):=by omega
 have hjl:j<a.regs.length:=(List.getElem?_eq_some_iff.1 hj).1;obtain⟨an,aq,oc,dp,ex,pa,de,rs⟩:=a;unfold ActC at hQ;dsimp only at*;obtain⟨vn,hvn⟩:∃n,n=rs.length:=⟨_,rfl⟩
 rw[←hvn] at hQ hv6 hjl;obtain⟨rn,rp,⟨sp,sd,ss,sh⟩⟩:=r;unfold RegC at hQR;dsimp only at*;have hj1:(j:Int)<(vn:Int):=by omega
 have HQ:=qq (fun W hW=>And.intro (hQ W hW) (hQR W hW));clear h hG ha hj hnd hvn hQ hQR hRR hf hk ho hD hn;go_enter Tryz.func69,Tryz.ntmps69;obtain⟨⟨xl,gl,xn,xa,a0,a1,a2,a3,a4,a5,a6,a7⟩,rl,r0,r1,r2,r3,r4,r5⟩:=HQ.out _ (Below.refl _ _);go_wp2_with fail;clear xl gl xn xa a0 a1 a2 a3 a4 a5 a6 a7 rl r0 r1 r2 r3 r4 r5;refine(HF.out _ (bel_alloc (bel_alloc (Below.refl w.heap.size w) _) _)).mono ?_
 rintro e w1 ⟨rfl,hb1⟩;have K1:=qq (((Blk.fresh _ _ _ (w.heap.size) (by simp)).alloc _).below hb1);have K2:=qq ((Blk.fresh _ _ _ (w.heap.size+1) (by simp)).below hb1);have HB:=qq (below_then (bel_alloc (bel_alloc (Below.refl w.heap.size w) _) _) hb1);have z1:=HB.out.size;clear hb1;obtain⟨⟨xl,gl,xn,xa,a0,a1,a2,a3,a4,a5,a6,a7⟩,rl,r0,r1,r2,r3,r4,r5⟩:=HQ.out _ HB.out;obtain⟨lK1,qK1,fK1⟩:=K1.out
 obtain⟨lK2,qK2,fK2⟩:=K2.out;go_upto_region 6 with fail
 (try simp only[show decide (vn≤j)=false from decide_eq_false (by omega),Bool.or_false])
 go_cut [48] from 35 to 47 (fun sq wx=>sq=.bool false∧w1=wx)
 case first=>
  rcases HK.out with rfl | rfl | rfl | rfl
  all_goals go_wp2_with fail
  all_goals go_meet
  all_goals exact⟨rfl,rfl⟩
 case rest=>
  obtain⟨rfl,rfl⟩:=hcut;clear qK1 fK1 lK1 qK2 fK2 lK2 xl gl xn xa a0 a1 a2 a3 a4 a5 a6 a7 rl r0 r1 r2 r3 r4 r5;obtain⟨⟨xl,gl,xn,xa,a0,a1,a2,a3,a4,a5,a6,a7⟩,rl,r0,r1,r2,r3,r4,r5⟩:=HQ.out _ HB.out;obtain⟨lK1,qK1,fK1⟩:=K1.out;obtain⟨lK2,qK2,fK2⟩:=K2.out;go_upto_region 8 with fail
  go_cut [63] from 50 to 62 (fun sq wx=>sq=.bool false∧w1=wx)
  case first=>
   rcases H52.out with h5 | ⟨h5,h2⟩
   all_goals go_wp2_with fail
   all_goals go_meet
   all_goals exact⟨rfl,rfl⟩
  case rest=>
   obtain⟨rfl,rfl⟩:=hcut;clear qK1 fK1 lK1 qK2 fK2 lK2 xl gl xn xa a0 a1 a2 a3 a4 a5 a6 a7 rl r0 r1 r2 r3 r4 r5;obtain⟨⟨xl,gl,xn,xa,a0,a1,a2,a3,a4,a5,a6,a7⟩,rl,r0,r1,r2,r3,r4,r5⟩:=HQ.out _ HB.out;obtain⟨lK1,qK1,fK1⟩:=K1.out;obtain⟨lK2,qK2,fK2⟩:=K2.out;go_wp2_with fail;clear qK1 fK1 lK1 qK2 fK2 lK2 xl gl xn xa a0 a1 a2 a3 a4 a5 a6 a7 rl r0 r1 r2 r3 r4 r5;refine(HD.out _).mono ?_
   rintro e w2 ⟨rfl,hb2⟩;have K2:=qq (K2.out.below hb2);have HB:=qq (below_then HB.out hb2);have z2:=HB.out.size;clear hb2;have o3K2:=K2.out.lt;obtain⟨⟨xl,gl,xn,xa,a0,a1,a2,a3,a4,a5,a6,a7⟩,rl,r0,r1,r2,r3,r4,r5⟩:=HQ.out _ HB.out;obtain⟨lK2,qK2,fK2⟩:=K2.out;go_wp2_with fail
   have hV0:=((((K2.out.set' 0 (by simp) (.slice none 0 0)).set' 1 (by simp) (.slice none 0 0)).set' 2 (by simp) (.int .i64 0)).alloc (.cells #[ep,ed,es,eh,.int .i64 (sd'),ft,wk,.bool ch] 229))
   have hVq0:=hV0.cell;have hVf0:=hV0.free;refine bodyPost_ret (v:=.tuple #[.agg #[.slice none 0 0,.slice none 0 0,.int .i64 0],.int .i64 en]) (by simp[results,Tryz.results69,go_sem,hVq0,hVf0]) rfl ?_;clear qK2 fK2 lK2 xl gl xn xa a0 a1 a2 a3 a4 a5 a6 a7 rl r0 r1 r2 r3 r4 r5
   exact⟨_,_,rfl,read_nil,read_mnil,(bel_alloc (bel_set (bel_set (bel_set HB.out (p:=⟨w.heap.size+1,0,none⟩) (by(try dsimp only);omega) _) (p:=⟨w.heap.size+1,1,none⟩) (by(try dsimp only);omega) _) (p:=⟨w.heap.size+1,2,none⟩) (by(try dsimp only);omega) _) _)⟩
end Go.Proofs.YtlkajejbfojkeaaGreatDoor
