/- LoB -/
import Derived.Test.YtlkajejbfojkeaaGreatDoorYStoVToLoD
set_option linter.unusedSimpArgs false
set_option linter.unusedVariables false
set_option maxRecDepth 100000
set_option maxHeartbeats 16000000
namespace Go.Proofs.YtlkajejbfojkeaaGreatDoor
open Go.RowKit
attribute [local go_sem] store_float
def OpenEnds (ev:Value) (r:SRes) (c:SCtx) (w:World) (e:Ending) (w':World):Prop:=∃a u b d,e=.returned (.tuple #[.agg #[.slice a r.fs.length u,.slice b r.ms.length d,r.wk],.agg #[c.an,c.aq,c.oc,c.dp,.float .f64 c.ex],ev])∧ReadR w.heap.size w' (.slice a r.fs.length u) (.slice b r.ms.length d) r∧Below w.heap.size w w'
section
variable {P:Program} {Q:Exit→Act→World→Prop} {ops:Array Oper} {md:Region.Mode} {S:World→Prop}
theorem new_N {fuel : Nat} {listed : Array Bool} {a : Act} {w : World} {oi : Oper} {d : Option Tmp} (i : Nat) (v : Value) (C : Array Value) (T : TypeId) (hi : ops[i]? = some oi) (hd : oi.dst = d) (hrun : (execOp a.eval oi).run P w = .ok (.value v) (w.alloc (.cells C T))) (E : World → Prop) (hS : S (w.alloc (.cells C T))) (hE : E (w.alloc (.cells C T)))
    (h:∀w2,S w2→E w2→wpAnyM P md ops Q S fuel (listed.setIfInBounds i true) (a.put d v) w2)
    (hw:Region.wanted oi (yielded ops a.tmps)=true:=by rfl):wpOp P ops Q i (Nxt P md ops Q S fuel listed i) a w:=
 wpOp_alone i v _ hi hd hw hrun (show Nxt P md ops Q S fuel listed i (a.put d v) (w.alloc (.cells C T)) from⟨S,fun _ h=>h,hS,fun h1=>h _ h1 hE⟩)
end
theorem lopen_full (L:SLoc) (S:Sto) (oc:Int) (now lasts:Nat) (ea:Int→Addr) (w:World) (hE:EnvS ea w) (h:StoreAt L S w) (hG:StoGood S) (hn:F64 now) (hl:F64 lasts) (hf:lFull S=true):Calls Tryz.prog 77 #[.pointer (some ⟨L.sb,0,none⟩),.int .i64 oc,.float .f64 now,.float .f64 lasts] w (OpenEnds (errOf ea 6) res0 ctx0 w):=by
 have HE:=qq hE;have H:=qq h;have HFU:=qq (fun W hW=>lfull_of L S W hW hG);rw[hf] at HFU;clear hE h hG hn hl hf;go_enter Tryz.func77,Tryz.ntmps77;go_wp2_with fail;refine(HFU.out _ (H.out.below (bel_alloc (bel_alloc (Below.refl w.heap.size w) _) _))).mono ?_;rintro e w1 ⟨rfl,hb1⟩;have K1:=qq (((Blk.fresh _ _ _ (w.heap.size) (by simp)).alloc _).below hb1)
 have K2:=qq ((Blk.fresh _ _ _ (w.heap.size+1) (by simp)).below hb1);have HB:=qq (below_then (bel_alloc (bel_alloc (Below.refl w.heap.size w) _) _) hb1);have z1:=HB.out.size;clear hb1;obtain⟨lK1,qK1,fK1⟩:=K1.out;obtain⟨lK2,qK2,fK2⟩:=K2.out;go_wp2_with fail;clear qK1 fK1 lK1 qK2 fK2 lK2
 refine reg_start2 (fun w'=>Below w.heap.size w w') (fun w'=>Blk w' _ _∧Blk w' _ _) (by kernel_rfl) ((bel_drew HB.out)) ⟨K1.out.drew,K2.out.drew⟩ ?_;rintro w2 hHeld ⟨K1',K2'⟩;have K1:=qq K1';have K2:=qq K2';clear K1' K2';obtain HB':=id hHeld;have HB:=qq HB';clear HB';have z2:=HB.out.size;refine takeM (d:=some 15) 0 rfl rfl hHeld (fun w' _=>by go_simp;(try rfl)) ?_;simp only[puts]
 refine takeM (d:=some 16) 1 rfl rfl hHeld (fun w' _=>by go_simp;(try rfl)) ?_;simp only[puts];refine takeM (d:=some 17) 2 rfl rfl hHeld (fun w' hS'=>by have qA:w'.cell? ⟨5,0,none⟩=some (errV (ea 6)):=HE.out.e.e6.below hS';clear hS';go_simp;(try rfl)) ?_;simp only[puts];refine one_M 3 (by kernel_rfl) ?_;obtain⟨lK1,qK1,fK1⟩:=K1.out;obtain⟨lK2,qK2,fK2⟩:=K2.out
 refine set_M 3 (((w2.setCell ⟨w.heap.size,0,none⟩ (.slice none 0 0)).setCell ⟨w.heap.size,1,none⟩ (.slice none 0 0)).setCell ⟨w.heap.size,2,none⟩ (.int .i64 0)) rfl rfl (by go_simp) (bst (bst (bst HB.out w.heap.size 0 _) w.heap.size 1 _) w.heap.size 2 _) (fun hHeld2=> ?_);clear hHeld;have hHeld:=hHeld2;clear hHeld2;clear qK1 fK1 lK1 qK2 fK2 lK2
 (try simp only[puts])
 refine one_M 4 (by kernel_rfl) ?_;obtain⟨lK1,qK1,fK1⟩:=K1.out;obtain⟨lK2,qK2,fK2⟩:=K2.out
 refine set_M 4 ((((((((w2.setCell ⟨w.heap.size,0,none⟩ (.slice none 0 0)).setCell ⟨w.heap.size,1,none⟩ (.slice none 0 0)).setCell ⟨w.heap.size,2,none⟩ (.int .i64 0)).setCell ⟨w.heap.size+1,0,none⟩ (.int .i64 0)).setCell ⟨w.heap.size+1,1,none⟩ (.int .i64 0)).setCell ⟨w.heap.size+1,2,none⟩ (.int .i64 0)).setCell ⟨w.heap.size+1,3,none⟩ (.int .i64 0)).setCell ⟨w.heap.size+1,4,none⟩ (.float .f64 0)) rfl rfl (by go_simp) (bst (bst (bst (bst (bst (bst (bst (bst HB.out w.heap.size 0 _) w.heap.size 1 _) w.heap.size 2 _) (w.heap.size+1) 0 _) (w.heap.size+1) 1 _) (w.heap.size+1) 2 _) (w.heap.size+1) 3 _) (w.heap.size+1) 4 _) (fun hHeld2=> ?_)
 clear hHeld;have hHeld:=hHeld2;clear hHeld2;clear qK1 fK1 lK1 qK2 fK2 lK2
 (try simp only[puts])
 refine takeM (d:=some 10) 5 rfl rfl hHeld (fun w' _=>by go_simp;(try rfl)) ?_;simp only[puts];refine doneM (by kernel_rfl) ?_ _;clear hHeld;obtain⟨lK1,qK1,fK1⟩:=K1.out;obtain⟨lK2,qK2,fK2⟩:=K2.out;go_wp2_with fail
 have hV0:=(ost (ost (ost (ost (ost (sst (sst (sst K1.out 0 (.slice none 0 0)) 1 (.slice none 0 0)) 2 (.int .i64 0)) (w.heap.size+1) 0 (.int .i64 0)) (w.heap.size+1) 1 (.int .i64 0)) (w.heap.size+1) 2 (.int .i64 0)) (w.heap.size+1) 3 (.int .i64 0)) (w.heap.size+1) 4 (.float .f64 0))
 have hVq0:=hV0.cell;have hVf0:=hV0.free;have hV1:=(sst (sst (sst (sst (sst (ost (ost (ost K2.out w.heap.size 0 (.slice none 0 0)) w.heap.size 1 (.slice none 0 0)) w.heap.size 2 (.int .i64 0)) 0 (.int .i64 0)) 1 (.int .i64 0)) 2 (.int .i64 0)) 3 (.int .i64 0)) 4 (.float .f64 0))
 have hVq1:=hV1.cell;have hVf1:=hV1.free;refine bodyPost_ret (v:=.tuple #[.agg #[.slice none 0 0,.slice none 0 0,.int .i64 0],.agg #[.int .i64 0,.int .i64 0,.int .i64 0,.int .i64 0,.float .f64 0],errV (ea 6)]) (by simp[results,Tryz.results77,go_sem,hVq0,hVf0,hVq1,hVf1]) rfl ?_;clear qK1 fK1 lK1 qK2 fK2 lK2
 exact⟨none,0,none,0,rfl,⟨read_nil,read_mnil,no_block,no_block⟩,(bst (bst (bst (bst (bst (bst (bst (bst HB.out w.heap.size 0 _) w.heap.size 1 _) w.heap.size 2 _) (w.heap.size+1) 0 _) (w.heap.size+1) 1 _) (w.heap.size+1) 2 _) (w.heap.size+1) 3 _) (w.heap.size+1) 4 _)⟩
theorem lopen_bad (L:SLoc) (S:Sto) (oc:Int) (now lasts:Nat) (ea:Int→Addr) (w:World) (hE:EnvS ea w) (h:StoreAt L S w) (hG:StoGood S) (hn:F64 now) (hl:F64 lasts) (hf:lFull S=false) (hb:fdelay now=false∨fdelay lasts=false∨¬(oc=1∨oc=2)):Calls Tryz.prog 77 #[.pointer (some ⟨L.sb,0,none⟩),.int .i64 oc,.float .f64 now,.float .f64 lasts] w (OpenEnds (errOf ea 4) res0 ctx0 w):=by
 have HE:=qq hE;have H:=qq h;have HFU:=qq (fun W hW=>lfull_of L S W hW hG);rw[hf] at HFU;have HND:=qq (fun W hW=>node_of L S W hW);have HNX:=qq (fun W hW=>next_of L S W hW);have hi:idOk S.node S.next=true:=by
  have h1:=hG.node;have h2:=hG.next;have h3:¬(8≤S.acts.length∨1000000≤S.next):=by unfold lFull at hf;simpa using hf
  unfold idOk;exact decide_eq_true (by omega)
 obtain⟨nd,hnd⟩:∃x,x=S.node:=⟨_,rfl⟩
 obtain⟨nx,hnx⟩:∃x,x=S.next:=⟨_,rfl⟩
 rw[←hnd] at HND hi;rw[←hnx] at HNX hi;have HN:Hid (∀W,EnvS ea W→Calls Tryz.prog 177 #[.agg #[nd,nx],.int .i64 oc,.float .f64 now,.float .f64 lasts] W (Makes (.tuple #[.agg #[.int .i64 0,.int .i64 0,.int .i64 0,.int .i64 0,.float .f64 0],errV (ea 4)]) W)):=qq (fun W hW=>by
   cases d1:fdelay now with
   | false=>exact scNew_time nd nx oc now lasts ea W hW hn hl hi (.inl d1)
   | true=>
     cases d2:fdelay lasts with
     | false=>exact scNew_time nd nx oc now lasts ea W hW hn hl hi (.inr d2)
     | true=>exact scNew_form nd nx oc now lasts ea W hW hn hl hi ⟨d1,d2⟩ (by rcases hb with h | h | h<;>first | (rw[d1] at h;cases h;done) | (rw[d2] at h;cases h;done) | exact h))
 unfold errV at HN;clear hE h hG hn hl hf hb hi hnd hnx;go_enter Tryz.func77,Tryz.ntmps77;go_wp2_with fail;refine(HFU.out _ (H.out.below (bel_alloc (bel_alloc (Below.refl w.heap.size w) _) _))).mono ?_;rintro e w1 ⟨rfl,hb1⟩;have TK1:=qq (hp_be (hp_al (hp_new (w.heap.size) (by simp)) _) hb1);have TK2:=qq (hp_be (hp_new (w.heap.size+1) (by simp)) hb1)
 have K1:=qq (((Blk.fresh _ _ _ (w.heap.size) (by simp)).alloc _).below hb1);have K2:=qq ((Blk.fresh _ _ _ (w.heap.size+1) (by simp)).below hb1);have HB:=qq (below_then (bel_alloc (bel_alloc (Below.refl w.heap.size w) _) _) hb1);have z1:=HB.out.size;clear hb1;obtain⟨lK1,qK1,fK1⟩:=K1.out;obtain⟨lK2,qK2,fK2⟩:=K2.out;go_wp2_with fail;clear qK1 fK1 lK1 qK2 fK2 lK2
 refine(HND.out _ (H.out.below HB.out)).mono ?_;rintro e w2 ⟨rfl,rfl⟩;obtain⟨lK1,qK1,fK1⟩:=K1.out;obtain⟨lK2,qK2,fK2⟩:=K2.out;go_wp2_with fail;clear qK1 fK1 lK1 qK2 fK2 lK2;refine(HNX.out _ (H.out.below HB.out)).mono ?_;rintro e w3 ⟨rfl,rfl⟩;obtain⟨lK1,qK1,fK1⟩:=K1.out;obtain⟨lK2,qK2,fK2⟩:=K2.out;go_wp2_with fail;clear qK1 fK1 lK1 qK2 fK2 lK2;refine(HN.out _ (HE.out.below HB.out)).mono ?_
 rintro e w4 ⟨rfl,hb4⟩;have TK1:=qq (hp_be TK1.out hb4);have TK2:=qq (hp_be TK2.out hb4);have K1:=qq (K1.out.below hb4);have K2:=qq (K2.out.below hb4);have HB:=qq (below_then HB.out hb4);have z4:=HB.out.size;clear hb4;have o3K1:=K1.out.lt;have o3K2:=K2.out.lt;obtain⟨lK1,qK1,fK1⟩:=K1.out;obtain⟨lK2,qK2,fK2⟩:=K2.out
 have hT:=(hp_al TK1.out (.cells #[.int .i64 0,.int .i64 0,.int .i64 0,.int .i64 0,.float .f64 0] 48))
 go_wp2_with (refine row_go 87 (.tmp 8) (.tmp 32) rfl rfl (w.heap.size) #[.slice none 0 0,.slice none 0 0,.int .i64 0] #[.slice none 0 0,.slice none 0 0,.int .i64 0] 87 hT rfl rfl (by kernel_rfl) rfl (by simp[Value.oneCell']) ?_);clear hT;clear qK1 fK1 lK1 qK2 fK2 lK2;intro w5 hK hg;have TK2:=qq (hp_gr (hp_al TK2.out _) hg (by omega));have K1:=qq hK;have K2:=qq ((K2.out.alloc _).gr hg (by omega))
 have HB:=qq (bel_gr (bel_alloc HB.out _) hg (by omega));clear hK hg;have z5:=HB.out.size;obtain⟨lK1,qK1,fK1⟩:=K1.out;obtain⟨lK2,qK2,fK2⟩:=K2.out;have hT:=TK2.out
 go_wp2_with (refine row_go 48 (.tmp 9) (.tmp 33) rfl rfl (w.heap.size+1) #[.int .i64 0,.int .i64 0,.int .i64 0,.int .i64 0,.float .f64 0] #[.int .i64 0,.int .i64 0,.int .i64 0,.int .i64 0,.float .f64 0] 48 hT rfl rfl (by kernel_rfl) rfl (by simp[Value.oneCell']) ?_);clear hT;clear qK1 fK1 lK1 qK2 fK2 lK2;intro w6 hK hg;have K1:=qq (K1.out.gr hg (by omega));have K2:=qq hK
 have HB:=qq (bel_gr HB.out hg (by omega));clear hK hg;have z6:=HB.out.size;obtain⟨lK1,qK1,fK1⟩:=K1.out;obtain⟨lK2,qK2,fK2⟩:=K2.out;go_wp2_with fail;refine bodyPost_ret (v:=.tuple #[.agg #[.slice none 0 0,.slice none 0 0,.int .i64 0],.agg #[.int .i64 0,.int .i64 0,.int .i64 0,.int .i64 0,.float .f64 0],errV (ea 4)]) (by simp[results,Tryz.results77,go_sem,qK1,fK1,qK2,fK2]) rfl ?_
 clear qK1 fK1 lK1 qK2 fK2 lK2;exact⟨none,0,none,0,rfl,⟨read_nil,read_mnil,no_block,no_block⟩,HB.out⟩
theorem lopen_yes (L:SLoc) (S:Sto) (oc:Int) (now lasts:Nat) (ea:Int→Addr) (w:World) (hE:EnvS ea w) (h:StoreAt L S w) (hG:StoGood S) (hn:F64 now) (hl:F64 lasts) (hf:lFull S=false) (hd:fdelay now=true∧fdelay lasts=true) (ho:oc=1∨oc=2):Calls Tryz.prog 77 #[.pointer (some ⟨L.sb,0,none⟩),.int .i64 oc,.float .f64 now,.float .f64 lasts] w (OpenEnds (errOf ea 0) ⟨[fOpn ⟨S.node,S.next,oc,0,fsum (fplain now) (fplain lasts)⟩ 0],[],0⟩ ⟨S.node,S.next,oc,0,fsum (fplain now) (fplain lasts)⟩ w):=by
 have HE:=qq hE;have H:=qq h;have HFU:=qq (fun W hW=>lfull_of L S W hW hG);rw[hf] at HFU;have HND:=qq (fun W hW=>node_of L S W hW);have HNX:=qq (fun W hW=>next_of L S W hW);have hi:idOk S.node S.next=true:=by
  have h1:=hG.node;have h2:=hG.next;have h3:¬(8≤S.acts.length∨1000000≤S.next):=by unfold lFull at hf;simpa using hf
  unfold idOk;exact decide_eq_true (by omega)
 obtain⟨nd,hnd⟩:∃x,x=S.node:=⟨_,rfl⟩
 obtain⟨nx,hnx⟩:∃x,x=S.next:=⟨_,rfl⟩
 rw[←hnd] at HND hi;rw[←hnx] at HNX hi;have hN:=fun W (hW:EnvS ea W)=>scNew_yes nd nx oc now lasts ea W hW hn hl hi hd ho
 rw[←hnd,←hnx];obtain⟨sum,hsum⟩:∃s,s=fsum (fplain now) (fplain lasts):=⟨_,rfl⟩
 rw[←hsum] at hN⊢;have HN:=qq hN;clear hE h hG hn hl hf hd ho hi hnd hnx hN hsum;go_enter Tryz.func77,Tryz.ntmps77;go_wp2_with fail;refine(HFU.out _ (H.out.below (bel_alloc (bel_alloc (Below.refl w.heap.size w) _) _))).mono ?_;rintro e w1 ⟨rfl,hb1⟩;have K1:=qq (((Blk.fresh _ _ _ (w.heap.size) (by simp)).alloc _).below hb1);have K2:=qq ((Blk.fresh _ _ _ (w.heap.size+1) (by simp)).below hb1)
 have HB:=qq (below_then (bel_alloc (bel_alloc (Below.refl w.heap.size w) _) _) hb1);have z1:=HB.out.size;clear hb1;obtain⟨lK1,qK1,fK1⟩:=K1.out;obtain⟨lK2,qK2,fK2⟩:=K2.out;go_wp2_with fail;clear qK1 fK1 lK1 qK2 fK2 lK2;refine(HND.out _ (H.out.below HB.out)).mono ?_;rintro e w2 ⟨rfl,rfl⟩;obtain⟨lK1,qK1,fK1⟩:=K1.out;obtain⟨lK2,qK2,fK2⟩:=K2.out;go_wp2_with fail;clear qK1 fK1 lK1 qK2 fK2 lK2
 refine(HNX.out _ (H.out.below HB.out)).mono ?_;rintro e w3 ⟨rfl,rfl⟩;obtain⟨lK1,qK1,fK1⟩:=K1.out;obtain⟨lK2,qK2,fK2⟩:=K2.out;go_wp2_with fail;clear qK1 fK1 lK1 qK2 fK2 lK2;refine(HN.out _ (HE.out.below HB.out)).mono ?_;rintro e w4 ⟨rfl,hb4⟩;have K1:=qq (K1.out.below hb4);have K2:=qq (K2.out.below hb4);have HB:=qq (below_then HB.out hb4);have z4:=HB.out.size;clear hb4
 have o3K1:=K1.out.lt;have o3K2:=K2.out.lt;obtain⟨lK1,qK1,fK1⟩:=K1.out;obtain⟨lK2,qK2,fK2⟩:=K2.out;go_wp2_with fail;clear qK1 fK1 lK1 qK2 fK2 lK2;refine reg_start2 (fun w'=>Blk w' _ _∧Below w.heap.size w w') (fun w'=>Blk w' _ _∧Blk w' _ _) (by kernel_rfl) ⟨(Blk.fresh _ _ _ (w4.heap.size) (by simp)).drew,(bel_drew (bel_alloc HB.out _))⟩ ⟨(K1.out.alloc _).drew,(K2.out.alloc _).drew⟩ ?_
 rintro w5 hHeld ⟨K1',K2'⟩;have K1:=qq K1';have K2:=qq K2';clear K1' K2';obtain⟨K3',HB'⟩:=id hHeld;have K3:=qq K3';have HB:=qq HB';clear K3' HB';have z5:=HB.out.size;refine takeM (d:=some 35) 0 rfl rfl hHeld (fun w' hS'=>by have qA:=hS'.1.cell;clear hS';go_simp;(try rfl)) ?_;simp only[puts]
 refine takeM (d:=some 37) 2 rfl rfl hHeld (fun w' hS'=>by have qA:=hS'.1.cell;clear hS';go_simp;(try rfl)) ?_;simp only[puts];refine one_M 1 (by kernel_rfl) ?_;refine wpOp_call (d:=some 36) 1 178 _ _ [.agg #[nd,nx,oc,.int .i64 0,.float .f64 sum],.int .i64 0] rfl rfl rfl (enters_of Tryz.func178 (by kernel_rfl) rfl) (by rfl) (by rfl) ?_;refine(lopened_of nd nx oc 0 sum 0 _).mono ?_
 rintro e w6 ⟨ga,gc,gb,gd,rfl,hR,hb6⟩;have HZ0:=qq (HB.out).size;have ooK1:=K1.out.lt;have ooK2:=K2.out.lt;have ooK3:=K3.out.lt;clear hHeld;have K1:=qq (K1.out.below hb6);have K2:=qq (K2.out.below hb6);have K3:=qq (K3.out.below hb6);have HB:=qq (below_then HB.out hb6);have z6:=HB.out.size;clear hb6;have HRR:=qq (hR)
 (try clear hR)
 refine ret_S ⟨K3.out,HB.out⟩ (fun hHeld=> ?_);simp only[puts];refine one_M 3 (by kernel_rfl) ?_;obtain⟨lK1,qK1,fK1⟩:=K1.out;obtain⟨lK2,qK2,fK2⟩:=K2.out;obtain⟨lK3,qK3,fK3⟩:=K3.out
 refine set_M 3 (((w6.setCell ⟨w.heap.size,0,none⟩ (.slice ga 1 gc)).setCell ⟨w.heap.size,1,none⟩ (.slice gb 0 gd)).setCell ⟨w.heap.size,2,none⟩ (.int .i64 0)) rfl rfl (by go_simp) ⟨(ost (ost (ost K3.out w.heap.size 0 _) w.heap.size 1 _) w.heap.size 2 _),(bst (bst (bst HB.out w.heap.size 0 _) w.heap.size 1 _) w.heap.size 2 _)⟩ (fun hHeld2=> ?_);clear hHeld;have hHeld:=hHeld2;clear hHeld2
 clear qK1 fK1 lK1 qK2 fK2 lK2 qK3 fK3 lK3
 (try simp only[puts])
 refine one_M 4 (by kernel_rfl) ?_;obtain⟨lK1,qK1,fK1⟩:=K1.out;obtain⟨lK2,qK2,fK2⟩:=K2.out;obtain⟨lK3,qK3,fK3⟩:=K3.out
 refine set_M 4 ((((((((w6.setCell ⟨w.heap.size,0,none⟩ (.slice ga 1 gc)).setCell ⟨w.heap.size,1,none⟩ (.slice gb 0 gd)).setCell ⟨w.heap.size,2,none⟩ (.int .i64 0)).setCell ⟨w.heap.size+1,0,none⟩ (.int .i64 nd)).setCell ⟨w.heap.size+1,1,none⟩ (.int .i64 nx)).setCell ⟨w.heap.size+1,2,none⟩ (.int .i64 oc)).setCell ⟨w.heap.size+1,3,none⟩ (.int .i64 0)).setCell ⟨w.heap.size+1,4,none⟩ (.float .f64 sum)) rfl rfl (by go_simp) ⟨(ost (ost (ost (ost (ost (ost (ost (ost K3.out w.heap.size 0 _) w.heap.size 1 _) w.heap.size 2 _) (w.heap.size+1) 0 _) (w.heap.size+1) 1 _) (w.heap.size+1) 2 _) (w.heap.size+1) 3 _) (w.heap.size+1) 4 _),(bst (bst (bst (bst (bst (bst (bst (bst HB.out w.heap.size 0 _) w.heap.size 1 _) w.heap.size 2 _) (w.heap.size+1) 0 _) (w.heap.size+1) 1 _) (w.heap.size+1) 2 _) (w.heap.size+1) 3 _) (w.heap.size+1) 4 _)⟩ (fun hHeld2=> ?_)
 clear hHeld;have hHeld:=hHeld2;clear hHeld2;clear qK1 fK1 lK1 qK2 fK2 lK2 qK3 fK3 lK3
 (try simp only[puts])
 refine takeM (d:=some 10) 5 rfl rfl hHeld (fun w' _=>by go_simp;(try rfl)) ?_;simp only[puts];refine doneM (by kernel_rfl) ?_ _;clear hHeld;obtain⟨lK1,qK1,fK1⟩:=K1.out;obtain⟨lK2,qK2,fK2⟩:=K2.out;obtain⟨lK3,qK3,fK3⟩:=K3.out;go_wp2_with fail
 have hV0:=(ost (ost (ost (ost (ost (sst (sst (sst K1.out 0 (.slice ga 1 gc)) 1 (.slice gb 0 gd)) 2 (.int .i64 0)) (w.heap.size+1) 0 (.int .i64 nd)) (w.heap.size+1) 1 (.int .i64 nx)) (w.heap.size+1) 2 (.int .i64 oc)) (w.heap.size+1) 3 (.int .i64 0)) (w.heap.size+1) 4 (.float .f64 sum))
 have hVq0:=hV0.cell;have hVf0:=hV0.free;have hV1:=(sst (sst (sst (sst (sst (ost (ost (ost K2.out w.heap.size 0 (.slice ga 1 gc)) w.heap.size 1 (.slice gb 0 gd)) w.heap.size 2 (.int .i64 0)) 0 (.int .i64 nd)) 1 (.int .i64 nx)) 2 (.int .i64 oc)) 3 (.int .i64 0)) 4 (.float .f64 sum))
 have hVq1:=hV1.cell;have hVf1:=hV1.free;refine bodyPost_ret (v:=.tuple #[.agg #[.slice ga 1 gc,.slice gb 0 gd,.int .i64 0],.agg #[nd,nx,oc,.int .i64 0,.float .f64 sum],.nilIface]) (by simp[results,Tryz.results77,go_sem,hVq0,hVf0,hVq1,hVf1]) rfl ?_;clear qK1 fK1 lK1 qK2 fK2 lK2 qK3 fK3 lK3
 exact⟨ga,gc,gb,gd,rfl,(rst (rst (rst (rst (rst (rst (rst (rst HRR.out w.heap.size 0 (.slice ga 1 gc)) w.heap.size 1 (.slice gb 0 gd)) w.heap.size 2 (.int .i64 0)) (w.heap.size+1) 0 (.int .i64 nd)) (w.heap.size+1) 1 (.int .i64 nx)) (w.heap.size+1) 2 (.int .i64 oc)) (w.heap.size+1) 3 (.int .i64 0)) (w.heap.size+1) 4 (.float .f64 sum)).mono HZ0.out,(bst (bst (bst (bst (bst (bst (bst (bst HB.out w.heap.size 0 _) w.heap.size 1 _) w.heap.size 2 _) (w.heap.size+1) 0 _) (w.heap.size+1) 1 _) (w.heap.size+1) 2 _) (w.heap.size+1) 3 _) (w.heap.size+1) 4 _)⟩
theorem lopen_of (L:SLoc) (S:Sto) (oc:Int) (now lasts:Nat) (ea:Int→Addr) (w:World) (hE:EnvS ea w) (h:StoreAt L S w) (hG:StoGood S) (hn:F64 now) (hl:F64 lasts):Calls Tryz.prog 77 #[.pointer (some ⟨L.sb,0,none⟩),.int .i64 oc,.float .f64 now,.float .f64 lasts] w (OpenEnds (errOf ea (lOpen S oc now lasts).2.2) (lOpen S oc now lasts).1 (lOpen S oc now lasts).2.1 w):=by
 unfold lOpen
 cases hf:lFull S with
 | true=>rw[if_pos rfl];exact lopen_full L S oc now lasts ea w hE h hG hn hl hf
 | false=>
  rw[if_neg (by simp)];by_cases hb:fdelay now=false∨fdelay lasts=false∨¬(oc=1∨oc=2)
  · rw[if_pos hb];exact lopen_bad L S oc now lasts ea w hE h hG hn hl hf hb
  · rw[if_neg hb];exact lopen_yes L S oc now lasts ea w hE h hG hn hl hf ⟨by cases hh:fdelay now with | true=>rfl | false=>exact absurd (.inl hh) hb,by cases hh:fdelay lasts with | true=>rfl | false=>exact absurd (.inr (.inl hh)) hb⟩ (Classical.byContradiction fun h=>hb (.inr (.inr h)))
end Go.Proofs.YtlkajejbfojkeaaGreatDoor
