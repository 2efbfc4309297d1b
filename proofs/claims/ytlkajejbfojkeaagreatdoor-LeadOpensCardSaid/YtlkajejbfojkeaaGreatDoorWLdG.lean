/- LdG -/
import Derived.Test.YtlkajejbfojkeaaGreatDoorWLdE
set_option linter.unusedSimpArgs false
set_option linter.unusedVariables false
set_option maxRecDepth 100000
set_option maxHeartbeats 16000000
namespace Go.Proofs.YtlkajejbfojkeaaGreatDoor
open Go.RowKit
attribute [local go_sem] store_float
theorem ltell_reg (L:SLoc) (S:Sto) (mk fr tq man maq mrg mpt mpr mco:Int) (now:Nat) (ea:Int→Addr) (w:World) (hE:EnvS ea w) (h:StoreAt L S w) (hG:StoGood S) (hn64:F64 now) (hto:tq=S.node) (h17:mk=17):Calls Tryz.prog 64 #[.pointer (some ⟨L.sb,0,none⟩),.agg #[mk,fr,tq,man,maq,mrg,mpt,mpr,mco],flV now] w (ResR (lRegister S ⟨mk,fr,tq,man,maq,mrg,mpt,mpr,mco⟩ now) w):=by
 have HND:=qq (fun W hW=>node_of L S W hW);have H:=qq h;have HE:=qq hE;have HRG:=qq (fun W h1 h2=>lregister_of L S ⟨mk,fr,tq,man,maq,mrg,mpt,mpr,mco⟩ now ea W h1 h2 hG hn64);unfold ResR at*;obtain⟨r,hr⟩:∃r,r=lRegister S ⟨mk,fr,tq,man,maq,mrg,mpt,mpr,mco⟩ now:=⟨_,rfl⟩
 rw[←hr] at HRG⊢;have dto:(tq !=S.node)=false:=by simpa using hto
 clear hto;have d17:(mk==17)=true:=by simpa using h17
 clear h17 hn64 hr;dsimp only[msgV,msgA] at HRG;clear h hE hG;go_enter Tryz.func64,Tryz.ntmps64;go_wp2_with fail;refine reg_start (fun w'=>Blk w' _ _∧Blk w' _ _∧Below w.heap.size w w') (by kernel_rfl) ⟨((Blk.fresh _ _ _ (w.heap.size) (by simp)).alloc _).drew,(Blk.fresh _ _ _ (w.heap.size+1) (by simp)).drew,(bel_drew (bel_alloc (bel_alloc (Below.refl w.heap.size w) _) _))⟩ ?_;rintro w1 hHeld
 obtain⟨K1',K2',HB'⟩:=id hHeld;have K1:=qq K1';have K2:=qq K2';have HB:=qq HB';clear K1' K2' HB';have z1:=HB.out.size;refine takeM (d:=some 11) 0 rfl rfl hHeld (fun w' _=>by go_simp;(try rfl)) ?_;simp only[puts];refine takeM (d:=some 12) 1 rfl rfl hHeld (fun w' hS'=>by have qA:=hS'.1.cell;clear hS';go_simp;(try rfl)) ?_;simp only[puts]
 refine takeM (d:=some 13) 2 rfl rfl hHeld (fun w' _=>by go_simp;(try rfl)) ?_;simp only[puts];refine one_M 3 (by kernel_rfl) ?_;refine wpOp_call (d:=some 14) 3 94 _ _ [.pointer (some ⟨L.sb,0,none⟩)] rfl rfl rfl (enters_of Tryz.func94 (by kernel_rfl) rfl) (by rfl) (by rfl) ?_;refine(HND.out _ (H.out.below HB.out)).mono ?_;rintro e w2 ⟨rfl,rfl⟩;refine ret_S hHeld (fun hHeld=> ?_);simp only[puts]
 refine takeM (d:=some 15) 4 rfl rfl hHeld (fun w' _=>by go_simp;(try rfl)) ?_;simp only[puts];refine takeM (d:=some 10) 5 rfl rfl hHeld (fun w' _=>by go_simp;(try rfl)) ?_;simp only[puts];refine doneM (by kernel_rfl) ?_ _;clear hHeld;obtain⟨lK1,qK1,fK1⟩:=K1.out;obtain⟨lK2,qK2,fK2⟩:=K2.out;go_wp2_with fail;clear qK1 fK1 lK1 qK2 fK2 lK2;have oR:=K2.out.lt
 refine(HRG.out _ (HE.out.below HB.out) (H.out.below HB.out)).mono ?_;rintro e w3 ⟨a5,c5,b5,d5,rfl,hR5,hb3⟩;have K1:=qq (K1.out.below hb3);have K2:=qq (K2.out.below hb3);have HB:=qq (below_then HB.out hb3);have z3:=HB.out.size;clear hb3;obtain⟨lK1,qK1,fK1⟩:=K1.out;obtain⟨lK2,qK2,fK2⟩:=K2.out;go_wp2_with fail
 have hV0:=(((K2.out.set' 0 (by simp) (.slice a5 r.fs.length c5)).set' 1 (by simp) (.slice b5 r.ms.length d5)).set' 2 (by simp) (.int .i64 r.wk))
 have hVq0:=hV0.cell;have hVf0:=hV0.free;refine bodyPost_ret (v:=.agg #[.slice a5 r.fs.length c5,.slice b5 r.ms.length d5,r.wk]) (by simp[results,Tryz.results64,go_sem,hVq0,hVf0]) rfl ?_;clear qK1 fK1 lK1 qK2 fK2 lK2
 exact⟨a5,c5,b5,d5,rfl,(hR5.put3 (w.heap.size+1) (by first | omega | (simp;done) | (simp;omega)) _ _ _).mono (by first | omega | (simp;done) | (simp;omega)),(bel_set (bel_set (bel_set HB.out (p:=⟨w.heap.size+1,0,none⟩) (by(try dsimp only);omega) _) (p:=⟨w.heap.size+1,1,none⟩) (by(try dsimp only);omega) _) (p:=⟨w.heap.size+1,2,none⟩) (by(try dsimp only);omega) _)⟩
end Go.Proofs.YtlkajejbfojkeaaGreatDoor
