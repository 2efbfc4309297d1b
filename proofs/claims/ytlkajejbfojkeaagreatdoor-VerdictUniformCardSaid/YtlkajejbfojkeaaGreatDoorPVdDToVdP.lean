/- VdD, VgD, RstB, To18, VdF, VdP -/
import Derived.Test.YtlkajejbfojkeaaGreatDoorPLdHToLdI
import Derived.Laws.AppendOwnNone
set_option linter.unusedSimpArgs false
set_option linter.unusedVariables false
set_option maxRecDepth 100000
set_option maxHeartbeats 16000000
namespace Go.Proofs.YtlkajejbfojkeaaGreatDoor
open Go.RowKit Go.Shelf
attribute [local go_sem] store_float
def vReady (a:SAct):Bool:=a.regs.all qReady
def vDec (closes:Bool):Int:=if closes=true then 1 else 2
def vDecide (S:Sto) (n q:Int) (closes:Bool):SRes×Int:=match lGet S n q with
 | none=>(res0,8)
 | some (_,a)=>if a.oc≠1∨a.de≠0∨(closes=true∧vReady a=false) then(res0,9)
  else(⟨fDecide n q (vDec closes)::vFs (vDec closes) a,vMs S (vDec closes) a,0⟩,0)
theorem regRow_of {w:World} {B:Nat} {T:TypeId} {v:Value} {n:Nat} {rs:List SReg} (h:w.ownsRow B T 6 v n (regsL rs)):RegRow w v rs:=by
 obtain⟨a,cap,rfl,hn,hr⟩:=reg_row h;refine⟨a,cap,by rw[hn],fun hne=> ?_⟩;obtain⟨g,h1,h2,_,h3⟩:=hr (by rw[←hn];exact List.length_pos_iff.2 hne);exact⟨g,0,h1,h2,fun j hj=>by rw[Nat.zero_add];exact h3 j _ (List.getElem?_eq_getElem hj)⟩
theorem vdecide_none (L:SLoc) (S:Sto) (na qa:Int) (cl:Bool) (ea:Int→Addr) (w:World) (hE:EnvS ea w) (h:StoreAt L S w) (hG:StoGood S) (hg:lGet S na qa=none):Calls Tryz.prog 57 #[.pointer (some ⟨L.sb,0,none⟩),.agg #[na,qa],.bool cl] w (DirEnds ea res0 8 w):=by
 have H:=qq h;have HE:=qq hE;have HF:=qq (fun W hW=>Find_no L S na qa W hW hG hg);clear hE h hG;go_enter Tryz.func57,Tryz.ntmps57;go_wp2_with fail;refine(HF.out _ (H.out.below (bel_alloc (bel_alloc (Below.refl w.heap.size w) _) _))).mono ?_;rintro e w1 ⟨rfl,hb1⟩;have K1:=qq (((Blk.fresh _ _ _ (w.heap.size) (by simp)).alloc _).below hb1)
 have K2:=qq ((Blk.fresh _ _ _ (w.heap.size+1) (by simp)).below hb1);have HB:=qq (below_then (bel_alloc (bel_alloc (Below.refl w.heap.size w) _) _) hb1);have z1:=HB.out.size;clear hb1;have o3K1:=K1.out.lt;have o3K2:=K2.out.lt;obtain⟨lK1,qK1,fK1⟩:=K1.out;obtain⟨lK2,qK2,fK2⟩:=K2.out;go_wp2_with fail;clear qK1 fK1 lK1 qK2 fK2 lK2
 refine reg_start2 (fun w'=>Below w.heap.size w w') (fun w'=>Blk w' _ _) (by kernel_rfl) ((bel_drew (bel_alloc HB.out _))) ((K2.out.alloc _).drew) ?_;rintro w2 hHeld K2';have K2:=qq K2';clear K2';obtain HB':=id hHeld;have HB:=qq HB';clear HB';have z2:=HB.out.size;refine takeM (d:=some 21) 0 rfl rfl hHeld (fun w' _=>by go_simp;(try rfl)) ?_;simp only[puts]
 refine takeM (d:=some 22) 1 rfl rfl hHeld (fun w' hS'=>by have qA:w'.cell? ⟨7,0,none⟩=some (errV (ea 8)):=HE.out.e.e8.below hS';clear hS';go_simp;(try rfl)) ?_;simp only[puts];refine one_M 2 (by kernel_rfl) ?_;obtain⟨lK2,qK2,fK2⟩:=K2.out
 refine set_M 2 (((w2.setCell ⟨w.heap.size+1,0,none⟩ (.slice none 0 0)).setCell ⟨w.heap.size+1,1,none⟩ (.slice none 0 0)).setCell ⟨w.heap.size+1,2,none⟩ (.int .i64 0)) rfl rfl (by go_simp) (bel_set (bel_set (bel_set HB.out (p:=⟨w.heap.size+1,0,none⟩) (by(try dsimp only);omega) _) (p:=⟨w.heap.size+1,1,none⟩) (by(try dsimp only);omega) _) (p:=⟨w.heap.size+1,2,none⟩) (by(try dsimp only);omega) _) (fun hHeld2=> ?_)
 clear hHeld;have hHeld:=hHeld2;clear hHeld2;clear qK2 fK2 lK2
 (try simp only[puts])
 refine takeM (d:=some 7) 3 rfl rfl hHeld (fun w' _=>by go_simp;(try rfl)) ?_;simp only[puts];refine doneM (by kernel_rfl) ?_ _;clear hHeld;obtain⟨lK2,qK2,fK2⟩:=K2.out;go_wp2_with fail;have hV0:=(((K2.out.set' 0 (by simp) (.slice none 0 0)).set' 1 (by simp) (.slice none 0 0)).set' 2 (by simp) (.int .i64 0))
 have hVq0:=hV0.cell;have hVf0:=hV0.free;refine bodyPost_ret (v:=.tuple #[.agg #[.slice none 0 0,.slice none 0 0,.int .i64 0],errV (ea 8)]) (by simp[results,Tryz.results57,go_sem,hVq0,hVf0]) rfl ?_;clear qK2 fK2 lK2
 exact⟨none,0,none,0,rfl,⟨read_nil,read_mnil,no_block,no_block⟩,(bel_set (bel_set (bel_set HB.out (p:=⟨w.heap.size+1,0,none⟩) (by(try dsimp only);omega) _) (p:=⟨w.heap.size+1,1,none⟩) (by(try dsimp only);omega) _) (p:=⟨w.heap.size+1,2,none⟩) (by(try dsimp only);omega) _)⟩
theorem vdecide_oc (L:SLoc) (S:Sto) (na qa:Int) (cl:Bool) (ea:Int→Addr) (w:World) (hE:EnvS ea w) (h:StoreAt L S w) (hG:StoGood S) (i:Nat) (a:SAct) (hg:lGet S na qa=some (i,a)) (h1:¬a.oc=1):Calls Tryz.prog 57 #[.pointer (some ⟨L.sb,0,none⟩),.agg #[na,qa],.bool cl] w (DirEnds ea res0 9 w):=by
 have H:=qq h;have HE:=qq hE;have HF:=qq (fun W hW=>Find_yes L S na qa i a W hW hG hg);have h6:a.regs.length≤1000:=by have:=(hG.act a (lGet_some hg).2.2.1).len;omega
 have HRD:=qq (fun B va vc W (hr:World.ownsRow W B 55 6 (.slice va a.regs.length vc) a.regs.length (regsL a.regs))=>vready_of a (.slice va a.regs.length vc) a.regs W (regRow_of hr) h6);obtain⟨an,aq,oc,dp,ex,pa,de,rs⟩:=a;unfold ActOut at HF;dsimp only[actC,vactV,vactC] at*;obtain⟨vn,hvn⟩:∃n,n=rs.length:=⟨_,rfl⟩
 rw[←hvn] at HF HRD;have e27:(oc !=1)=true:=by simpa using h1
 clear hE h hG hg h6 hvn h1;go_enter Tryz.func57,Tryz.ntmps57;go_wp2_with fail;refine(HF.out _ (H.out.below (bel_alloc (bel_alloc (Below.refl w.heap.size w) _) _))).mono ?_;rintro e w1 ⟨v',rfl,ho,hb1⟩;obtain⟨va,vc,rfl,hlen,hrow⟩:=reg_row ho;clear hlen hrow;have K1:=qq (((Blk.fresh _ _ _ (w.heap.size) (by simp)).alloc _).below hb1);have K2:=qq ((Blk.fresh _ _ _ (w.heap.size+1) (by simp)).below hb1)
 have HB:=qq (below_then (bel_alloc (bel_alloc (Below.refl w.heap.size w) _) _) hb1);have z1:=HB.out.size;clear hb1;have HO:=qq (ho);have o3K1:=K1.out.lt;have o3K2:=K2.out.lt;obtain⟨lK1,qK1,fK1⟩:=K1.out;obtain⟨lK2,qK2,fK2⟩:=K2.out;go_wp2_with fail;clear qK1 fK1 lK1 qK2 fK2 lK2
 refine reg_start2 (fun w'=>Below w.heap.size w w') (fun w'=>Blk w' _ _) (by kernel_rfl) ((bel_drew (bel_alloc HB.out _))) ((K2.out.alloc _).drew) ?_;rintro w2 hHeld K2';have K2:=qq K2';clear K2';obtain HB':=id hHeld;have HB:=qq HB';clear HB';have z2:=HB.out.size;refine takeM (d:=some 41) 0 rfl rfl hHeld (fun w' _=>by go_simp;(try rfl)) ?_;simp only[puts]
 refine takeM (d:=some 42) 1 rfl rfl hHeld (fun w' hS'=>by have qA:w'.cell? ⟨8,0,none⟩=some (errV (ea 9)):=HE.out.e.e9.below hS';clear hS';go_simp;(try rfl)) ?_;simp only[puts];refine one_M 2 (by kernel_rfl) ?_;obtain⟨lK2,qK2,fK2⟩:=K2.out
 refine set_M 2 (((w2.setCell ⟨w.heap.size+1,0,none⟩ (.slice none 0 0)).setCell ⟨w.heap.size+1,1,none⟩ (.slice none 0 0)).setCell ⟨w.heap.size+1,2,none⟩ (.int .i64 0)) rfl rfl (by go_simp) (bel_set (bel_set (bel_set HB.out (p:=⟨w.heap.size+1,0,none⟩) (by(try dsimp only);omega) _) (p:=⟨w.heap.size+1,1,none⟩) (by(try dsimp only);omega) _) (p:=⟨w.heap.size+1,2,none⟩) (by(try dsimp only);omega) _) (fun hHeld2=> ?_)
 clear hHeld;have hHeld:=hHeld2;clear hHeld2;clear qK2 fK2 lK2
 (try simp only[puts])
 refine takeM (d:=some 7) 3 rfl rfl hHeld (fun w' _=>by go_simp;(try rfl)) ?_;simp only[puts];refine doneM (by kernel_rfl) ?_ _;clear hHeld;obtain⟨lK2,qK2,fK2⟩:=K2.out;go_wp2_with fail;have hV0:=(((K2.out.set' 0 (by simp) (.slice none 0 0)).set' 1 (by simp) (.slice none 0 0)).set' 2 (by simp) (.int .i64 0))
 have hVq0:=hV0.cell;have hVf0:=hV0.free;refine bodyPost_ret (v:=.tuple #[.agg #[.slice none 0 0,.slice none 0 0,.int .i64 0],errV (ea 9)]) (by simp[results,Tryz.results57,go_sem,hVq0,hVf0]) rfl ?_;clear qK2 fK2 lK2
 exact⟨none,0,none,0,rfl,⟨read_nil,read_mnil,no_block,no_block⟩,(bel_set (bel_set (bel_set HB.out (p:=⟨w.heap.size+1,0,none⟩) (by(try dsimp only);omega) _) (p:=⟨w.heap.size+1,1,none⟩) (by(try dsimp only);omega) _) (p:=⟨w.heap.size+1,2,none⟩) (by(try dsimp only);omega) _)⟩
theorem vdecide_de (L:SLoc) (S:Sto) (na qa:Int) (cl:Bool) (ea:Int→Addr) (w:World) (hE:EnvS ea w) (h:StoreAt L S w) (hG:StoGood S) (i:Nat) (a:SAct) (hg:lGet S na qa=some (i,a)) (h1:a.oc=1) (h3:¬a.de=0):Calls Tryz.prog 57 #[.pointer (some ⟨L.sb,0,none⟩),.agg #[na,qa],.bool cl] w (DirEnds ea res0 9 w):=by
 have H:=qq h;have HE:=qq hE;have HF:=qq (fun W hW=>Find_yes L S na qa i a W hW hG hg);have h6:a.regs.length≤1000:=by have:=(hG.act a (lGet_some hg).2.2.1).len;omega
 have HRD:=qq (fun B va vc W (hr:World.ownsRow W B 55 6 (.slice va a.regs.length vc) a.regs.length (regsL a.regs))=>vready_of a (.slice va a.regs.length vc) a.regs W (regRow_of hr) h6);obtain⟨an,aq,oc,dp,ex,pa,de,rs⟩:=a;unfold ActOut at HF;dsimp only[actC,vactV,vactC] at*;obtain⟨vn,hvn⟩:∃n,n=rs.length:=⟨_,rfl⟩
 rw[←hvn] at HF HRD;have e27:(oc !=1)=false:=by simpa using h1
 have e31:(de !=0)=true:=by simpa using h3
 clear hE h hG hg h6 hvn h1 h3;go_enter Tryz.func57,Tryz.ntmps57;go_wp2_with fail;refine(HF.out _ (H.out.below (bel_alloc (bel_alloc (Below.refl w.heap.size w) _) _))).mono ?_;rintro e w1 ⟨v',rfl,ho,hb1⟩;obtain⟨va,vc,rfl,hlen,hrow⟩:=reg_row ho;clear hlen hrow;have K1:=qq (((Blk.fresh _ _ _ (w.heap.size) (by simp)).alloc _).below hb1)
 have K2:=qq ((Blk.fresh _ _ _ (w.heap.size+1) (by simp)).below hb1);have HB:=qq (below_then (bel_alloc (bel_alloc (Below.refl w.heap.size w) _) _) hb1);have z1:=HB.out.size;clear hb1;have HO:=qq (ho);have o3K1:=K1.out.lt;have o3K2:=K2.out.lt;obtain⟨lK1,qK1,fK1⟩:=K1.out;obtain⟨lK2,qK2,fK2⟩:=K2.out;go_wp2_with fail;clear qK1 fK1 lK1 qK2 fK2 lK2
 refine reg_start2 (fun w'=>Below w.heap.size w w') (fun w'=>Blk w' _ _) (by kernel_rfl) ((bel_drew (bel_alloc HB.out _))) ((K2.out.alloc _).drew) ?_;rintro w2 hHeld K2';have K2:=qq K2';clear K2';obtain HB':=id hHeld;have HB:=qq HB';clear HB';have z2:=HB.out.size;refine takeM (d:=some 41) 0 rfl rfl hHeld (fun w' _=>by go_simp;(try rfl)) ?_;simp only[puts]
 refine takeM (d:=some 42) 1 rfl rfl hHeld (fun w' hS'=>by have qA:w'.cell? ⟨8,0,none⟩=some (errV (ea 9)):=HE.out.e.e9.below hS';clear hS';go_simp;(try rfl)) ?_;simp only[puts];refine one_M 2 (by kernel_rfl) ?_;obtain⟨lK2,qK2,fK2⟩:=K2.out
 refine set_M 2 (((w2.setCell ⟨w.heap.size+1,0,none⟩ (.slice none 0 0)).setCell ⟨w.heap.size+1,1,none⟩ (.slice none 0 0)).setCell ⟨w.heap.size+1,2,none⟩ (.int .i64 0)) rfl rfl (by go_simp) (bel_set (bel_set (bel_set HB.out (p:=⟨w.heap.size+1,0,none⟩) (by(try dsimp only);omega) _) (p:=⟨w.heap.size+1,1,none⟩) (by(try dsimp only);omega) _) (p:=⟨w.heap.size+1,2,none⟩) (by(try dsimp only);omega) _) (fun hHeld2=> ?_)
 clear hHeld;have hHeld:=hHeld2;clear hHeld2;clear qK2 fK2 lK2
 (try simp only[puts])
 refine takeM (d:=some 7) 3 rfl rfl hHeld (fun w' _=>by go_simp;(try rfl)) ?_;simp only[puts];refine doneM (by kernel_rfl) ?_ _;clear hHeld;obtain⟨lK2,qK2,fK2⟩:=K2.out;go_wp2_with fail;have hV0:=(((K2.out.set' 0 (by simp) (.slice none 0 0)).set' 1 (by simp) (.slice none 0 0)).set' 2 (by simp) (.int .i64 0))
 have hVq0:=hV0.cell;have hVf0:=hV0.free;refine bodyPost_ret (v:=.tuple #[.agg #[.slice none 0 0,.slice none 0 0,.int .i64 0],errV (ea 9)]) (by simp[results,Tryz.results57,go_sem,hVq0,hVf0]) rfl ?_;clear qK2 fK2 lK2
 exact⟨none,0,none,0,rfl,⟨read_nil,read_mnil,no_block,no_block⟩,(bel_set (bel_set (bel_set HB.out (p:=⟨w.heap.size+1,0,none⟩) (by(try dsimp only);omega) _) (p:=⟨w.heap.size+1,1,none⟩) (by(try dsimp only);omega) _) (p:=⟨w.heap.size+1,2,none⟩) (by(try dsimp only);omega) _)⟩
theorem vdecide_unready (L:SLoc) (S:Sto) (na qa:Int) (ea:Int→Addr) (w:World) (hE:EnvS ea w) (h:StoreAt L S w) (hG:StoGood S) (i:Nat) (a:SAct) (hg:lGet S na qa=some (i,a)) (h1:a.oc=1) (h3:a.de=0) (hrd:vReady a=false):Calls Tryz.prog 57 #[.pointer (some ⟨L.sb,0,none⟩),.agg #[na,qa],.bool true] w (DirEnds ea res0 9 w):=by
 have H:=qq h;have HE:=qq hE;have HF:=qq (fun W hW=>Find_yes L S na qa i a W hW hG hg);have h6:a.regs.length≤1000:=by have:=(hG.act a (lGet_some hg).2.2.1).len;omega
 have HRD:=qq (fun B va vc W (hr:World.ownsRow W B 55 6 (.slice va a.regs.length vc) a.regs.length (regsL a.regs))=>vready_of a (.slice va a.regs.length vc) a.regs W (regRow_of hr) h6);unfold vReady at hrd;rw[hrd] at HRD;obtain⟨an,aq,oc,dp,ex,pa,de,rs⟩:=a;unfold ActOut at HF;dsimp only[actC,vactV,vactC] at*;obtain⟨vn,hvn⟩:∃n,n=rs.length:=⟨_,rfl⟩
 rw[←hvn] at HF HRD;have e27:(oc !=1)=false:=by simpa using h1
 have e31:(de !=0)=false:=by simpa using h3
 clear hE h hG hg h6 hvn h1 h3 hrd;go_enter Tryz.func57,Tryz.ntmps57;go_wp2_with fail;refine(HF.out _ (H.out.below (bel_alloc (bel_alloc (Below.refl w.heap.size w) _) _))).mono ?_;rintro e w1 ⟨v',rfl,ho,hb1⟩;obtain⟨va,vc,rfl,hlen,hrow⟩:=reg_row ho;clear hlen hrow;have K1:=qq (((Blk.fresh _ _ _ (w.heap.size) (by simp)).alloc _).below hb1)
 have K2:=qq ((Blk.fresh _ _ _ (w.heap.size+1) (by simp)).below hb1);have HB:=qq (below_then (bel_alloc (bel_alloc (Below.refl w.heap.size w) _) _) hb1);have z1:=HB.out.size;clear hb1;have HO:=qq (ho);have o3K1:=K1.out.lt;have o3K2:=K2.out.lt;obtain⟨lK1,qK1,fK1⟩:=K1.out;obtain⟨lK2,qK2,fK2⟩:=K2.out;go_wp2_with fail;clear qK1 fK1 lK1 qK2 fK2 lK2;refine(HRD.out _ _ _ _ (row_al HO.out _)).mono ?_
 rintro e w2 ⟨rfl,hb2⟩;have K2:=qq ((K2.out.alloc _).below hb2);have HO:=qq (row_be (row_al HO.out _) hb2);have K3:=qq ((Blk.fresh _ _ _ (w1.heap.size) (by simp)).below hb2);have HB:=qq (below_then (bel_alloc HB.out _) hb2);have z2:=HB.out.size;clear hb2;obtain⟨lK2,qK2,fK2⟩:=K2.out;obtain⟨lK3,qK3,fK3⟩:=K3.out;go_wp2_with fail;clear qK2 fK2 lK2 qK3 fK3 lK3
 refine reg_start2 (fun w'=>Below w.heap.size w w') (fun w'=>Blk w' _ _) (by kernel_rfl) ((bel_drew HB.out)) (K2.out.drew) ?_;rintro w3 hHeld K2';have K2:=qq K2';clear K2';obtain HB':=id hHeld;have HB:=qq HB';clear HB';have z3:=HB.out.size;refine takeM (d:=some 41) 0 rfl rfl hHeld (fun w' _=>by go_simp;(try rfl)) ?_;simp only[puts]
 refine takeM (d:=some 42) 1 rfl rfl hHeld (fun w' hS'=>by have qA:w'.cell? ⟨8,0,none⟩=some (errV (ea 9)):=HE.out.e.e9.below hS';clear hS';go_simp;(try rfl)) ?_;simp only[puts];refine one_M 2 (by kernel_rfl) ?_;obtain⟨lK2,qK2,fK2⟩:=K2.out
 refine set_M 2 (((w3.setCell ⟨w.heap.size+1,0,none⟩ (.slice none 0 0)).setCell ⟨w.heap.size+1,1,none⟩ (.slice none 0 0)).setCell ⟨w.heap.size+1,2,none⟩ (.int .i64 0)) rfl rfl (by go_simp) (bel_set (bel_set (bel_set HB.out (p:=⟨w.heap.size+1,0,none⟩) (by(try dsimp only);omega) _) (p:=⟨w.heap.size+1,1,none⟩) (by(try dsimp only);omega) _) (p:=⟨w.heap.size+1,2,none⟩) (by(try dsimp only);omega) _) (fun hHeld2=> ?_)
 clear hHeld;have hHeld:=hHeld2;clear hHeld2;clear qK2 fK2 lK2
 (try simp only[puts])
 refine takeM (d:=some 7) 3 rfl rfl hHeld (fun w' _=>by go_simp;(try rfl)) ?_;simp only[puts];refine doneM (by kernel_rfl) ?_ _;clear hHeld;obtain⟨lK2,qK2,fK2⟩:=K2.out;go_wp2_with fail;have hV0:=(((K2.out.set' 0 (by simp) (.slice none 0 0)).set' 1 (by simp) (.slice none 0 0)).set' 2 (by simp) (.int .i64 0))
 have hVq0:=hV0.cell;have hVf0:=hV0.free;refine bodyPost_ret (v:=.tuple #[.agg #[.slice none 0 0,.slice none 0 0,.int .i64 0],errV (ea 9)]) (by simp[results,Tryz.results57,go_sem,hVq0,hVf0]) rfl ?_;clear qK2 fK2 lK2
 exact⟨none,0,none,0,rfl,⟨read_nil,read_mnil,no_block,no_block⟩,(bel_set (bel_set (bel_set HB.out (p:=⟨w.heap.size+1,0,none⟩) (by(try dsimp only);omega) _) (p:=⟨w.heap.size+1,1,none⟩) (by(try dsimp only);omega) _) (p:=⟨w.heap.size+1,2,none⟩) (by(try dsimp only);omega) _)⟩
theorem vdecide_no (L:SLoc) (S:Sto) (na qa:Int) (ea:Int→Addr) (w:World) (hE:EnvS ea w) (h:StoreAt L S w) (hG:StoGood S) (i:Nat) (a:SAct) (hg:lGet S na qa=some (i,a)) (h1:a.oc=1) (h3:a.de=0):Calls Tryz.prog 57 #[.pointer (some ⟨L.sb,0,none⟩),.agg #[na,qa],.bool false] w (DirEnds ea ⟨fDecide na qa 2::vFs 2 a,vMs S 2 a,0⟩ 0 w):=by
 have H:=qq h;have hA:=hG.act a (lGet_some hg).2.2.1;obtain⟨ha1,ha2⟩:=(lGet_some hg).2.2.2;have hg':lGet S a.an a.aq=some (i,a):=by rw[ha1,ha2];exact hg
 have HC:=qq (fun(q:QLoc) (r0:SRes) va vc W hb hr hq hqf hn=>carry_of L S q r0 i a 2 ea va vc w W h hG hg' hE hb hr hq hqf hA.len hn (fun r hr=>vdo_ok (hA.reg r hr).2.2.2.2.1 (hA.reg r hr).2.2.2.2.2));have HF:=qq (fun W hW=>Find_yes L S na qa i a W hW hG hg);have h6:a.regs.length≤1000:=by have:=(hG.act a (lGet_some hg).2.2.1).len;omega
 have HRD:=qq (fun B va vc W (hr:World.ownsRow W B 55 6 (.slice va a.regs.length vc) a.regs.length (regsL a.regs))=>vready_of a (.slice va a.regs.length vc) a.regs W (regRow_of hr) h6);obtain⟨an,aq,oc,dp,ex,pa,de,rs⟩:=a;have HFS:Hid (∃n m,vFs 2 ⟨an,aq,oc,dp,ex,pa,de,rs⟩=n∧vMs S 2 ⟨an,aq,oc,dp,ex,pa,de,rs⟩=m):=qq ⟨_,_,rfl,rfl⟩;unfold ActOut at HF;dsimp only[actC,vactV,vactC] at*
 obtain⟨vn,hvn⟩:∃n,n=rs.length:=⟨_,rfl⟩
 rw[←hvn] at HF HRD HC;have e27:(oc !=1)=false:=by simpa using h1
 have e31:(de !=0)=false:=by simpa using h3
 subst ha1 ha2;have HVN:=qq hvn;clear hvn hE h hG hg hg' h6 h1 h3 hA;go_enter Tryz.func57,Tryz.ntmps57;go_wp2_with fail;refine(HF.out _ (H.out.below (by go_grown))).mono ?_;rintro e w1 ⟨v',rfl,ho,hb1⟩;obtain⟨va,vc,rfl,hlen,hrow⟩:=reg_row ho;have HB:=qq (below_then (show Below w.heap.size w _ from by go_grown) hb1)
 have K1:=qq ((Blk.fresh (w.alloc (.cells #[an,aq] 36)) #[.slice none 0 0,.slice none 0 0,.int .i64 0] 87 _ rfl).below hb1);have K0:=qq (((Blk.fresh w #[an,aq] 36 _ rfl).alloc (.cells #[.slice none 0 0,.slice none 0 0,.int .i64 0] 87)).below hb1);simp only[World.size_alloc] at K1;have hbase:∀g,va=some ⟨g,0,none⟩→w.heap.size+2≤g:=fun g hg=>by have:=(ho.lt g (by rw[hg];rfl)).1;simp at this;omega
 have HR:Hid (∀(j:Nat) (r:SReg),rs[j]? =some r→∃g,va=some ⟨g,0,none⟩∧g<w1.heap.size∧RegC w1 g (j*6) r):=qq (fun j r hj=>by
   obtain⟨g,h1,h2,_,h3⟩:=hrow (by have:=(List.getElem?_eq_some_iff.1 hj).1;have:=HVN.out;omega);exact⟨g,h1,h2,h3 j r hj⟩)
 have HO:=qq ho;have HRO:=qq (regRow_of ho);clear hb1 ho hrow hbase hlen;obtain⟨l0,q0,f0⟩:=K0.out;obtain⟨l1,q1,f1⟩:=K1.out;have zw:=HB.out.size;go_wp2_with fail
 have BC:Below w1.heap.size w1 (((w1.alloc (.cells #[an,aq,oc,dp,.float .f64 ex,pa,de,.slice va vn vc] 51)).alloc (.cells #[.int .i64 4,an,aq,.int .i64 0,.int .i64 0,.int .i64 0,.int .i64 0,.int .i64 0,.int .i64 0,.int .i64 0,.int .i64 0,.int .i64 0,.int .i64 2,.float .f64 0] 39)).alloc (.cells #[.slice (some ⟨w1.heap.size+1,0,none⟩) 1 1,.slice none 0 0,.int .i64 0] 87)):=by go_grown
 have HBC:=qq (below_then HB.out BC);have HK1:=qq (K1.out.below BC)
 have hown:(((w1.alloc (.cells #[an,aq,oc,dp,.float .f64 ex,pa,de,.slice va vn vc] 51)).alloc (.cells #[.int .i64 4,an,aq,.int .i64 0,.int .i64 0,.int .i64 0,.int .i64 0,.int .i64 0,.int .i64 0,.int .i64 0,.int .i64 0,.int .i64 0,.int .i64 2,.float .f64 0] 39)).alloc (.cells #[.slice (some ⟨w1.heap.size+1,0,none⟩) 1 1,.slice none 0 0,.int .i64 0] 87)).ownsRow 0 39 14 (.slice (some ⟨w1.heap.size+1,0,none⟩) 1 1) 1 (factsL [fDecide an aq 2]):=by
  have:=World.ownsRow_lit (base:=0) (size:=14) (e:=39) (w1.alloc (.cells #[an,aq,oc,dp,.float .f64 ex,pa,de,.slice va vn vc] 51)) #[.int .i64 4,.int .i64 an,.int .i64 aq,.int .i64 0,.int .i64 0,.int .i64 0,.int .i64 0,.int .i64 0,.int .i64 0,.int .i64 0,.int .i64 0,.int .i64 0,.int .i64 2,.float .f64 0] 1 (Nat.zero_le _) (by decide) (by rfl);simp only[World.size_alloc] at this;exact row_al this _
 refine(HC.out ⟨w1.heap.size+1+1,.slice (some ⟨w1.heap.size+1,0,none⟩) 1 1,.slice none 0 0⟩ ⟨[fDecide an aq 2],[],0⟩ va vc _ HBC.out (fun j r hj=> ?_) ⟨Blk.fresh _ _ _ _ (by simp),hown,World.ownsRow_nil _ _ _ _,by simp[Value.ownBlock],by simp[Value.ownBlock],by simp[Value.ownBlock]⟩ (by simp[QLoc.foot,Value.ownBlock];omega) (by simp)).mono ?_
 · obtain⟨g,h1,h2,h3⟩:=HR.out j r hj;exact⟨g,h1,by simp[QLoc.foot,Value.ownBlock];omega,h3.below BC h2⟩
 rintro e w3 ⟨rfl,hq⟩;have K1:=qq (show Blk w3 (w.heap.size+1) #[.slice none 0 0,.slice none 0 0,.int .i64 0] by
   obtain⟨q',_,_,hh⟩:=hq;exact hh.blk HK1.out (by simp[QLoc.foot,Value.ownBlock];omega))
 obtain⟨ra,rc,rb,rd,g1,g2,g3,g5⟩:=hq.res HBC.out (by simp[QLoc.foot,Value.ownBlock];omega);have hne:∀k,sliceBlock (.slice ra ([fDecide an aq 2] ++vFs 2 ⟨an,aq,oc,dp,ex,pa,de,rs⟩).length rc)=some k∨sliceBlock (.slice rb (vMs S 2 ⟨an,aq,oc,dp,ex,pa,de,rs⟩).length rd)=some k→k≠w.heap.size+1:=fun k hk=>by
  have h6:=(g3 k (by simpa using hk)).2;simp[QLoc.foot,Value.ownBlock] at h6;omega
 dsimp only at g1 g2;simp only[List.nil_append] at g1 g2;have HN:=qq hne;have HRR:=qq g2;have HBB:=qq g5;have hob:w.heap.size+1<w1.heap.size+1+1:=by omega
 clear q0 f0 l0 q1 f1 l1;obtain⟨l1,q1,f1⟩:=K1.out;obtain⟨l2,q2,f2⟩:=g1;obtain⟨nf,hnf⟩:∃n,n=([fDecide an aq 2] ++vFs 2 ⟨an,aq,oc,dp,ex,pa,de,rs⟩).length:=⟨_,rfl⟩
 obtain⟨nm,hnm⟩:∃n,n=(vMs S 2 ⟨an,aq,oc,dp,ex,pa,de,rs⟩).length:=⟨_,rfl⟩
 rw[←hnf,←hnm] at q2 HN;have HNF:=qq hnf;have HNM:=qq hnm;clear hq g2 g3 g5 hne HBC HK1 HC H HF hnf hnm HR hown BC;go_wp2_with fail;have hV:=(((K1.out.set' 0 (by simp) (.slice ra nf rc)).set' 1 (by simp) (.slice rb nm rd)).set' 2 (by simp) (.int .i64 0))
 have hVq:=hV.cell;have hVf:=hV.free;refine bodyPost_ret (v:=.tuple #[.agg #[.slice ra nf rc,.slice rb nm rd,.int .i64 0],.nilIface]) (by simp[results,Tryz.results57,go_sem,hVq,hVf]) rfl ?_
 have hk:∀k,k≠w.heap.size+1→((((w3.setCell ⟨w.heap.size+1,0,none⟩ (.slice ra nf rc)).setCell ⟨w.heap.size+1,1,none⟩ (.slice rb nm rd)).setCell ⟨w.heap.size+1,2,none⟩ (.int .i64 0)).heap[k]? =w3.heap[k]?):=fun k hk=>by rw[Below.heap_setCell _ _ _ _ hk,Below.heap_setCell _ _ _ _ hk,Below.heap_setCell _ _ _ _ hk]
 have hr:=HRR.out;rw[←HNF.out,←HNM.out] at hr;have e1:nf=(fDecide an aq 2::vFs 2 ⟨an,aq,oc,dp,ex,pa,de,rs⟩).length:=HNF.out;refine⟨ra,rc,rb,rd,by rw[←e1,←HNM.out];rfl,?_,bst (bst (bst HBB.out (w.heap.size+1) 0 _) (w.heap.size+1) 1 _) (w.heap.size+1) 2 _⟩;dsimp only;rw[←e1,←HNM.out]
 exact⟨hr.f.heap (by simp) (fun k h=>hk k (HN.out k (.inl h))),hr.m.heap (by simp) (fun k h=>hk k (HN.out k (.inr h))),hr.ff,hr.mf⟩
theorem vdecide_yes (L:SLoc) (S:Sto) (na qa:Int) (ea:Int→Addr) (w:World) (hE:EnvS ea w) (h:StoreAt L S w) (hG:StoGood S) (i:Nat) (a:SAct) (hg:lGet S na qa=some (i,a)) (h1:a.oc=1) (h3:a.de=0) (hrd:vReady a=true):Calls Tryz.prog 57 #[.pointer (some ⟨L.sb,0,none⟩),.agg #[na,qa],.bool true] w (DirEnds ea ⟨fDecide na qa 1::vFs 1 a,vMs S 1 a,0⟩ 0 w):=by
 have H:=qq h;have hA:=hG.act a (lGet_some hg).2.2.1;obtain⟨ha1,ha2⟩:=(lGet_some hg).2.2.2;have hg':lGet S a.an a.aq=some (i,a):=by rw[ha1,ha2];exact hg
 have HC:=qq (fun(q:QLoc) (r0:SRes) va vc W hb hr hq hqf hn=>carry_of L S q r0 i a 1 ea va vc w W h hG hg' hE hb hr hq hqf hA.len hn (fun r hr=>vdo_ok (hA.reg r hr).2.2.2.2.1 (hA.reg r hr).2.2.2.2.2));have HF:=qq (fun W hW=>Find_yes L S na qa i a W hW hG hg);have h6:a.regs.length≤1000:=by have:=(hG.act a (lGet_some hg).2.2.1).len;omega
 have HRD:=qq (fun B va vc W (hr:World.ownsRow W B 55 6 (.slice va a.regs.length vc) a.regs.length (regsL a.regs))=>vready_of a (.slice va a.regs.length vc) a.regs W (regRow_of hr) h6);unfold vReady at hrd;rw[hrd] at HRD;obtain⟨an,aq,oc,dp,ex,pa,de,rs⟩:=a;have HFS:Hid (∃n m,vFs 1 ⟨an,aq,oc,dp,ex,pa,de,rs⟩=n∧vMs S 1 ⟨an,aq,oc,dp,ex,pa,de,rs⟩=m):=qq ⟨_,_,rfl,rfl⟩;unfold ActOut at HF
 dsimp only[actC,vactV,vactC] at*;obtain⟨vn,hvn⟩:∃n,n=rs.length:=⟨_,rfl⟩
 rw[←hvn] at HF HRD HC;have e27:(oc !=1)=false:=by simpa using h1
 have e31:(de !=0)=false:=by simpa using h3
 subst ha1 ha2;have HVN:=qq hvn;clear hvn hE h hG hg hg' h6 h1 h3 hrd hA;go_enter Tryz.func57,Tryz.ntmps57;go_wp2_with fail;refine(HF.out _ (H.out.below (by go_grown))).mono ?_;rintro e w1 ⟨v',rfl,ho,hb1⟩;obtain⟨va,vc,rfl,hlen,hrow⟩:=reg_row ho;have HB:=qq (below_then (show Below w.heap.size w _ from by go_grown) hb1)
 have K1:=qq ((Blk.fresh (w.alloc (.cells #[an,aq] 36)) #[.slice none 0 0,.slice none 0 0,.int .i64 0] 87 _ rfl).below hb1);have K0:=qq (((Blk.fresh w #[an,aq] 36 _ rfl).alloc (.cells #[.slice none 0 0,.slice none 0 0,.int .i64 0] 87)).below hb1);simp only[World.size_alloc] at K1;have hbase:∀g,va=some ⟨g,0,none⟩→w.heap.size+2≤g:=fun g hg=>by have:=(ho.lt g (by rw[hg];rfl)).1;simp at this;omega
 have HR:Hid (∀(j:Nat) (r:SReg),rs[j]? =some r→∃g,va=some ⟨g,0,none⟩∧g<w1.heap.size∧RegC w1 g (j*6) r):=qq (fun j r hj=>by
   obtain⟨g,h1,h2,_,h3⟩:=hrow (by have:=(List.getElem?_eq_some_iff.1 hj).1;have:=HVN.out;omega);exact⟨g,h1,h2,h3 j r hj⟩)
 have HO:=qq ho;have HRO:=qq (regRow_of ho);clear hb1 ho hrow hbase hlen;have hal:=(Below.refl w1.heap.size w1).alloc (Nat.le_refl _) (.cells #[an,aq,oc,dp,.float .f64 ex,pa,de,.slice va vn vc] 51);have KA:=qq (Blk.fresh w1 #[an,aq,oc,dp,.float .f64 ex,pa,de,.slice va vn vc] 51 _ rfl);have HB:=qq (below_then HB.out hal);have K0:=qq (K0.out.below hal);have K1:=qq (K1.out.below hal)
 have zA:(w1.alloc (.cells #[an,aq,oc,dp,.float .f64 ex,pa,de,.slice va vn vc] 51)).heap.size=w1.heap.size+1:=by simp
 have HR:Hid (∀(j:Nat) (r:SReg),rs[j]? =some r→∃g,va=some ⟨g,0,none⟩∧g<(w1.alloc (.cells #[an,aq,oc,dp,.float .f64 ex,pa,de,.slice va vn vc] 51)).heap.size∧RegC (w1.alloc (.cells #[an,aq,oc,dp,.float .f64 ex,pa,de,.slice va vn vc] 51)) g (j*6) r):=qq (fun j r hj=>by
   obtain⟨g,h1,h2,h3⟩:=HR.out j r hj;exact⟨g,h1,by omega,h3.below hal h2⟩)
 have HRO:=qq (HRO.out.below hal);clear hal;go_wp2_with fail;refine(HRD.out _ _ _ _ (row_al HO.out _)).mono ?_;rintro e w2 ⟨rfl,hb2⟩;have HB:=qq (below_then HB.out hb2);have K0:=qq (K0.out.below hb2);have K1:=qq (K1.out.below hb2);have KA:=qq (KA.out.below hb2);have HR:Hid (∀(j:Nat) (r:SReg),rs[j]? =some r→∃g,va=some ⟨g,0,none⟩∧g<w2.heap.size∧RegC w2 g (j*6) r):=qq (fun j r hj=>by
   obtain⟨g,h1,h2,h3⟩:=HR.out j r hj;exact⟨g,h1,Nat.lt_of_lt_of_le h2 hb2.size,h3.below hb2 h2⟩)
 have zw:=HB.out.size;clear hb2 zA;obtain⟨l0,q0,f0⟩:=K0.out;obtain⟨l1,q1,f1⟩:=K1.out;obtain⟨lA,qA,fA⟩:=KA.out;go_wp2_with fail
 have BC:Below w2.heap.size w2 (((w2).alloc (.cells #[.int .i64 4,an,aq,.int .i64 0,.int .i64 0,.int .i64 0,.int .i64 0,.int .i64 0,.int .i64 0,.int .i64 0,.int .i64 0,.int .i64 0,.int .i64 1,.float .f64 0] 39)).alloc (.cells #[.slice (some ⟨w2.heap.size,0,none⟩) 1 1,.slice none 0 0,.int .i64 0] 87)):=by go_grown
 have HBC:=qq (below_then HB.out BC);have HK1:=qq (K1.out.below BC)
 have hown:(((w2).alloc (.cells #[.int .i64 4,an,aq,.int .i64 0,.int .i64 0,.int .i64 0,.int .i64 0,.int .i64 0,.int .i64 0,.int .i64 0,.int .i64 0,.int .i64 0,.int .i64 1,.float .f64 0] 39)).alloc (.cells #[.slice (some ⟨w2.heap.size,0,none⟩) 1 1,.slice none 0 0,.int .i64 0] 87)).ownsRow 0 39 14 (.slice (some ⟨w2.heap.size,0,none⟩) 1 1) 1 (factsL [fDecide an aq 1]):=by
  have:=World.ownsRow_lit (base:=0) (size:=14) (e:=39) (w2) #[.int .i64 4,.int .i64 an,.int .i64 aq,.int .i64 0,.int .i64 0,.int .i64 0,.int .i64 0,.int .i64 0,.int .i64 0,.int .i64 0,.int .i64 0,.int .i64 0,.int .i64 1,.float .f64 0] 1 (Nat.zero_le _) (by decide) (by rfl);simp only[World.size_alloc] at this;exact row_al this _
 refine(HC.out ⟨w2.heap.size+1,.slice (some ⟨w2.heap.size,0,none⟩) 1 1,.slice none 0 0⟩ ⟨[fDecide an aq 1],[],0⟩ va vc _ HBC.out (fun j r hj=> ?_) ⟨Blk.fresh _ _ _ _ (by simp),hown,World.ownsRow_nil _ _ _ _,by simp[Value.ownBlock],by simp[Value.ownBlock],by simp[Value.ownBlock]⟩ (by simp[QLoc.foot,Value.ownBlock];omega) (by simp)).mono ?_
 · obtain⟨g,h1,h2,h3⟩:=HR.out j r hj;exact⟨g,h1,by simp[QLoc.foot,Value.ownBlock];omega,h3.below BC h2⟩
 rintro e w3 ⟨rfl,hq⟩;have K1:=qq (show Blk w3 (w.heap.size+1) #[.slice none 0 0,.slice none 0 0,.int .i64 0] by
   obtain⟨q',_,_,hh⟩:=hq;exact hh.blk HK1.out (by simp[QLoc.foot,Value.ownBlock];omega))
 obtain⟨ra,rc,rb,rd,g1,g2,g3,g5⟩:=hq.res HBC.out (by simp[QLoc.foot,Value.ownBlock];omega);have hne:∀k,sliceBlock (.slice ra ([fDecide an aq 1] ++vFs 1 ⟨an,aq,oc,dp,ex,pa,de,rs⟩).length rc)=some k∨sliceBlock (.slice rb (vMs S 1 ⟨an,aq,oc,dp,ex,pa,de,rs⟩).length rd)=some k→k≠w.heap.size+1:=fun k hk=>by
  have h6:=(g3 k (by simpa using hk)).2;simp[QLoc.foot,Value.ownBlock] at h6;omega
 dsimp only at g1 g2;simp only[List.nil_append] at g1 g2;have HN:=qq hne;have HRR:=qq g2;have HBB:=qq g5;have hob:w.heap.size+1<w2.heap.size+1:=by omega
 clear q0 f0 l0 q1 f1 l1 qA fA lA;obtain⟨l1,q1,f1⟩:=K1.out;obtain⟨l2,q2,f2⟩:=g1;obtain⟨nf,hnf⟩:∃n,n=([fDecide an aq 1] ++vFs 1 ⟨an,aq,oc,dp,ex,pa,de,rs⟩).length:=⟨_,rfl⟩
 obtain⟨nm,hnm⟩:∃n,n=(vMs S 1 ⟨an,aq,oc,dp,ex,pa,de,rs⟩).length:=⟨_,rfl⟩
 rw[←hnf,←hnm] at q2 HN;have HNF:=qq hnf;have HNM:=qq hnm;clear hq g2 g3 g5 hne HBC HK1 HC H HF hnf hnm HR hown BC;go_wp2_with fail;have hV:=(((K1.out.set' 0 (by simp) (.slice ra nf rc)).set' 1 (by simp) (.slice rb nm rd)).set' 2 (by simp) (.int .i64 0))
 have hVq:=hV.cell;have hVf:=hV.free;refine bodyPost_ret (v:=.tuple #[.agg #[.slice ra nf rc,.slice rb nm rd,.int .i64 0],.nilIface]) (by simp[results,Tryz.results57,go_sem,hVq,hVf]) rfl ?_
 have hk:∀k,k≠w.heap.size+1→((((w3.setCell ⟨w.heap.size+1,0,none⟩ (.slice ra nf rc)).setCell ⟨w.heap.size+1,1,none⟩ (.slice rb nm rd)).setCell ⟨w.heap.size+1,2,none⟩ (.int .i64 0)).heap[k]? =w3.heap[k]?):=fun k hk=>by rw[Below.heap_setCell _ _ _ _ hk,Below.heap_setCell _ _ _ _ hk,Below.heap_setCell _ _ _ _ hk]
 have hr:=HRR.out;rw[←HNF.out,←HNM.out] at hr;have e1:nf=(fDecide an aq 1::vFs 1 ⟨an,aq,oc,dp,ex,pa,de,rs⟩).length:=HNF.out;refine⟨ra,rc,rb,rd,by rw[←e1,←HNM.out];rfl,?_,bst (bst (bst HBB.out (w.heap.size+1) 0 _) (w.heap.size+1) 1 _) (w.heap.size+1) 2 _⟩;dsimp only;rw[←e1,←HNM.out]
 exact⟨hr.f.heap (by simp) (fun k h=>hk k (HN.out k (.inl h))),hr.m.heap (by simp) (fun k h=>hk k (HN.out k (.inr h))),hr.ff,hr.mf⟩
open Go.RowKit
def rReady (s:SReg):Bool:=decide (s.seat.s=5) || (decide (s.seat.s=14) && decide (s.seat.h=1))
theorem all_false {ss:List SReg} {q:SReg→Bool} {k:Nat} (h:k<ss.length) (hq:q ss[k]=false):ss.all q=false:=by
 rw[List.all_eq_false];exact⟨ss[k],List.getElem_mem _,by rw[hq];decide⟩
theorem all_true {ss:List SReg} {q:SReg→Bool} (hq:∀(j:Nat) (h:j<ss.length),q ss[j]=true):ss.all q=true:=by
 rw[List.all_eq_true];intro s hs;obtain⟨j,hj,rfl⟩:=List.getElem_of_mem hs;exact hq j hj
theorem rready_of (hd:SAct) (v:Value) (ss:List SReg) (w:World) (hr:RegRow w v ss) (hl:ss.length≤1000):Calls Tryz.prog 155 #[vactV hd v] w (Makes (.bool (ss.all rReady)) w):=by
 obtain⟨a,cap,rfl,hrow⟩:=hr;have HR:=qq hrow;clear hrow;obtain⟨n,hn⟩:∃n,n=ss.length:=⟨_,rfl⟩
 rw[←hn] at hl⊢;have HN:=qq hn;clear hn;dsimp only[vactV] at*;go_enter Tryz.func155,Tryz.ntmps155;go_wp2_with fail;go_loopw [8] (fun i wr=>∃k:Nat,k≤n∧i=.int .i64 (k:Nat)∧(∀(j:Nat) (h:j<ss.length),j<k→rReady ss[j]=true)∧Below w.heap.size w wr) (fun i _=>n - (intOf i).toNat)
 case atStart=>exact⟨0,by omega,by go_num,fun j _ h=>absurd h (by omega),by go_grown⟩
 case round=>
  obtain⟨k,hk,rfl,hbe,hB⟩:=hrel;have HBE:=qq hbe;clear hbe;by_cases hlt:k<n
  · have hks:k<ss.length:=by rw[←HN.out];exact hlt
    obtain⟨b,off,rfl,hbl,hreg⟩:=HR.out (by intro e;rw[e] at hks;simp at hks);obtain⟨s,hs⟩:∃s,s=ss[k]:=⟨_,rfl⟩
    have hat:=(hreg k hks).below hB hbl;rw[←hs] at hat;obtain⟨c0,c1,c2,c3,c4,c5⟩:=hat;obtain⟨rn,rp,⟨sp,sd,st,sh⟩⟩:=s;dsimp only at c0 c1 c2 c3 c4 c5;have HS:=qq hs;clear hreg hs;have hki:(k:Int)<(n:Int):=by omega
    have hk0:(0:Int)≤(k:Int):=by omega
    have HF:=qq (fun hq=>all_false (q:=rReady) hks hq);rw[←HS.out] at HF;have HX:=qq (fun(hq:rReady ⟨rn,rp,⟨sp,sd,st,sh⟩⟩=true) (j:Nat) (h:j<ss.length) (hj:j<k+1)=>(show rReady ss[j]=true by
      rcases Nat.lt_or_eq_of_le (Nat.le_of_lt_succ hj) with h1 | h1
      · exact HBE.out j h h1
      · subst h1;rw[←HS.out];exact hq))
    go_wp2_with fail
    all_goals first
     | (go_roundw<;>first | exact⟨k+1,by omega,by go_num,HX.out (by unfold rReady;(try simp only[beq_iff_eq,beq_eq_false_iff_ne,bne_iff_ne,bne_eq_false_iff_eq,ne_eq,Bool.not_eq_true',Bool.not_eq_false'] at *);first | (simp[*];done) | (simp;omega)),below_then hB (by go_grown)⟩ | (simp[intOf];omega))
     | (go_ret;exact⟨ret_bool (by rw[HF.out (by unfold rReady;(try simp only[beq_iff_eq,beq_eq_false_iff_ne,bne_iff_ne,bne_eq_false_iff_eq,ne_eq,Bool.not_eq_true',Bool.not_eq_false'] at *);first | (simp[*];done) | (simp;omega))]),below_then hB (by go_grown)⟩)
  · obtain rfl:k=n:=by omega
    go_wp2_with fail;go_ret;exact⟨ret_bool (by rw[all_true (fun j h=>HBE.out j h (by rw[HN.out];exact h))]),hB⟩
theorem row_slice3 {w:World} {B:Nat} {e:TypeId} {size:Nat} {v:Value} {n:Nat} {xs:List Value} (h:w.ownsRow B e size v n xs):∃a m c,v=.slice a m c:=by
 obtain⟨a,cap,h⟩:=row_slice h;exact⟨a,n,cap,h⟩
theorem rfind_of (R:RLoc) (S:Sto) (n q:Int) (w:World) (h:RStoreAt R S w) (hl:S.acts.length≤8):Calls Tryz.prog 52 #[.pointer (some ⟨R.sb,0,none⟩),.agg #[n,q]] w (Makes (.int .i64 (oix (sfind S n q))) w):=by
 obtain⟨a,cap,hv,hn,hr⟩:=act_row h.len h.acts;have c2:w.cell? ⟨R.sb,2,none⟩=some (.slice a S.acts.length cap):=by rw[←hv];exact h.blk.cell 2
 have hsb:=h.blk.lt;have HR:=qq hr;have HLEN:=qq h.len;have USL:=qq (fun(i:Nat) (v:Value) (hv:R.rv[i]? =some v)=>row_slice3 (h.regs i v _ hv (List.getElem?_eq_getElem (by rw[←h.len];exact(List.getElem?_eq_some_iff.1 hv).1))));have hf:sfind S n q=S.acts.findIdx? (fun a=>decide (a.an=n∧a.aq=q)):=rfl;rw[hf];generalize S.acts=l at*;generalize R.rv=rv at*;obtain⟨m,hm⟩:∃m,m=l.length:=⟨_,rfl⟩
 rw[←hm] at c2 hl HR HLEN;have HM:=qq hm;have HB:=qq (Blk.fresh w #[n,q] 36 _ rfl);clear hm hr hn hv h hf;go_enter Tryz.func52,Tryz.ntmps52;go_wp2_with fail;go_loopw [12] (fun i wr=>∃k:Nat,k≤m∧i=.int .i64 (k:Nat)∧Hid (∀(j:Nat) (h:j<l.length),j<k→decide (l[j].an=n∧l[j].aq=q)=false)∧Hid (Blk wr w.heap.size #[n,q])∧Below w.heap.size w wr) (fun i _=>m - (intOf i).toNat)
 case atStart=>exact⟨0,by omega,by first | rfl | go_num,qq (fun j _ h=>absurd h (by omega)),HB,by go_grown⟩
 case round=>
  obtain⟨k,hk,rfl,HBE,HBr,hB⟩:=hrel;by_cases hlt:k<m
  · have hks:k<l.length:=by rw[←HM.out];exact hlt
    obtain⟨g,rfl,hg,hfz,hcell⟩:=HR.out (by omega);obtain⟨u,hu⟩:∃u,rv[k]? =some u:=⟨_,List.getElem?_eq_getElem (by rw[HLEN.out];exact hlt)⟩
    obtain⟨x,hx⟩:∃x,x=l[k]:=⟨_,rfl⟩
    have hat:=(hcell k x u (by rw[hx];exact List.getElem?_eq_getElem hks) hu).below hB hg;obtain⟨a0,a1,a2,a3,a4,a5,a6,a7⟩:=hat;have hki:(k:Int)<(m:Int):=by omega
    have hk0:(0:Int)≤(k:Int):=by omega
    have hse:=fun W=>actEq x.an x.aq n q W
    obtain⟨t,ht⟩:∃t,t=decide (x.an=n∧x.aq=q):=⟨_,rfl⟩
    rw[←ht] at hse;rw[hx] at ht;have HT:=qq ht;obtain⟨b,bf⟩:=HBr.out.out;have hzr:=HBr.out.lt;have HB2:=qq (HBr.out.alloc (.cells #[x.an,x.aq,x.oc,x.dp,.float .f64 x.ex,x.pa,x.de,u] 116));have hB2:Below w.heap.size w (wr.alloc (.cells #[x.an,x.aq,x.oc,x.dp,.float .f64 x.ex,x.pa,x.de,u] 116)):=hB.alloc hB.size _;obtain⟨ua,un,uc,hus⟩:∃ua un uc,u=.slice ua un uc:=USL.out k u hu;subst hus
    clear ht hcell hfz hx hu;obtain⟨xan,xaq,xoc,xdp,xex,xpa,xde,xrg⟩:=x;dsimp only at a0 a1 a2 a3 a4 a5 a6 a7 hse HB2 hB2
    cases t with
    | true=>
     go_wp2_with fail;go_ret;exact⟨by rw[find_hit (q:=fun a:SAct=>decide (a.an=n∧a.aq=q)) hks HBE.out HT.out.symm];rfl,hB2⟩
    | false=>
     go_wp2_with fail;go_roundw
     case rel => exact ⟨k + 1, by omega, by go_num, qq (fun j h hj => by
         rcases Nat.lt_or_eq_of_le (Nat.le_of_lt_succ hj) with h1 | h1
         · exact HBE.out j h h1
         · subst h1;exact HT.out.symm),HB2,hB2⟩
     case measure=>(simp[intOf];omega)
  · obtain rfl:k=m:=by omega
    go_wp2_with fail;go_ret;exact⟨by rw[find_miss (q:=fun a:SAct=>decide (a.an=n∧a.aq=q)) (fun j h=>HBE.out j h (by rw[HM.out];exact h))];rfl,hB⟩
theorem rchild_of (R:RLoc) (S:Sto) (pt:Int) (w:World) (h:RStoreAt R S w) (hl:S.acts.length≤8) (hp0:0≤pt) (hp1:pt≤100):Calls Tryz.prog 91 #[.pointer (some ⟨R.sb,0,none⟩),.int .i64 pt] w (Makes (.int .i64 (oix (schild S (pt+1)))) w):=by
 obtain⟨a,cap,hv,hn,hr⟩:=act_row h.len h.acts;have c2:w.cell? ⟨R.sb,2,none⟩=some (.slice a S.acts.length cap):=by rw[←hv];exact h.blk.cell 2
 have hsb:=h.blk.lt;have HR:=qq hr;have HLEN:=qq h.len;have USL:=qq (fun(i:Nat) (v:Value) (hv:R.rv[i]? =some v)=>row_slice3 (h.regs i v _ hv (List.getElem?_eq_getElem (by rw[←h.len];exact(List.getElem?_eq_some_iff.1 hv).1))));have hf:schild S (pt+1)=S.acts.findIdx? (fun a=>decide (a.pa=pt+1)):=rfl;rw[hf];generalize S.acts=l at*;generalize R.rv=rv at*;obtain⟨m,hm⟩:∃m,m=l.length:=⟨_,rfl⟩
 rw[←hm] at c2 hl HR HLEN;have HM:=qq hm;clear hm hr hn hv h hf;go_enter Tryz.func91,Tryz.ntmps91;go_wp2_with fail;go_loopw [12] (fun i wr=>∃k:Nat,k≤m∧i=.int .i64 (k:Nat)∧Hid (∀(j:Nat) (h:j<l.length),j<k→decide (l[j].pa=pt+1)=false)∧Below w.heap.size w wr) (fun i _=>m - (intOf i).toNat)
 case atStart=>exact⟨0,by omega,by first | rfl | go_num,qq (fun j _ h=>absurd h (by omega)),by go_grown⟩
 case round=>
  obtain⟨k,hk,rfl,HBE,hB⟩:=hrel;by_cases hlt:k<m
  · have hks:k<l.length:=by rw[←HM.out];exact hlt
    obtain⟨g,rfl,hg,hfz,hcell⟩:=HR.out (by omega);obtain⟨u,hu⟩:∃u,rv[k]? =some u:=⟨_,List.getElem?_eq_getElem (by rw[HLEN.out];exact hlt)⟩
    obtain⟨x,hx⟩:∃x,x=l[k]:=⟨_,rfl⟩
    have hat:=(hcell k x u (by rw[hx];exact List.getElem?_eq_getElem hks) hu).below hB hg;obtain⟨a0,a1,a2,a3,a4,a5,a6,a7⟩:=hat;have hki:(k:Int)<(m:Int):=by omega
    have hk0:(0:Int)≤(k:Int):=by omega
    obtain⟨t,ht⟩:∃t,t=decide (x.pa=pt+1):=⟨_,rfl⟩
    have hse:(x.pa==pt+1)=t:=by rw[ht];by_cases h:x.pa=pt+1<;>simp[h]
    rw[hx] at ht;have HT:=qq ht;have hB2:Below w.heap.size w (wr.alloc (.cells #[x.an,x.aq,x.oc,x.dp,.float .f64 x.ex,x.pa,x.de,u] 116)):=hB.alloc hB.size _;obtain⟨ua,un,uc,hus⟩:∃ua un uc,u=.slice ua un uc:=USL.out k u hu;subst hus;clear ht hcell hfz hx hu;obtain⟨xan,xaq,xoc,xdp,xex,xpa,xde,xrg⟩:=x;dsimp only at a0 a1 a2 a3 a4 a5 a6 a7 hse hB2
    cases t with
    | true=>
     go_wp2_with fail;go_ret;exact⟨by rw[find_hit (q:=fun a:SAct=>decide (a.pa=pt+1)) hks HBE.out HT.out.symm];rfl,hB2⟩
    | false=>
     go_wp2_with fail;go_roundw
     case rel => exact ⟨k + 1, by omega, by go_num, qq (fun j h hj => by
         rcases Nat.lt_or_eq_of_le (Nat.le_of_lt_succ hj) with h1 | h1
         · exact HBE.out j h h1
         · subst h1;exact HT.out.symm),hB2⟩
     case measure=>(simp[intOf];omega)
  · obtain rfl:k=m:=by omega
    go_wp2_with fail;go_ret;exact⟨by rw[find_miss (q:=fun a:SAct=>decide (a.pa=pt+1)) (fun j h=>HBE.out j h (by rw[HM.out];exact h))];rfl,hB⟩
theorem infoRFact18:(Tryz.prog.info? 42).map (fun i=>(i.zero,i.size,i.bytes))=some (some (.agg #[.int .i64 0,.int .i64 0,.int .i64 0,.int .i64 0,.int .i64 0,.int .i64 0,.int .i64 0,.int .i64 0,.int .i64 0,.int .i64 0,.int .i64 0,.int .i64 0,.int .i64 0,.float .f64 0]),14,112):=by kernel_rfl
theorem read_frow18 {w:World} {B:Nat} {v:Value} {fs:List SFact} (h:w.ownsRow B 42 14 v fs.length (factsL fs)):ReadFacts w v fs:=by
 obtain⟨a,cap,hv⟩:=row_slice h;subst hv;refine⟨a,cap,rfl,fun hn=> ?_⟩;obtain⟨g,cap',hv,_,_,hg,hc,_⟩:=row_form h (List.length_pos_iff.2 hn);simp only[Value.slice.injEq,true_and] at hv;obtain⟨rfl,rfl⟩:=hv;refine⟨g,0,rfl,hg,fun j hj=> ?_⟩;have hat:=fun i hi=>flat_at factL 14 factL_len fs j i hj hi
 rw[Nat.zero_add]
 exact⟨hc _ _ (hat 0 (by decide)),hc _ _ (hat 1 (by decide)),hc _ _ (hat 2 (by decide)),hc _ _ (hat 3 (by decide)),hc _ _ (hat 4 (by decide)),hc _ _ (hat 5 (by decide)),hc _ _ (hat 6 (by decide)),hc _ _ (hat 7 (by decide)),hc _ _ (hat 8 (by decide)),hc _ _ (hat 9 (by decide)),hc _ _ (hat 10 (by decide)),hc _ _ (hat 11 (by decide)),hc _ _ (hat 12 (by decide)),hc _ _ (hat 13 (by decide))⟩
theorem told18_of (a am : Option Addr) (cap lm cm : Nat) (fs : List SFact) (wk : Int) (w : World) (h : ReadFacts w (.slice a fs.length cap) fs) (hl : fs.length ≤ 1000) :
    Calls Tryz.prog 54 #[.agg #[.slice a fs.length cap,.slice am lm cm,wk]] w fun e w'=>∃c fc,e=.returned (.agg #[.slice c fs.length fc,.slice am lm cm,wk])∧ReadFacts w' (.slice c fs.length fc) fs∧Below w.heap.size w w':=by
 obtain⟨i0,ei,ez,es,eb⟩:=info_parts infoRFact18;have HR:Hid (∀k,k<fs.length→∃f,fs[k]? =some f∧∃b off,a=some ⟨b,off,none⟩∧b<w.heap.size∧FactAt w b (off+k*14) f):=qq (fun k hk=>by
   obtain⟨a',cap',hv,hr⟩:=h;obtain⟨b,off,ha,hb,hf⟩:=hr (by intro e;rw[e] at hk;simp at hk);simp only[Value.slice.injEq,true_and] at hv;exact⟨fs[k],List.getElem?_eq_getElem hk,b,off,by rw[hv.1,ha],hb,hf k hk⟩)
 clear h;obtain⟨n,hn⟩:∃n,n=fs.length:=⟨_,rfl⟩
 rw[←hn] at HR hl⊢;have HN:=qq hn;clear hn;obtain⟨W1,hW1⟩:∃W1,W1=((w.alloc (.cells #[.slice a n cap,.slice am lm cm,wk] 87)).alloc (.cells #[.slice none 0 0,.slice none 0 0,.int .i64 0] 95)):=⟨_,rfl⟩
 have HST:Hid (Below (w.heap.size+2) W1 (((w.alloc (.cells #[.slice a n cap,.slice am lm cm,wk] 87)).alloc (.cells #[.slice none 0 0,.slice none 0 0,.int .i64 0] 95)).alloc (.cells #[.slice none 0 0,.slice am lm cm,wk] 95))):=qq (by rw[hW1];exact(Below.refl _ _).alloc (by simp) _);have HWB:Hid (Below w.heap.size w W1):=qq (by rw[hW1];go_grown)
 have HRB0:Hid (Blk W1 (w.heap.size+1) #[.slice none 0 0,.slice none 0 0,.int .i64 0]):=qq (by rw[hW1];exact Blk.fresh (w.alloc (.cells #[.slice a n cap,.slice am lm cm,wk] 87)) #[.slice none 0 0,.slice none 0 0,.int .i64 0] 95 (w.heap.size+1) (by simp))
 have HPB0:Hid (Blk W1 w.heap.size #[.slice a n cap,.slice am lm cm,wk]):=qq (by rw[hW1];exact(Blk.fresh w #[.slice a n cap,.slice am lm cm,wk] 87 _ rfl).alloc _);have HZ:Hid (W1.heap.size=w.heap.size+2):=qq (by rw[hW1];simp);clear hW1;go_enter Tryz.func54,Tryz.ntmps54;go_wp2_with fail
 go_loopw [14] (fun i wr=>∃(k:Nat) (v:Value),k≤n∧i=.int .i64 (k:Nat)∧Hid (wr.ownsRow (w.heap.size+3) 42 14 v k (factsL (fs.take k)))∧Hid (Blk wr (w.heap.size+1+1) #[v,.slice am lm cm,wk])∧Hid (Below (w.heap.size+2) W1 wr)) (fun i _=>n - (intOf i).toNat)
 case atStart=>
  exact⟨0,.slice none 0 0,by omega,by first | rfl | go_num,qq (World.ownsRow_nil _ _ _ _),qq (Blk.fresh _ _ _ _ (by simp)),HST⟩
 case round=>
  obtain⟨k,v,hk,rfl,HO,HB,HW⟩:=hrel;obtain⟨av,cv,rfl⟩:=row_slice HO.out;have q:=HB.out.cell;by_cases hlt:k<n
  · obtain⟨f,hf,b,off,rfl,hbl,hat⟩:=HR.out k hlt;have BR:Below w.heap.size w wr:=HWB.out.trans (HW.out.mono (by omega));obtain⟨p0,p1,p2,p3,p4,p5,p6,p7,p8,p9,p10,p11,p12,p13⟩:=hat.below BR hbl;have hsz:=HB.out.lt;have HF:=qq hf;obtain⟨fk,fan,faq,frg,fnd,fpt,fpr,foc,fdp,fpa,fst,fhw,fde,ex⟩:=f;have qf:=HB.out.free;dsimp only at p0 p1 p2 p3 p4 p5 p6 p7 p8 p9 p10 p11 p12 p13;clear hat hf hbl BR
    go_wp2_with (at_builtin;refine wpList_append_own_at _ rfl _ _ 76 rfl (w.heap.size+3) 42 i0 (.agg #[.int .i64 0,.int .i64 0,.int .i64 0,.int .i64 0,.int .i64 0,.int .i64 0,.int .i64 0,.int .i64 0,.int .i64 0,.int .i64 0,.int .i64 0,.int .i64 0,.int .i64 0,.float .f64 0]) 14 112 Tryz.underlying76 ei ez es eb rfl (by decide) _ _ _ rfl ((HO.out.alloc _).alloc _) ⟨wr.heap.size+1,0,none⟩ 1 1 (factL ⟨fk,fan,faq,frg,fnd,fpt,fpr,foc,fdp,fpa,fst,fhw,fde,ex⟩) (by rfl) rfl (lit_cells (Blk.fresh _ _ _ _ (by simp))) (factL_one _) ?d3 ?d4 ?d5 ?_)
    case d3=>unfold maxLen;omega
    case d4=>omega
    case d5=>simp;omega
    intro v2 w3 hown hgrow _ hat;have hne:v2.ownBlock≠some (w.heap.size+1+1):=fun e=>by have:=(hown.lt _ e).1;omega
    have hne0:(Value.slice av k cv).ownBlock≠some (w.heap.size+1+1):=fun e=>by have:=(HO.out.lt _ e).1;omega
    have kB:=((HB.out.alloc (.cells #[fk,fan,faq,frg,fnd,fpt,fpr,foc,fdp,fpa,fst,fhw,fde,.float .f64 ex] 39)).alloc (.cells #[fk,fan,faq,frg,fnd,fpt,fpr,foc,fdp,fpa,fst,fhw,fde,.float .f64 ex] 42)).same hgrow.size (hgrow.block _ ((HB.out.alloc _).alloc _).lt (fun e=>hne0 e.symm));have R2:=qq (kB.set' 0 (by simp) v2)
    have R1:Hid ((w3.setCell ⟨w.heap.size+1+1,0,none⟩ v2).ownsRow (w.heap.size+3) 42 14 v2 (k+1) (factsL (fs.take (k+1)))):=qq (by
      refine row_heap ?_ (fun j hj=>Below.heap_setCell _ _ _ _ (fun e=>hne (by rw[hj,e])));have htk:fs.take (k+1)=fs.take k ++ [⟨fk,fan,faq,frg,fnd,fpt,fpr,foc,fdp,fpa,fst,fhw,fde,ex⟩]:=by
        obtain⟨hj,he⟩:=List.getElem?_eq_some_iff.1 HF.out;rw[List.take_succ_eq_append_getElem hj,he]
      rw[htk];unfold factsL at hown⊢;rw[List.flatMap_append];simpa using hown)
    have R3:Hid (Below (w.heap.size+2) W1 (w3.setCell ⟨w.heap.size+1+1,0,none⟩ v2)):=qq ((((HW.out.alloc (by omega) _).alloc (by simp;omega) _).grown hgrow (by simp;omega) (fun j hj=>by have:=(HO.out.lt _ hj).1;omega)).setCell (by simp) _);have c0:w3.cell? ⟨w.heap.size+1+1,0,none⟩=some (.slice av k cv):=kB.cell 0;have c1:=kB.free 0;obtain⟨a2,c2,rfl⟩:=row_slice hown
    clear hown hgrow hat kB q qf hne hne0;go_wp2_with fail
    all_goals (go_roundw<;>first | exact⟨k+1,_,by omega,by go_num,R1,R2,R3⟩ | (simp[intOf];omega))
  · obtain rfl:k=n:=by omega
    have HO2:=qq (show ReadFacts wr (.slice av k cv) fs by
      have:=HO.out;rw[List.take_of_length_le (by rw[←HN.out];omega)] at this;have e:=HN.out;subst e;exact read_frow18 this)
    have HRB:=qq (HRB0.out.below (by rw[HZ.out];exact HW.out));obtain⟨qr,fr⟩:=HRB.out.out;have lr:=HRB.out.lt;have BR:Below w.heap.size w wr:=HWB.out.trans (HW.out.mono (by omega));go_wp2_with fail;refine bodyPost_ret (v:=.agg #[.slice av k cv,.slice am lm cm,wk]) (by simp[results,Tryz.results54,go_sem,qr,fr,lr,Nat.ne_of_lt lr]) rfl ⟨av,cv,rfl,HO2.out.heap (by simp) ?_,by go_grown⟩;intro j hj
    have h1:=(HO.out.lt _ (slice_own HO.out _ hj)).1;have h2:j≠w.heap.size+1:=by omega
    rw[Below.heap_setCell _ _ _ _ h2,Below.heap_setCell _ _ _ _ h2,Below.heap_setCell _ _ _ _ h2]
theorem rrow_at {w W:World} {va:Option Addr} {vc:Nat} {rs:List SReg} (hRR:∀(j:Nat) (r:SReg),rs[j]? =some r→∃gr,va=some ⟨gr,0,none⟩∧∀W,Below w.heap.size w W→gr<W.heap.size∧RegC W gr (j*6) r) (hW:Below w.heap.size w W):RegRow W (.slice va rs.length vc) rs:=by
 refine⟨va,vc,rfl,fun hne=> ?_⟩;obtain⟨r,hr⟩:∃r,rs[0]? =some r:=⟨_,List.getElem?_eq_getElem (List.length_pos_iff.2 hne)⟩
 obtain⟨g,h1,h2⟩:=hRR 0 r hr;refine⟨g,0,h1,(h2 W hW).1,fun j hj=> ?_⟩;obtain⟨g2,e1,e2⟩:=hRR j _ (List.getElem?_eq_getElem hj);rw[h1] at e1;injection e1 with e1
 injection e1 with e1
 subst e1;rw[Nat.zero_add];exact(e2 W hW).2
theorem ready_eq {a:SAct} (h:∀r∈a.regs,r.seat.d=1∧mRight r.seat=true):a.regs.all rReady=vReady a:=by
 have hall:∀y∈seatList,mRight y=true→rReady ⟨0,0,y⟩=qReady ⟨0,0,y⟩:=by decide+kernel
 unfold vReady;have e:∀rs:List SReg,(∀r∈rs,r.seat.d=1∧mRight r.seat=true)→rs.all rReady=rs.all qReady:=fun rs=>by
  induction rs with
  | nil=>intro _;rfl
  | cons r t ih=>
   intro hr;have h1:=(hr r (by simp)).2;have h2:rReady r=qReady r:=hall r.seat (seat_mem h1) h1;rw[List.all_cons,List.all_cons,h2,ih (fun x hx=>hr x (List.mem_cons_of_mem _ hx))]
 exact e _ h
theorem vget_none {S:Sto} {n q:Int} (h:lGet S n q=none):sfind S n q=none:=by
 unfold lGet at h
 cases hi:sfind S n q with
 | none=>rfl
 | some j=>
  rw[hi] at h;simp only at h
  cases ha:S.acts[j]? with
  | none=>
   unfold sfind at hi;obtain⟨hj,_⟩:=List.findIdx?_eq_some_iff_getElem.1 hi;rw[List.getElem?_eq_getElem hj] at ha
   cases ha
  | some b=>rw[ha] at h;cases h
theorem rdec_none (R:RLoc) (S:Sto) (na qa:Int) (cl:Bool) (w:World) (h:RStoreAt R S w) (hG:StoGood S) (hf:sfind S na qa=none):Calls Tryz.prog 58 #[.pointer (some ⟨R.sb,0,none⟩),.agg #[na,qa],.bool cl] w (RDoEnds res0 8 w):=by
 have HF:=qq (fun W (hW:Below w.heap.size w W)=>rfind_of R S na qa W (h.below hW) hG.acts);rw[hf] at HF;dsimp only[oix] at HF;clear h hG hf;go_enter Tryz.func58,Tryz.ntmps58;go_wp2_with fail;refine(HF.out _ (bel_alloc (bel_alloc (Below.refl w.heap.size w) _) _)).mono ?_;rintro e w1 ⟨rfl,hb1⟩;have K1:=qq (((Blk.fresh _ _ _ (w.heap.size) (by simp)).alloc _).below hb1)
 have K2:=qq ((Blk.fresh _ _ _ (w.heap.size+1) (by simp)).below hb1);have HB:=qq (below_then (bel_alloc (bel_alloc (Below.refl w.heap.size w) _) _) hb1);have z1:=HB.out.size;clear hb1;obtain⟨lK1,qK1,fK1⟩:=K1.out;obtain⟨lK2,qK2,fK2⟩:=K2.out;go_wp2_with fail;have hV0:=(((K2.out.set' 0 (by simp) (.slice none 0 0)).set' 1 (by simp) (.slice none 0 0)).set' 2 (by simp) (.int .i64 0))
 have hVq0:=hV0.cell;have hVf0:=hV0.free;refine bodyPost_ret (v:=.tuple #[.agg #[.slice none 0 0,.slice none 0 0,.int .i64 0],.int .i64 8]) (by simp[results,Tryz.results58,go_sem,hVq0,hVf0]) rfl ?_;clear qK1 fK1 lK1 qK2 fK2 lK2
 exact⟨_,_,rfl,read_nil,read_mnil,(bel_set (bel_set (bel_set HB.out (p:=⟨w.heap.size+1,0,none⟩) (by(try dsimp only);omega) _) (p:=⟨w.heap.size+1,1,none⟩) (by(try dsimp only);omega) _) (p:=⟨w.heap.size+1,2,none⟩) (by(try dsimp only);omega) _)⟩
theorem rdec_oc (R:RLoc) (S:Sto) (na qa:Int) (cl:Bool) (w:World) (h:RStoreAt R S w) (hG:StoGood S) (i:Nat) (a:SAct) (hf:sfind S na qa=some i) (ha:S.acts[i]? =some a) (h1:¬a.oc=1):Calls Tryz.prog 58 #[.pointer (some ⟨R.sb,0,none⟩),.agg #[na,qa],.bool cl] w (RDoEnds res0 9 w):=by
 have HF:=qq (fun W (hW:Below w.heap.size w W)=>rfind_of R S na qa W (h.below hW) hG.acts);rw[hf] at HF;dsimp only[oix] at HF;obtain⟨g,n,cap,va,vc,hin,hn8,hv6,hQ,hRR⟩:=ract_at h hG ha;have hi0:(0:Int)≤(i:Int):=by omega
 have hi1:(i:Int)<(n:Int):=by omega
 have hi00:¬(i:Int)<0:=by omega
 obtain⟨nd,hnd⟩:∃nd,nd=S.node:=⟨_,rfl⟩
 rw[←hnd] at hQ;obtain⟨an,aq,oc,dp,ex,pa,de,rs⟩:=a;unfold ActC at hQ;dsimp only[vactV,vactC] at*;obtain⟨vn,hvn⟩:∃n,n=rs.length:=⟨_,rfl⟩
 rw[←hvn] at hQ;have HQ:=qq hQ;have e28:(oc !=1)=true:=by simpa using h1
 clear hG hQ hRR hvn hnd hin hn8 hv6 h hf ha h1;go_enter Tryz.func58,Tryz.ntmps58;obtain⟨xl,gl,xn,xa,a0,a1,a2,a3,a4,a5,a6,a7⟩:=HQ.out _ (Below.refl _ _);go_wp2_with fail;clear xl gl xn xa a0 a1 a2 a3 a4 a5 a6 a7;refine(HF.out _ (bel_alloc (bel_alloc (Below.refl w.heap.size w) _) _)).mono ?_;rintro e w1 ⟨rfl,hb1⟩;have K1:=qq (((Blk.fresh _ _ _ (w.heap.size) (by simp)).alloc _).below hb1)
 have K2:=qq ((Blk.fresh _ _ _ (w.heap.size+1) (by simp)).below hb1);have HB:=qq (below_then (bel_alloc (bel_alloc (Below.refl w.heap.size w) _) _) hb1);have z1:=HB.out.size;clear hb1;have o3K1:=K1.out.lt;have o3K2:=K2.out.lt;obtain⟨xl,gl,xn,xa,a0,a1,a2,a3,a4,a5,a6,a7⟩:=HQ.out _ HB.out;obtain⟨lK1,qK1,fK1⟩:=K1.out;obtain⟨lK2,qK2,fK2⟩:=K2.out;go_wp2_with fail
 have hV0:=((((K2.out.set' 0 (by simp) (.slice none 0 0)).set' 1 (by simp) (.slice none 0 0)).set' 2 (by simp) (.int .i64 0)).alloc (.cells #[an,aq,oc,dp,.float .f64 ex,pa,de,.slice va vn vc] 116))
 have hVq0:=hV0.cell;have hVf0:=hV0.free;refine bodyPost_ret (v:=.tuple #[.agg #[.slice none 0 0,.slice none 0 0,.int .i64 0],.int .i64 9]) (by simp[results,Tryz.results58,go_sem,hVq0,hVf0]) rfl ?_;clear qK1 fK1 lK1 qK2 fK2 lK2 xl gl xn xa a0 a1 a2 a3 a4 a5 a6 a7
 exact⟨_,_,rfl,read_nil,read_mnil,(bel_alloc (bel_set (bel_set (bel_set HB.out (p:=⟨w.heap.size+1,0,none⟩) (by(try dsimp only);omega) _) (p:=⟨w.heap.size+1,1,none⟩) (by(try dsimp only);omega) _) (p:=⟨w.heap.size+1,2,none⟩) (by(try dsimp only);omega) _) _)⟩
theorem rdec_de (R:RLoc) (S:Sto) (na qa:Int) (cl:Bool) (w:World) (h:RStoreAt R S w) (hG:StoGood S) (i:Nat) (a:SAct) (hf:sfind S na qa=some i) (ha:S.acts[i]? =some a) (h1:a.oc=1) (h3:¬a.de=0):Calls Tryz.prog 58 #[.pointer (some ⟨R.sb,0,none⟩),.agg #[na,qa],.bool cl] w (RDoEnds res0 9 w):=by
 have HF:=qq (fun W (hW:Below w.heap.size w W)=>rfind_of R S na qa W (h.below hW) hG.acts);rw[hf] at HF;dsimp only[oix] at HF;obtain⟨g,n,cap,va,vc,hin,hn8,hv6,hQ,hRR⟩:=ract_at h hG ha;have hi0:(0:Int)≤(i:Int):=by omega
 have hi1:(i:Int)<(n:Int):=by omega
 have hi00:¬(i:Int)<0:=by omega
 obtain⟨nd,hnd⟩:∃nd,nd=S.node:=⟨_,rfl⟩
 rw[←hnd] at hQ;obtain⟨an,aq,oc,dp,ex,pa,de,rs⟩:=a;unfold ActC at hQ;dsimp only[vactV,vactC] at*;obtain⟨vn,hvn⟩:∃n,n=rs.length:=⟨_,rfl⟩
 rw[←hvn] at hQ;have HQ:=qq hQ;have e28:(oc !=1)=false:=by simpa using h1
 have e32:(de !=0)=true:=by simpa using h3
 clear hG hQ hRR hvn hnd hin hn8 hv6 h hf ha h1 h3;go_enter Tryz.func58,Tryz.ntmps58;obtain⟨xl,gl,xn,xa,a0,a1,a2,a3,a4,a5,a6,a7⟩:=HQ.out _ (Below.refl _ _);go_wp2_with fail;clear xl gl xn xa a0 a1 a2 a3 a4 a5 a6 a7;refine(HF.out _ (bel_alloc (bel_alloc (Below.refl w.heap.size w) _) _)).mono ?_;rintro e w1 ⟨rfl,hb1⟩;have K1:=qq (((Blk.fresh _ _ _ (w.heap.size) (by simp)).alloc _).below hb1)
 have K2:=qq ((Blk.fresh _ _ _ (w.heap.size+1) (by simp)).below hb1);have HB:=qq (below_then (bel_alloc (bel_alloc (Below.refl w.heap.size w) _) _) hb1);have z1:=HB.out.size;clear hb1;have o3K1:=K1.out.lt;have o3K2:=K2.out.lt;obtain⟨xl,gl,xn,xa,a0,a1,a2,a3,a4,a5,a6,a7⟩:=HQ.out _ HB.out;obtain⟨lK1,qK1,fK1⟩:=K1.out;obtain⟨lK2,qK2,fK2⟩:=K2.out;go_wp2_with fail
 have hV0:=((((K2.out.set' 0 (by simp) (.slice none 0 0)).set' 1 (by simp) (.slice none 0 0)).set' 2 (by simp) (.int .i64 0)).alloc (.cells #[an,aq,oc,dp,.float .f64 ex,pa,de,.slice va vn vc] 116))
 have hVq0:=hV0.cell;have hVf0:=hV0.free;refine bodyPost_ret (v:=.tuple #[.agg #[.slice none 0 0,.slice none 0 0,.int .i64 0],.int .i64 9]) (by simp[results,Tryz.results58,go_sem,hVq0,hVf0]) rfl ?_;clear qK1 fK1 lK1 qK2 fK2 lK2 xl gl xn xa a0 a1 a2 a3 a4 a5 a6 a7
 exact⟨_,_,rfl,read_nil,read_mnil,(bel_alloc (bel_set (bel_set (bel_set HB.out (p:=⟨w.heap.size+1,0,none⟩) (by(try dsimp only);omega) _) (p:=⟨w.heap.size+1,1,none⟩) (by(try dsimp only);omega) _) (p:=⟨w.heap.size+1,2,none⟩) (by(try dsimp only);omega) _) _)⟩
theorem rdec_unready (R:RLoc) (S:Sto) (na qa:Int) (w:World) (h:RStoreAt R S w) (hG:StoGood S) (i:Nat) (a:SAct) (hf:sfind S na qa=some i) (ha:S.acts[i]? =some a) (h1:a.oc=1) (h3:a.de=0) (hrd:vReady a=false):Calls Tryz.prog 58 #[.pointer (some ⟨R.sb,0,none⟩),.agg #[na,qa],.bool true] w (RDoEnds res0 9 w):=by
 have HF:=qq (fun W (hW:Below w.heap.size w W)=>rfind_of R S na qa W (h.below hW) hG.acts);rw[hf] at HF;dsimp only[oix] at HF;obtain⟨g,n,cap,va,vc,hin,hn8,hv6,hQ,hRR⟩:=ract_at h hG ha;have hi0:(0:Int)≤(i:Int):=by omega
 have hi1:(i:Int)<(n:Int):=by omega
 have hi00:¬(i:Int)<0:=by omega
 have HRD:=qq (fun W hW=>rready_of a (.slice va a.regs.length vc) a.regs W (rrow_at hRR hW) (by omega));rw[ready_eq (fun r hr=>⟨((hG.act a (List.mem_of_getElem? ha)).reg r hr).2.2.2.2.1,((hG.act a (List.mem_of_getElem? ha)).reg r hr).2.2.2.2.2⟩),hrd] at HRD;obtain⟨nd,hnd⟩:∃nd,nd=S.node:=⟨_,rfl⟩
 rw[←hnd] at hQ;obtain⟨an,aq,oc,dp,ex,pa,de,rs⟩:=a;unfold ActC at hQ;dsimp only[vactV,vactC] at*;obtain⟨vn,hvn⟩:∃n,n=rs.length:=⟨_,rfl⟩
 rw[←hvn] at hQ HRD;have HQ:=qq hQ;have e28:(oc !=1)=false:=by simpa using h1
 have e32:(de !=0)=false:=by simpa using h3
 clear hG hQ hRR hvn hnd hin hn8 hv6 h hf ha h1 h3 hrd;go_enter Tryz.func58,Tryz.ntmps58;obtain⟨xl,gl,xn,xa,a0,a1,a2,a3,a4,a5,a6,a7⟩:=HQ.out _ (Below.refl _ _);go_wp2_with fail;clear xl gl xn xa a0 a1 a2 a3 a4 a5 a6 a7;refine(HF.out _ (bel_alloc (bel_alloc (Below.refl w.heap.size w) _) _)).mono ?_;rintro e w1 ⟨rfl,hb1⟩;have K1:=qq (((Blk.fresh _ _ _ (w.heap.size) (by simp)).alloc _).below hb1)
 have K2:=qq ((Blk.fresh _ _ _ (w.heap.size+1) (by simp)).below hb1);have HB:=qq (below_then (bel_alloc (bel_alloc (Below.refl w.heap.size w) _) _) hb1);have z1:=HB.out.size;clear hb1;have o3K1:=K1.out.lt;have o3K2:=K2.out.lt;obtain⟨xl,gl,xn,xa,a0,a1,a2,a3,a4,a5,a6,a7⟩:=HQ.out _ HB.out;obtain⟨lK1,qK1,fK1⟩:=K1.out;obtain⟨lK2,qK2,fK2⟩:=K2.out;go_wp2_with fail
 clear qK1 fK1 lK1 qK2 fK2 lK2 xl gl xn xa a0 a1 a2 a3 a4 a5 a6 a7;refine(HRD.out _ (bel_alloc HB.out _)).mono ?_;rintro e w2 ⟨rfl,hb2⟩;have K2:=qq ((K2.out.alloc _).below hb2);have K3:=qq ((Blk.fresh _ _ _ (w1.heap.size) (by simp)).below hb2);have HB:=qq (below_then (bel_alloc HB.out _) hb2);have z2:=HB.out.size;clear hb2;obtain⟨xl,gl,xn,xa,a0,a1,a2,a3,a4,a5,a6,a7⟩:=HQ.out _ HB.out
 obtain⟨lK2,qK2,fK2⟩:=K2.out;obtain⟨lK3,qK3,fK3⟩:=K3.out;go_wp2_with fail;have hV0:=(((K2.out.set' 0 (by simp) (.slice none 0 0)).set' 1 (by simp) (.slice none 0 0)).set' 2 (by simp) (.int .i64 0))
 have hVq0:=hV0.cell;have hVf0:=hV0.free;refine bodyPost_ret (v:=.tuple #[.agg #[.slice none 0 0,.slice none 0 0,.int .i64 0],.int .i64 9]) (by simp[results,Tryz.results58,go_sem,hVq0,hVf0]) rfl ?_;clear qK2 fK2 lK2 qK3 fK3 lK3 xl gl xn xa a0 a1 a2 a3 a4 a5 a6 a7
 exact⟨_,_,rfl,read_nil,read_mnil,(bel_set (bel_set (bel_set HB.out (p:=⟨w.heap.size+1,0,none⟩) (by(try dsimp only);omega) _) (p:=⟨w.heap.size+1,1,none⟩) (by(try dsimp only);omega) _) (p:=⟨w.heap.size+1,2,none⟩) (by(try dsimp only);omega) _)⟩
theorem append_none_w {P : Program} {w : World} {ops : Array Oper} {rest : List Oper} {o : Oper} {a : Act} {Q : Exit → Act → World → Prop} (hgd : o.guard = none) (s x : Operand) (t : TypeId)
    (ho:o.op=.call {callee:=.builtin .append,args:= #[s,x],argTypes:= #[t,t]})
    (base:Nat) (e:TypeId) (i:TypeInfo) (size:Nat) (ht:P.underlying t=some (.slice e)) (hi:P.info? e=some i)
    (v:Value) (n:Nat) (xs:List Value) (hs:a.eval s=v) (hown:w.ownsRow base e size v n xs) (hx:a.eval x=.slice none 0 0)
    (h:∀w',w'=w→wpList P ops Q rest (a.put o.dst v) w'):wpList P ops Q (o::rest) a w:=
 wpList_append_own_none hgd s x t ho base e i size ht hi v n xs hs hown hx (h w rfl)
theorem row_base0 {w:World} {B:Nat} {T:TypeId} {size:Nat} {v:Value} {n:Nat} {xs:List Value} (h:w.ownsRow B T size v n xs):w.ownsRow 0 T size v n xs:=by
 refine⟨h.1,?_⟩;rcases h.2 with h | ⟨g,cap,cur,h1,h2,h3,h4⟩
 · exact .inl h
 · exact .inr ⟨g,cap,cur,h1,by first | exact Nat.zero_le _ | exact⟨Nat.zero_le _,h2.2⟩ | exact h2,h3,h4⟩
theorem rdec_no (R:RLoc) (S:Sto) (na qa:Int) (w:World) (h:RStoreAt R S w) (hG:StoGood S) (i:Nat) (a:SAct) (hf:sfind S na qa=some i) (ha:S.acts[i]? =some a) (h1:a.oc=1) (h3:a.de=0):Calls Tryz.prog 58 #[.pointer (some ⟨R.sb,0,none⟩),.agg #[na,qa],.bool false] w (RDoEnds ⟨fDecide na qa 2::vFs 2 a,vMs S 2 a,0⟩ 0 w):=by
 have HF:=qq (fun W (hW:Below w.heap.size w W)=>rfind_of R S na qa W (h.below hW) hG.acts);rw[hf] at HF;dsimp only[oix] at HF;obtain⟨g,n,cap,va,vc,hin,hn8,hv6,hQ,hRR⟩:=ract_at h hG ha;have hi0:(0:Int)≤(i:Int):=by omega
 have hi1:(i:Int)<(n:Int):=by omega
 have hi00:¬(i:Int)<0:=by omega
 have HC:=qq (fun W (hW:Below w.heap.size w W)=>rcarry18_of R S i a 2 W (h.below hW) hG ha);obtain⟨fs,hfs⟩:∃fs,fs=vFs 2 a:=⟨_,rfl⟩
 obtain⟨ms,hms⟩:∃ms,ms=vMs S 2 a:=⟨_,rfl⟩
 rw[←hfs,←hms] at HC⊢;have hl6:fs.length≤6:=by rw[hfs];unfold vFs;rw[List.length_map];exact Nat.le_trans vDirsN_len hv6
 clear hfs hms;obtain⟨nd,hnd⟩:∃nd,nd=S.node:=⟨_,rfl⟩
 rw[←hnd] at hQ;obtain⟨an,aq,oc,dp,ex,pa,de,rs⟩:=a;unfold ActC at hQ;dsimp only[vactV,vactC] at*;obtain⟨vn,hvn⟩:∃n,n=rs.length:=⟨_,rfl⟩
 rw[←hvn] at hQ;have HQ:=qq hQ;have e28:(oc !=1)=false:=by simpa using h1
 have e32:(de !=0)=false:=by simpa using h3
 clear hG hQ hRR hvn hnd hin hn8 hv6 h hf ha h1 h3;go_enter Tryz.func58,Tryz.ntmps58;go_wp2_with fail;refine(HF.out _ (by go_grown)).mono ?_;rintro e w1 ⟨rfl,hb1⟩;have HB:=qq (below_then (show Below w.heap.size w _ from by go_grown) hb1);have K0:=qq (((Blk.fresh w #[na,qa] 36 _ rfl).alloc (.cells #[.slice none 0 0,.slice none 0 0,.int .i64 0] 95)).below hb1)
 have K1:=qq ((Blk.fresh (w.alloc (.cells #[na,qa] 36)) #[.slice none 0 0,.slice none 0 0,.int .i64 0] 95 _ rfl).below hb1);simp only[World.size_alloc] at K1;have l0:=K0.out.lt;have l1:=K1.out.lt;clear hb1 HF;obtain⟨xl,gl,xn,xa,a0,a1,a2,a3,a4,a5,a6,a7⟩:=HQ.out _ HB.out;go_wp2_with fail
 have hal:=(Below.refl w1.heap.size w1).alloc (Nat.le_refl _) (.cells #[an,aq,oc,dp,.float .f64 ex,pa,de,.slice va vn vc] 116);have HB:=qq (below_then HB.out hal);have K0:=qq (K0.out.below hal);have K1:=qq (K1.out.below hal);clear xl gl xn xa a0 a1 a2 a3 a4 a5 a6 a7 HQ;obtain⟨w2,hw2⟩:∃w2,w2=w1.alloc (.cells #[an,aq,oc,dp,.float .f64 ex,pa,de,.slice va vn vc] 116):=⟨_,rfl⟩
 rw[←hw2] at HB K0 K1 hal⊢;have zw:=hal.size;clear hal hw2;refine(HC.out _ HB.out).mono ?_;rintro e w3 ⟨fa,fc,ma,mc,rfl,hfr,hmr,hne,hb3⟩;have HB3:=qq (below_then HB.out hb3);have K0:=qq (K0.out.below hb3);have K1:=qq (K1.out.below hb3);have z3:=hb3.size;have HFR:=qq hfr;have HMR:=qq hmr
 have HEF:Hid (∀(W:World) v,W.ownsRow 0 42 14 v (fs.length+1) (factL (fDecide na qa 2) ++factsL fs)→ReadFacts W v (fDecide na qa 2::fs)):=qq (fun W v hv=>read_frow18 hv);have HEM:Hid (∀(W:World),W.ownsRow (w2.heap.size+2) 81 9 (.slice ma ms.length mc) ms.length (msgsL ms)→ReadMsgs W (.slice ma ms.length mc) ms):=qq (fun W hv=>read_mrow hv)
 have HEX:Hid (∀fv (W:World),ReadFacts W fv (fDecide na qa 2::fs)→ReadMsgs W (.slice ma ms.length mc) ms→Below w.heap.size w W→RDoEnds ⟨fDecide na qa 2::fs,ms,0⟩ 0 w (.returned (.tuple #[.agg #[fv,.slice ma ms.length mc,.int .i64 0],.int .i64 0])) W):=qq (fun fv W h1 h2 h3=>⟨_,_,rfl,h1,h2,h3⟩);obtain⟨nf,hnf⟩:∃n,n=fs.length:=⟨_,rfl⟩
 obtain⟨nm,hnm⟩:∃n,n=ms.length:=⟨_,rfl⟩
 rw[←hnf] at HFR HEF hl6;rw[←hnm] at HMR HEM HEX;rw[←hnf,←hnm];have B4:=(Below.refl w3.heap.size w3).alloc (Nat.le_refl _) (.cells #[.slice fa nf fc,.slice ma nm mc,.int .i64 0] 95);have B5:=B4.alloc (by simp) (.cells #[.int .i64 4,na,qa,.int .i64 0,.int .i64 0,.int .i64 0,.int .i64 0,.int .i64 0,.int .i64 0,.int .i64 0,.int .i64 0,.int .i64 0,.int .i64 2,.float .f64 0] 42)
 have K0':=qq (K0.out.below B4);have K1':=qq (K1.out.below B5);have KO:=qq ((Blk.fresh w3 #[.slice fa nf fc,.slice ma nm mc,.int .i64 0] 95 _ rfl).alloc (.cells #[.int .i64 4,na,qa,.int .i64 0,.int .i64 0,.int .i64 0,.int .i64 0,.int .i64 0,.int .i64 0,.int .i64 0,.int .i64 0,.int .i64 0,.int .i64 2,.float .f64 0] 42))
 have KF:=qq (Blk.fresh (w3.alloc (.cells #[.slice fa nf fc,.slice ma nm mc,.int .i64 0] 95)) #[.int .i64 4,.int .i64 na,.int .i64 qa,.int .i64 0,.int .i64 0,.int .i64 0,.int .i64 0,.int .i64 0,.int .i64 0,.int .i64 0,.int .i64 0,.int .i64 0,.int .i64 2,.float .f64 0] 42 _ rfl)
 have HL:=qq (World.ownsRow_lit (base:=w3.heap.size+1) (size:=14) (e:=42) (w3.alloc (.cells #[.slice fa nf fc,.slice ma nm mc,.int .i64 0] 95)) #[.int .i64 4,.int .i64 na,.int .i64 qa,.int .i64 0,.int .i64 0,.int .i64 0,.int .i64 0,.int .i64 0,.int .i64 0,.int .i64 0,.int .i64 0,.int .i64 0,.int .i64 2,.float .f64 0] 1 (by simp) (by decide) (by rfl));simp only[World.size_alloc] at KF HL
 have HB5:=qq (below_then HB3.out B5);have HFR5:=qq (row_al (row_al HFR.out (.cells #[.slice fa nf fc,.slice ma nm mc,.int .i64 0] 95)) (.cells #[.int .i64 4,na,qa,.int .i64 0,.int .i64 0,.int .i64 0,.int .i64 0,.int .i64 0,.int .i64 0,.int .i64 0,.int .i64 0,.int .i64 0,.int .i64 2,.float .f64 0] 42))
 have HMR5:=qq (row_al (row_al HMR.out (.cells #[.slice fa nf fc,.slice ma nm mc,.int .i64 0] 95)) (.cells #[.int .i64 4,na,qa,.int .i64 0,.int .i64 0,.int .i64 0,.int .i64 0,.int .i64 0,.int .i64 0,.int .i64 0,.int .i64 0,.int .i64 0,.int .i64 2,.float .f64 0] 42));have hmk:∀j,(Value.slice ma nm mc).ownBlock=some j→w2.heap.size+2≤j∧j<w3.heap.size:=fun j e=>HMR.out.lt j e
 have hzz:=HB.out.size;obtain⟨i0,ei,ez,es,ebb⟩:=info_parts infoRFact;obtain⟨l0,q0,f0⟩:=K0'.out;obtain⟨l1,q1,f1⟩:=K1.out;have hl2:w.heap.size<w3.heap.size:=by omega
 have hl3:w.heap.size+1<w3.heap.size+1:=by omega
 have hl4:w.heap.size≠w3.heap.size:=by omega
 have hf2:=HFR.out.2;clear hfr hmr hne B4 B5 HC K0' hnf hnm;rcases hf2 with⟨hv,hx0⟩ | ⟨g,cap,cur,hv,hrest⟩
 · injection hv with e1 e2 e3
   subst e1 e2 e3;have hfs:fs=[]:=by
    cases fs with
    | nil=>rfl
    | cons f t=>have:=HFR.out.1;simp[factsL,factL] at this
   subst hfs;clear hx0;go_wp2_with (at_builtin;refine append_none_w rfl _ _ 76 rfl (w3.heap.size+1) 42 i0 14 Tryz.underlying76 ei _ 1 _ rfl HL.out rfl ?_)
   have hV:=(((K1.out.set' 0 (by simp) (Value.slice (some ⟨w3.heap.size+1,0,none⟩) 1 1)).set' 1 (by simp) (.slice ma nm mc)).set' 2 (by simp) (.int .i64 0)).alloc (.cells #[.slice (some ⟨w3.heap.size+1,0,none⟩) 1 1,.slice ma nm mc,.int .i64 0] 95) |>.alloc (.cells #[.int .i64 4,na,qa,.int .i64 0,.int .i64 0,.int .i64 0,.int .i64 0,.int .i64 0,.int .i64 0,.int .i64 0,.int .i64 0,.int .i64 0,.int .i64 2,.float .f64 0] 42)
   have hVq:=hV.cell;have hVf:=hV.free;refine bodyPost_ret (v:=.tuple #[.agg #[Value.slice (some ⟨w3.heap.size+1,0,none⟩) 1 1,.slice ma nm mc,.int .i64 0],.int .i64 0]) (by simp[results,Tryz.results58,go_sem,hVq,hVf]) rfl ?_
   have hk:∀k,k≠w.heap.size+1→(((w3.setCell ⟨w.heap.size+1,0,none⟩ (.slice (some ⟨w3.heap.size+1,0,none⟩) 1 1)).setCell ⟨w.heap.size+1,1,none⟩ (.slice ma nm mc)).setCell ⟨w.heap.size+1,2,none⟩ (.int .i64 0)).heap[k]? =w3.heap[k]? :=fun k h2=>by rw[Below.heap_setCell _ _ _ _ h2,Below.heap_setCell _ _ _ _ h2,Below.heap_setCell _ _ _ _ h2]
   have hrow:=World.ownsRow_lit (base:=0) (size:=14) (e:=42) ((((w3.setCell ⟨w.heap.size+1,0,none⟩ (.slice (some ⟨w3.heap.size+1,0,none⟩) 1 1)).setCell ⟨w.heap.size+1,1,none⟩ (.slice ma nm mc)).setCell ⟨w.heap.size+1,2,none⟩ (.int .i64 0)).alloc (.cells #[.slice (some ⟨w3.heap.size+1,0,none⟩) 1 1,.slice ma nm mc,.int .i64 0] 95)) #[.int .i64 4,.int .i64 na,.int .i64 qa,.int .i64 0,.int .i64 0,.int .i64 0,.int .i64 0,.int .i64 0,.int .i64 0,.int .i64 0,.int .i64 0,.int .i64 0,.int .i64 2,.float .f64 0] 1 (Nat.zero_le _) (by decide) (by rfl)
   simp only[World.size_alloc,World.size_setCell] at hrow;exact HEX.out _ _ (HEF.out _ _ hrow) (HEM.out _ (row_al (row_al (row_heap HMR.out (fun k h=>hk k (by have:=hmk k h;omega))) _) _)) (bel_alloc (bel_alloc (bst (bst (bst HB3.out (w.heap.size+1) 0 _) (w.heap.size+1) 1 _) (w.heap.size+1) 2 _) _) _)
 · simp only[Value.slice.injEq,true_and] at hv;obtain⟨rfl,rfl⟩:=hv;have hnews:=HFR5.out.cells (g:=g) rfl;have HNW:=qq hnews;clear hnews hrest
   go_wp2_with (at_builtin;refine wpList_append_own_at _ rfl _ _ 76 rfl (w3.heap.size+1) 42 i0 (.agg #[.int .i64 0,.int .i64 0,.int .i64 0,.int .i64 0,.int .i64 0,.int .i64 0,.int .i64 0,.int .i64 0,.int .i64 0,.int .i64 0,.int .i64 0,.int .i64 0,.int .i64 0,.float .f64 0]) 14 112 Tryz.underlying76 ei ez es ebb rfl (by decide) _ 1 _ rfl HL.out ⟨g,0,none⟩ nf fc (factsL fs) rfl ?d2 HNW.out ?d6 ?d3 ?d4 ?d5 ?_)
   case d2=>exact HFR.out.1
   case d6=>intro u hu;obtain⟨f,_,hf⟩:=List.mem_flatMap.1 hu;exact factL_one f u hf
   case d3=>unfold maxLen;omega
   case d4=>omega
   case d5=>simp
   intro v2 w6 hown hgrow _ hat;have HV2:Hid (∀j,v2.ownBlock=some j→w3.heap.size+1≤j):=qq (fun j e=>(hown.lt j e).1);have HOWN:=qq (show w6.ownsRow 0 42 14 v2 (nf+1) (factL (fDecide na qa 2) ++factsL fs) from row_base0 (by rw[Nat.add_comm];exact hown));have hlb:(Value.slice (some ⟨w3.heap.size+1,0,none⟩) 1 1).ownBlock=some (w3.heap.size+1):=rfl;rw[hlb] at hgrow
   have kO:Blk w6 w3.heap.size #[.slice (some ⟨g,0,none⟩) nf fc,.slice ma nm mc,.int .i64 0]:=KO.out.same hgrow.size (hgrow.block _ KO.out.lt (fun e=>by injection e with e;omega));have kR:Blk w6 (w.heap.size+1) #[.slice none 0 0,.slice none 0 0,.int .i64 0]:=K1'.out.same hgrow.size (hgrow.block _ K1'.out.lt (fun e=>by injection e with e;omega));have kR2:=kR
   have HM6x:=row_heap HMR5.out (fun j e=>hgrow.block j (HMR5.out.lt j e).2 (fun e2=>by have:=hmk j e;injection e2 with e2;omega));have HB6:=qq (HB5.out.grown hgrow HB5.out.size (fun j e=>by injection e with e;omega));have hgx:=hgrow;obtain⟨a2,c2,rfl⟩:=row_slice hown;clear hown hgrow hat hlb HNW;have HM6:=qq HM6x;obtain⟨lO,qO,fO⟩:=kO;obtain⟨lR,qR,fR⟩:=kR
   have hOR:w.heap.size+1<w3.heap.size:=by omega
   clear HL KF HFR5 HMR5 KO K1' hgx;go_wp2_with fail;have hV:=((((Blk.other kR2 (p:=⟨w3.heap.size,0,none⟩) (by(try dsimp only);omega) (.slice a2 (1+nf) c2)).set' 0 (by simp) (.slice a2 (1+nf) c2)).set' 1 (by simp) (.slice ma nm mc)).set' 2 (by simp) (.int .i64 0))
   have hVq:=hV.cell;have hVf:=hV.free;refine bodyPost_ret (v:=.tuple #[.agg #[.slice a2 (1+nf) c2,.slice ma nm mc,.int .i64 0],.int .i64 0]) (by simp[results,Tryz.results58,go_sem,hVq,hVf]) rfl ?_
   have hk:∀k,k≠w3.heap.size→k≠w.heap.size+1→((((w6.setCell ⟨w3.heap.size,0,none⟩ (.slice a2 (1+nf) c2)).setCell ⟨w.heap.size+1,0,none⟩ (.slice a2 (1+nf) c2)).setCell ⟨w.heap.size+1,1,none⟩ (.slice ma nm mc)).setCell ⟨w.heap.size+1,2,none⟩ (.int .i64 0)).heap[k]? =w6.heap[k]? :=fun k h1 h2=>by rw[Below.heap_setCell _ _ _ _ h2,Below.heap_setCell _ _ _ _ h2,Below.heap_setCell _ _ _ _ h2,Below.heap_setCell _ _ _ _ h1]
   exact HEX.out _ _ (HEF.out _ _ (row_heap HOWN.out (fun k h=>hk k (by have:=HV2.out k h;omega) (by have:=HV2.out k h;omega)))) (HEM.out _ (row_heap HM6.out (fun k h=>hk k (by have:=hmk k h;omega) (by have:=hmk k h;omega)))) (bst (bst (bst (bst HB6.out w3.heap.size 0 _) (w.heap.size+1) 0 _) (w.heap.size+1) 1 _) (w.heap.size+1) 2 _)
theorem rdec_yes (R:RLoc) (S:Sto) (na qa:Int) (w:World) (h:RStoreAt R S w) (hG:StoGood S) (i:Nat) (a:SAct) (hf:sfind S na qa=some i) (ha:S.acts[i]? =some a) (h1:a.oc=1) (h3:a.de=0) (hrd:vReady a=true):Calls Tryz.prog 58 #[.pointer (some ⟨R.sb,0,none⟩),.agg #[na,qa],.bool true] w (RDoEnds ⟨fDecide na qa 1::vFs 1 a,vMs S 1 a,0⟩ 0 w):=by
 have HF:=qq (fun W (hW:Below w.heap.size w W)=>rfind_of R S na qa W (h.below hW) hG.acts);rw[hf] at HF;dsimp only[oix] at HF;obtain⟨g,n,cap,va,vc,hin,hn8,hv6,hQ,hRR⟩:=ract_at h hG ha;have hi0:(0:Int)≤(i:Int):=by omega
 have hi1:(i:Int)<(n:Int):=by omega
 have hi00:¬(i:Int)<0:=by omega
 have HRD:=qq (fun W hW=>rready_of a (.slice va a.regs.length vc) a.regs W (rrow_at hRR hW) (by omega));rw[ready_eq (fun r hr=>⟨((hG.act a (List.mem_of_getElem? ha)).reg r hr).2.2.2.2.1,((hG.act a (List.mem_of_getElem? ha)).reg r hr).2.2.2.2.2⟩),hrd] at HRD;have HC:=qq (fun W (hW:Below w.heap.size w W)=>rcarry18_of R S i a 1 W (h.below hW) hG ha);obtain⟨fs,hfs⟩:∃fs,fs=vFs 1 a:=⟨_,rfl⟩
 obtain⟨ms,hms⟩:∃ms,ms=vMs S 1 a:=⟨_,rfl⟩
 rw[←hfs,←hms] at HC⊢;have hl6:fs.length≤6:=by rw[hfs];unfold vFs;rw[List.length_map];exact Nat.le_trans vDirsN_len hv6
 clear hfs hms;obtain⟨nd,hnd⟩:∃nd,nd=S.node:=⟨_,rfl⟩
 rw[←hnd] at hQ;obtain⟨an,aq,oc,dp,ex,pa,de,rs⟩:=a;unfold ActC at hQ;dsimp only[vactV,vactC] at*;obtain⟨vn,hvn⟩:∃n,n=rs.length:=⟨_,rfl⟩
 rw[←hvn] at hQ HRD;have HQ:=qq hQ;have e28:(oc !=1)=false:=by simpa using h1
 have e32:(de !=0)=false:=by simpa using h3
 clear hG hQ hRR hvn hnd hin hn8 hv6 h hf ha h1 h3 hrd;go_enter Tryz.func58,Tryz.ntmps58;go_wp2_with fail;refine(HF.out _ (by go_grown)).mono ?_;rintro e w1 ⟨rfl,hb1⟩;have HB:=qq (below_then (show Below w.heap.size w _ from by go_grown) hb1);have K0:=qq (((Blk.fresh w #[na,qa] 36 _ rfl).alloc (.cells #[.slice none 0 0,.slice none 0 0,.int .i64 0] 95)).below hb1)
 have K1:=qq ((Blk.fresh (w.alloc (.cells #[na,qa] 36)) #[.slice none 0 0,.slice none 0 0,.int .i64 0] 95 _ rfl).below hb1);simp only[World.size_alloc] at K1;have l0:=K0.out.lt;have l1:=K1.out.lt;clear hb1 HF;obtain⟨xl,gl,xn,xa,a0,a1,a2,a3,a4,a5,a6,a7⟩:=HQ.out _ HB.out;go_wp2_with fail;refine(HRD.out _ (below_then HB.out ((Below.refl _ _).alloc (Nat.le_refl _) _))).mono ?_;rintro e w2 ⟨rfl,hb2⟩
 have hal:=below_then ((Below.refl w1.heap.size w1).alloc (Nat.le_refl _) (.cells #[an,aq,oc,dp,.float .f64 ex,pa,de,.slice va vn vc] 116)) hb2;have HB:=qq (below_then HB.out hal);have K0:=qq (K0.out.below hal);have K1:=qq (K1.out.below hal);have zw:=hal.size;clear hb2 hal xl gl xn xa a0 a1 a2 a3 a4 a5 a6 a7 HQ HRD;go_wp2_with fail;refine(HC.out _ HB.out).mono ?_
 rintro e w3 ⟨fa,fc,ma,mc,rfl,hfr,hmr,hne,hb3⟩;have HB3:=qq (below_then HB.out hb3);have K0:=qq (K0.out.below hb3);have K1:=qq (K1.out.below hb3);have z3:=hb3.size;have HFR:=qq hfr;have HMR:=qq hmr;have HEF:Hid (∀(W:World) v,W.ownsRow 0 42 14 v (fs.length+1) (factL (fDecide na qa 1) ++factsL fs)→ReadFacts W v (fDecide na qa 1::fs)):=qq (fun W v hv=>read_frow18 hv)
 have HEM:Hid (∀(W:World),W.ownsRow (w2.heap.size+2) 81 9 (.slice ma ms.length mc) ms.length (msgsL ms)→ReadMsgs W (.slice ma ms.length mc) ms):=qq (fun W hv=>read_mrow hv)
 have HEX:Hid (∀fv (W:World),ReadFacts W fv (fDecide na qa 1::fs)→ReadMsgs W (.slice ma ms.length mc) ms→Below w.heap.size w W→RDoEnds ⟨fDecide na qa 1::fs,ms,0⟩ 0 w (.returned (.tuple #[.agg #[fv,.slice ma ms.length mc,.int .i64 0],.int .i64 0])) W):=qq (fun fv W h1 h2 h3=>⟨_,_,rfl,h1,h2,h3⟩);obtain⟨nf,hnf⟩:∃n,n=fs.length:=⟨_,rfl⟩
 obtain⟨nm,hnm⟩:∃n,n=ms.length:=⟨_,rfl⟩
 rw[←hnf] at HFR HEF hl6;rw[←hnm] at HMR HEM HEX;rw[←hnf,←hnm];have B4:=(Below.refl w3.heap.size w3).alloc (Nat.le_refl _) (.cells #[.slice fa nf fc,.slice ma nm mc,.int .i64 0] 95);have B5:=B4.alloc (by simp) (.cells #[.int .i64 4,na,qa,.int .i64 0,.int .i64 0,.int .i64 0,.int .i64 0,.int .i64 0,.int .i64 0,.int .i64 0,.int .i64 0,.int .i64 0,.int .i64 1,.float .f64 0] 42)
 have K0':=qq (K0.out.below B4);have K1':=qq (K1.out.below B5);have KO:=qq ((Blk.fresh w3 #[.slice fa nf fc,.slice ma nm mc,.int .i64 0] 95 _ rfl).alloc (.cells #[.int .i64 4,na,qa,.int .i64 0,.int .i64 0,.int .i64 0,.int .i64 0,.int .i64 0,.int .i64 0,.int .i64 0,.int .i64 0,.int .i64 0,.int .i64 1,.float .f64 0] 42))
 have KF:=qq (Blk.fresh (w3.alloc (.cells #[.slice fa nf fc,.slice ma nm mc,.int .i64 0] 95)) #[.int .i64 4,.int .i64 na,.int .i64 qa,.int .i64 0,.int .i64 0,.int .i64 0,.int .i64 0,.int .i64 0,.int .i64 0,.int .i64 0,.int .i64 0,.int .i64 0,.int .i64 1,.float .f64 0] 42 _ rfl)
 have HL:=qq (World.ownsRow_lit (base:=w3.heap.size+1) (size:=14) (e:=42) (w3.alloc (.cells #[.slice fa nf fc,.slice ma nm mc,.int .i64 0] 95)) #[.int .i64 4,.int .i64 na,.int .i64 qa,.int .i64 0,.int .i64 0,.int .i64 0,.int .i64 0,.int .i64 0,.int .i64 0,.int .i64 0,.int .i64 0,.int .i64 0,.int .i64 1,.float .f64 0] 1 (by simp) (by decide) (by rfl));simp only[World.size_alloc] at KF HL
 have HB5:=qq (below_then HB3.out B5);have HFR5:=qq (row_al (row_al HFR.out (.cells #[.slice fa nf fc,.slice ma nm mc,.int .i64 0] 95)) (.cells #[.int .i64 4,na,qa,.int .i64 0,.int .i64 0,.int .i64 0,.int .i64 0,.int .i64 0,.int .i64 0,.int .i64 0,.int .i64 0,.int .i64 0,.int .i64 1,.float .f64 0] 42))
 have HMR5:=qq (row_al (row_al HMR.out (.cells #[.slice fa nf fc,.slice ma nm mc,.int .i64 0] 95)) (.cells #[.int .i64 4,na,qa,.int .i64 0,.int .i64 0,.int .i64 0,.int .i64 0,.int .i64 0,.int .i64 0,.int .i64 0,.int .i64 0,.int .i64 0,.int .i64 1,.float .f64 0] 42));have hmk:∀j,(Value.slice ma nm mc).ownBlock=some j→w2.heap.size+2≤j∧j<w3.heap.size:=fun j e=>HMR.out.lt j e
 have hzz:=HB.out.size;obtain⟨i0,ei,ez,es,ebb⟩:=info_parts infoRFact;obtain⟨l0,q0,f0⟩:=K0'.out;obtain⟨l1,q1,f1⟩:=K1.out;have hl2:w.heap.size<w3.heap.size:=by omega
 have hl3:w.heap.size+1<w3.heap.size+1:=by omega
 have hl4:w.heap.size≠w3.heap.size:=by omega
 have hf2:=HFR.out.2;clear hfr hmr hne B4 B5 HC K0' hnf hnm;rcases hf2 with⟨hv,hx0⟩ | ⟨g,cap,cur,hv,hrest⟩
 · injection hv with e1 e2 e3
   subst e1 e2 e3;have hfs:fs=[]:=by
    cases fs with
    | nil=>rfl
    | cons f t=>have:=HFR.out.1;simp[factsL,factL] at this
   subst hfs;clear hx0;go_wp2_with (at_builtin;refine append_none_w rfl _ _ 76 rfl (w3.heap.size+1) 42 i0 14 Tryz.underlying76 ei _ 1 _ rfl HL.out rfl ?_)
   have hV:=(((K1.out.set' 0 (by simp) (Value.slice (some ⟨w3.heap.size+1,0,none⟩) 1 1)).set' 1 (by simp) (.slice ma nm mc)).set' 2 (by simp) (.int .i64 0)).alloc (.cells #[.slice (some ⟨w3.heap.size+1,0,none⟩) 1 1,.slice ma nm mc,.int .i64 0] 95) |>.alloc (.cells #[.int .i64 4,na,qa,.int .i64 0,.int .i64 0,.int .i64 0,.int .i64 0,.int .i64 0,.int .i64 0,.int .i64 0,.int .i64 0,.int .i64 0,.int .i64 1,.float .f64 0] 42)
   have hVq:=hV.cell;have hVf:=hV.free;refine bodyPost_ret (v:=.tuple #[.agg #[Value.slice (some ⟨w3.heap.size+1,0,none⟩) 1 1,.slice ma nm mc,.int .i64 0],.int .i64 0]) (by simp[results,Tryz.results58,go_sem,hVq,hVf]) rfl ?_
   have hk:∀k,k≠w.heap.size+1→(((w3.setCell ⟨w.heap.size+1,0,none⟩ (.slice (some ⟨w3.heap.size+1,0,none⟩) 1 1)).setCell ⟨w.heap.size+1,1,none⟩ (.slice ma nm mc)).setCell ⟨w.heap.size+1,2,none⟩ (.int .i64 0)).heap[k]? =w3.heap[k]? :=fun k h2=>by rw[Below.heap_setCell _ _ _ _ h2,Below.heap_setCell _ _ _ _ h2,Below.heap_setCell _ _ _ _ h2]
   have hrow:=World.ownsRow_lit (base:=0) (size:=14) (e:=42) ((((w3.setCell ⟨w.heap.size+1,0,none⟩ (.slice (some ⟨w3.heap.size+1,0,none⟩) 1 1)).setCell ⟨w.heap.size+1,1,none⟩ (.slice ma nm mc)).setCell ⟨w.heap.size+1,2,none⟩ (.int .i64 0)).alloc (.cells #[.slice (some ⟨w3.heap.size+1,0,none⟩) 1 1,.slice ma nm mc,.int .i64 0] 95)) #[.int .i64 4,.int .i64 na,.int .i64 qa,.int .i64 0,.int .i64 0,.int .i64 0,.int .i64 0,.int .i64 0,.int .i64 0,.int .i64 0,.int .i64 0,.int .i64 0,.int .i64 1,.float .f64 0] 1 (Nat.zero_le _) (by decide) (by rfl)
   simp only[World.size_alloc,World.size_setCell] at hrow;exact HEX.out _ _ (HEF.out _ _ hrow) (HEM.out _ (row_al (row_al (row_heap HMR.out (fun k h=>hk k (by have:=hmk k h;omega))) _) _)) (bel_alloc (bel_alloc (bst (bst (bst HB3.out (w.heap.size+1) 0 _) (w.heap.size+1) 1 _) (w.heap.size+1) 2 _) _) _)
 · simp only[Value.slice.injEq,true_and] at hv;obtain⟨rfl,rfl⟩:=hv;have hnews:=HFR5.out.cells (g:=g) rfl;have HNW:=qq hnews;clear hnews hrest
   go_wp2_with (at_builtin;refine wpList_append_own_at _ rfl _ _ 76 rfl (w3.heap.size+1) 42 i0 (.agg #[.int .i64 0,.int .i64 0,.int .i64 0,.int .i64 0,.int .i64 0,.int .i64 0,.int .i64 0,.int .i64 0,.int .i64 0,.int .i64 0,.int .i64 0,.int .i64 0,.int .i64 0,.float .f64 0]) 14 112 Tryz.underlying76 ei ez es ebb rfl (by decide) _ 1 _ rfl HL.out ⟨g,0,none⟩ nf fc (factsL fs) rfl ?d2 HNW.out ?d6 ?d3 ?d4 ?d5 ?_)
   case d2=>exact HFR.out.1
   case d6=>intro u hu;obtain⟨f,_,hf⟩:=List.mem_flatMap.1 hu;exact factL_one f u hf
   case d3=>unfold maxLen;omega
   case d4=>omega
   case d5=>simp
   intro v2 w6 hown hgrow _ hat;have HV2:Hid (∀j,v2.ownBlock=some j→w3.heap.size+1≤j):=qq (fun j e=>(hown.lt j e).1);have HOWN:=qq (show w6.ownsRow 0 42 14 v2 (nf+1) (factL (fDecide na qa 1) ++factsL fs) from row_base0 (by rw[Nat.add_comm];exact hown));have hlb:(Value.slice (some ⟨w3.heap.size+1,0,none⟩) 1 1).ownBlock=some (w3.heap.size+1):=rfl;rw[hlb] at hgrow
   have kO:Blk w6 w3.heap.size #[.slice (some ⟨g,0,none⟩) nf fc,.slice ma nm mc,.int .i64 0]:=KO.out.same hgrow.size (hgrow.block _ KO.out.lt (fun e=>by injection e with e;omega));have kR:Blk w6 (w.heap.size+1) #[.slice none 0 0,.slice none 0 0,.int .i64 0]:=K1'.out.same hgrow.size (hgrow.block _ K1'.out.lt (fun e=>by injection e with e;omega));have kR2:=kR
   have HM6x:=row_heap HMR5.out (fun j e=>hgrow.block j (HMR5.out.lt j e).2 (fun e2=>by have:=hmk j e;injection e2 with e2;omega));have HB6:=qq (HB5.out.grown hgrow HB5.out.size (fun j e=>by injection e with e;omega));have hgx:=hgrow;obtain⟨a2,c2,rfl⟩:=row_slice hown;clear hown hgrow hat hlb HNW;have HM6:=qq HM6x;obtain⟨lO,qO,fO⟩:=kO;obtain⟨lR,qR,fR⟩:=kR
   have hOR:w.heap.size+1<w3.heap.size:=by omega
   clear HL KF HFR5 HMR5 KO K1' hgx;go_wp2_with fail;have hV:=((((Blk.other kR2 (p:=⟨w3.heap.size,0,none⟩) (by(try dsimp only);omega) (.slice a2 (1+nf) c2)).set' 0 (by simp) (.slice a2 (1+nf) c2)).set' 1 (by simp) (.slice ma nm mc)).set' 2 (by simp) (.int .i64 0))
   have hVq:=hV.cell;have hVf:=hV.free;refine bodyPost_ret (v:=.tuple #[.agg #[.slice a2 (1+nf) c2,.slice ma nm mc,.int .i64 0],.int .i64 0]) (by simp[results,Tryz.results58,go_sem,hVq,hVf]) rfl ?_
   have hk:∀k,k≠w3.heap.size→k≠w.heap.size+1→((((w6.setCell ⟨w3.heap.size,0,none⟩ (.slice a2 (1+nf) c2)).setCell ⟨w.heap.size+1,0,none⟩ (.slice a2 (1+nf) c2)).setCell ⟨w.heap.size+1,1,none⟩ (.slice ma nm mc)).setCell ⟨w.heap.size+1,2,none⟩ (.int .i64 0)).heap[k]? =w6.heap[k]? :=fun k h1 h2=>by rw[Below.heap_setCell _ _ _ _ h2,Below.heap_setCell _ _ _ _ h2,Below.heap_setCell _ _ _ _ h2,Below.heap_setCell _ _ _ _ h1]
   exact HEX.out _ _ (HEF.out _ _ (row_heap HOWN.out (fun k h=>hk k (by have:=HV2.out k h;omega) (by have:=HV2.out k h;omega)))) (HEM.out _ (row_heap HM6.out (fun k h=>hk k (by have:=hmk k h;omega) (by have:=hmk k h;omega)))) (bst (bst (bst (bst HB6.out w3.heap.size 0 _) (w.heap.size+1) 0 _) (w.heap.size+1) 1 _) (w.heap.size+1) 2 _)
theorem rdecide18_of (R:RLoc) (S:Sto) (na qa:Int) (cl:Bool) (w:World) (h:RStoreAt R S w) (hG:StoGood S):Calls Tryz.prog 58 #[.pointer (some ⟨R.sb,0,none⟩),.agg #[na,qa],.bool cl] w (RDoEnds (vDecide S na qa cl).1 (vDecide S na qa cl).2 w):=by
 unfold vDecide
 cases hg:lGet S na qa with
 | none=>exact rdec_none R S na qa cl w h hG (vget_none hg)
 | some x=>
  obtain⟨i,a⟩:=x;obtain⟨hf,ha,_⟩:=lGet_some hg;dsimp only;by_cases h1:a.oc=1
  case neg=>rw[if_pos (.inl h1)];exact rdec_oc R S na qa cl w h hG i a hf ha h1
  by_cases h3:a.de=0
  case neg=>rw[if_pos (.inr (.inl h3))];exact rdec_de R S na qa cl w h hG i a hf ha h1 h3
  cases cl with
  | false=>
   rw[if_neg (by rintro(e | e | e);exact e h1;exact e h3;exact absurd e.1 (by simp))];exact rdec_no R S na qa w h hG i a hf ha h1 h3
  | true=>
   cases hr:vReady a with
   | false=>rw[if_pos (.inr (.inr ⟨rfl,rfl⟩))];exact rdec_unready R S na qa w h hG i a hf ha h1 h3 hr
   | true=>
    rw[if_neg (by rintro(e | e | e);exact e h1;exact e h3;exact absurd e.2 (by simp))];exact rdec_yes R S na qa w h hG i a hf ha h1 h3 hr
theorem vdecide_of (L:SLoc) (S:Sto) (na qa:Int) (cl:Bool) (ea:Int→Addr) (w:World) (hE:EnvS ea w) (h:StoreAt L S w) (hG:StoGood S):Calls Tryz.prog 57 #[.pointer (some ⟨L.sb,0,none⟩),.agg #[na,qa],.bool cl] w (DirEnds ea (vDecide S na qa cl).1 (vDecide S na qa cl).2 w):=by
 unfold vDecide
 cases hg:lGet S na qa with
 | none=>exact vdecide_none L S na qa cl ea w hE h hG hg
 | some x=>
  obtain⟨i,a⟩:=x;dsimp only;by_cases h1:a.oc=1
  case neg=>rw[if_pos (.inl h1)];exact vdecide_oc L S na qa cl ea w hE h hG i a hg h1
  by_cases h3:a.de=0
  case neg=>rw[if_pos (.inr (.inl h3))];exact vdecide_de L S na qa cl ea w hE h hG i a hg h1 h3
  cases cl with
  | false=>
   rw[if_neg (by rintro(e | e | e);exact e h1;exact e h3;exact absurd e.1 (by simp))];exact vdecide_no L S na qa ea w hE h hG i a hg h1 h3
  | true=>
   cases hr:vReady a with
   | false=>rw[if_pos (.inr (.inr ⟨rfl,rfl⟩))];exact vdecide_unready L S na qa ea w hE h hG i a hg h1 h3 hr
   | true=>
    rw[if_neg (by rintro(e | e | e);exact e h1;exact e h3;exact absurd e.2 (by simp))];exact vdecide_yes L S na qa ea w hE h hG i a hg h1 h3 hr
theorem apply_decide {S : Sto} {n q d : Int} {i : Nat} {a : SAct} (hS : StoGood S) (hg : lGet S n q = some (i, a)) (ho : a.oc = 1) (h0 : a.de = 0) (hd : d = 1 ∨ d = 2) :
    sapply S (fDecide n q d)=({S with acts:=S.acts.set i {a with de:=d}},0):=by
 obtain⟨g1,g2,g3,g4,g5⟩:=lGet_some hg;have hid:=ctxOk_id (hS.act a g3).ctx;have hidk:idOk n q=true:=(idOk_iff _ _).2 (by rw[←g4,←g5];exact hid);have hok:fok (fDecide n q d)=true:=by unfold fok fDecide;simp[hidk];omega
 have hput:sput S (fDecide n q d)=some {S with acts:=S.acts.set i {a with de:=d}}:=by
  unfold sput;rw[if_neg (by simp[fDecide]),if_neg (by simp[fDecide]),if_neg (by simp[fDecide])];show(match sfind S n q with | none=>none | some i=>_)=_
  rw[g1];simp only;rw[g2];simp only;rw[if_neg (by simp[fDecide])];have hs:sact a (fDecide n q d)=some {a with de:=d}:=by
   unfold sact;rw[if_neg (by simp[fDecide]),if_neg (by simp[fDecide]),if_neg (by rintro(e | e);exact e ho;exact e h0)];rfl
  rw[hs];rfl
 unfold sapply;rw[if_neg (by rw[hok];simp),hput]
def dReg (d:Int) (r:SReg):SReg:=if vDir d r.seat.s=0 then r else {r with seat:=(mDo r.seat (vDir d r.seat.s)).1.seat}
def dirAt (d:Int) (rs:List SReg) (i:Nat):Option (Nat×Int):=match rs[i]? with
 | none=>none
 | some r=>if vDir d r.seat.s=0 then none else some (i,vDir d r.seat.s)
theorem vFs_eq (d:Int) (a:SAct):vFs d a=((List.range' 0 a.regs.length).filterMap (dirAt d a.regs)).map (vF a):=by
 unfold vFs vDirsN;rw[List.range_eq_range'];rfl
theorem carry_fits (a : SAct) (d : Int) (hA : ∀ r ∈ a.regs, r.seat.d = 1 ∧ mRight r.seat = true) (i : Nat) : ∀ (n k : Nat) (S : Sto) (b : SAct), StoGood S → lGet S a.an a.aq = some (i, b) → b.regs.length = a.regs.length → k + n = a.regs.length → (∀ j, k ≤ j → b.regs[j]? = a.regs[j]?) →
    ∃rs,sfit S (((List.range' k n).filterMap (dirAt d a.regs)).map (vF a))=({S with acts:=S.acts.set i {b with regs:=rs}},true)∧rs.length=a.regs.length∧(∀j,j<k→rs[j]? =b.regs[j]?)∧∀j,k≤j→rs[j]? =(a.regs[j]?).map (dReg d):=by
 intro n
 induction n with
 | zero=>
  intro k S b hS hg hl hk hb;refine⟨b.regs,?_,hl,fun j _=>rfl,fun j hj=> ?_⟩
  · have h2:=(lGet_some hg).2.1;obtain⟨hi,he⟩:=List.getElem?_eq_some_iff.1 h2;show(S,true)=_
    have:S.acts.set i {b with regs:=b.regs}=S.acts:=by
     show S.acts.set i b=S.acts
     rw[←he];exact List.set_getElem_self hi
    rw[this]
  · rw[List.getElem?_eq_none (by omega),List.getElem?_eq_none (by omega)];rfl
 | succ n ih=>
  intro k S b hS hg hl hk hb;obtain⟨r,hr⟩:∃r,a.regs[k]? =some r:=⟨_,List.getElem?_eq_getElem (by omega)⟩
  rw[List.range'_succ,List.filterMap_cons];by_cases hz:vDir d r.seat.s=0
  · have e:dirAt d a.regs k=none:=by unfold dirAt;rw[hr];simp only;rw[if_pos hz]
    rw[e];obtain⟨rs,h1,h2,h3,h4⟩:=ih (k+1) S b hS hg hl (by omega) (fun j hj=>hb j (by omega));refine⟨rs,h1,h2,fun j hj=>h3 j (by omega),fun j hj=> ?_⟩;by_cases e:j=k
    · subst e;rw[h3 j (by omega),hb j (Nat.le_refl _),hr];show some r=some (dReg d r)
      unfold dReg;rw[if_pos hz]
    · exact h4 j (by omega)
  · have e:dirAt d a.regs k=some (k,vDir d r.seat.s):=by unfold dirAt;rw[hr];simp only;rw[if_neg hz]
    rw[e];have hbr:b.regs[k]? =some r:=(hb k (Nat.le_refl _)).trans hr;have hm:=hA r (List.mem_of_getElem? hr);obtain⟨d1,d2,⟨d3,d4,_⟩,d5⟩:=do_goes (k:=vDir d r.seat.s) hm.2 (vdo_ok hm.1 hm.2 hz);have hm':mRight ⟨r.seat.p,r.seat.d,(mDo r.seat (vDir d r.seat.s)).1.seat.s,(mDo r.seat (vDir d r.seat.s)).1.seat.h⟩=true:=by
     rw[←d3,←d4];exact d2
    have hse:(⟨r.seat.p,r.seat.d,(mDo r.seat (vDir d r.seat.s)).1.seat.s,(mDo r.seat (vDir d r.seat.s)).1.seat.h⟩:MSeat)=(mDo r.seat (vDir d r.seat.s)).1.seat:=by
     rw[←d3,←d4]
    have hlr:lReg b (k:Int)=some r:=by unfold lReg;rw[if_pos (by omega)];simpa using hbr
    have hap:=apply_seat hS hg hlr d1 hm' d5;rw[hse] at hap;have hdr:dReg d r={r with seat:=(mDo r.seat (vDir d r.seat.s)).1.seat}:=by unfold dReg;rw[if_neg hz]
    rw[←hdr] at hap;simp only[Int.toNat_natCast] at hap;have ef:vF a (k,vDir d r.seat.s)=fSeat a.an a.aq (k:Int) (mDo r.seat (vDir d r.seat.s)).1.seat.s (mDo r.seat (vDir d r.seat.s)).1.seat.h:=by
     unfold vF;simp only[hr]
    have hS':=sapply_good (f:=fSeat a.an a.aq (k:Int) (mDo r.seat (vDir d r.seat.s)).1.seat.s (mDo r.seat (vDir d r.seat.s)).1.seat.h) hS;rw[hap] at hS';obtain⟨rs,h1,h2,h3,h4⟩:=ih (k+1) _ {b with regs:=b.regs.set k (dReg d r)} hS' (lGet_set hg rfl rfl) (by simpa using hl) (by omega) (fun j hj=>by
      show(b.regs.set k (dReg d r))[j]? =_
      rw[List.getElem?_set_ne (by omega)];exact hb j (by omega))
    refine⟨rs,?_,h2,fun j hj=> ?_,fun j hj=> ?_⟩
    · rw[List.map_cons];unfold sfit;rw[ef,hap,if_pos rfl];simp only;rw[h1];simp only[List.set_set]
    · rw[h3 j (by omega)];show(b.regs.set k (dReg d r))[j]? =_
      rw[List.getElem?_set_ne (by omega)]
    · by_cases e:j=k
      · subst e;rw[h3 j (by omega),hr];show(b.regs.set j (dReg d r))[j]? =some (dReg d r)
        rw[List.getElem?_set_self (by omega)]
      · exact h4 j (by omega)
theorem regs_right {S:Sto} (hS:StoGood S) {n q:Int} {i:Nat} {a:SAct} (hg:lGet S n q=some (i,a)):∀r∈a.regs,r.seat.d=1∧mRight r.seat=true:=fun r hr=>
 ⟨((hS.act a (lGet_some hg).2.2.1).reg r hr).2.2.2.2.1,((hS.act a (lGet_some hg).2.2.1).reg r hr).2.2.2.2.2⟩
theorem vRes_fits {S:Sto} (hS:StoGood S) {n q:Int} {i:Nat} {a:SAct} (d:Int) (hg:lGet S n q=some (i,a)):∃T,sfit S (vFs d a)=(T,true):=by
 obtain⟨g1,g2,g3,g4,g5⟩:=lGet_some hg;obtain⟨rs,h1,_⟩:=carry_fits a d (regs_right hS hg) i a.regs.length 0 S a hS (by rw[g4,g5];exact hg) rfl (by omega) (fun _ _=>rfl);exact⟨_,by rw[vFs_eq];exact h1⟩
theorem decide_fits {S : Sto} (hS : StoGood S) {n q d : Int} {i : Nat} {a : SAct} (hg : lGet S n q = some (i, a)) (ho : a.oc = 1) (h0 : a.de = 0) (hd : d = 1 ∨ d = 2) :
    sfit S (fDecide n q d::vFs d a)=({S with acts:=S.acts.set i {a with de:=d,regs:=a.regs.map (dReg d)}},true):=by
 obtain⟨g1,g2,g3,g4,g5⟩:=lGet_some hg;have hap:=apply_decide hS hg ho h0 hd;have hS':=sapply_good (f:=fDecide n q d) hS;rw[hap] at hS';have hg2:=lGet_set (b:={a with de:=d}) hg rfl rfl;rw[←g4,←g5] at hg2;obtain⟨rs,h1,h2,h3,h4⟩:=carry_fits a d (regs_right hS hg) i a.regs.length 0 _ {a with de:=d} hS' hg2 rfl (by omega) (fun _ _=>rfl)
 have hrs:rs=a.regs.map (dReg d):=List.ext_getElem? fun j=>by rw[h4 j (Nat.zero_le _),List.getElem?_map]
 unfold sfit;rw[hap,if_pos rfl];simp only;rw[vFs_eq,h1,hrs];simp only[List.set_set]
theorem vDecide_fits {S:Sto} (hS:StoGood S) (n q:Int) (cl:Bool):∃T,sfit S (vDecide S n q cl).1.fs=(T,true):=by
 unfold vDecide;split
 · exact⟨S,rfl⟩
 rename_i i a hg
 split
 · exact⟨S,rfl⟩
 rename_i hn
 exact⟨_,decide_fits hS hg (Classical.byContradiction fun e=>hn (.inl e)) (Classical.byContradiction fun e=>hn (.inr (.inl e))) (by unfold vDec;cases cl<;>simp)⟩
theorem dReg_all {r:SReg} (hd:r.seat.d=1) (hR:mRight r.seat=true):vDir 1 (dReg 1 r).seat.s=0∧vDir 2 (dReg 2 r).seat.s=0∧(qReady r=true→((dReg 1 r).seat.s=6∨(dReg 1 r).seat.h=1)∧qUndoes (dReg 1 r)=false):=by
 have hall:∀y∈seatList,mRight y=true→y.d=1→vDir 1 (dReg 1 ⟨0,0,y⟩).seat.s=0∧vDir 2 (dReg 2 ⟨0,0,y⟩).seat.s=0∧(qReady ⟨0,0,y⟩=true→((dReg 1 ⟨0,0,y⟩).seat.s=6∨(dReg 1 ⟨0,0,y⟩).seat.h=1)∧qUndoes (dReg 1 ⟨0,0,y⟩)=false):=by decide+kernel
 have h:=hall r.seat (seat_mem hR) hR hd;have e:∀d,(dReg d r).seat=(dReg d ⟨0,0,r.seat⟩).seat:=fun d=>by unfold dReg;split<;>rfl
 rw[e,e];have e2:qUndoes (dReg 1 r)=qUndoes (dReg 1 ⟨0,0,r.seat⟩):=by unfold qUndoes;rw[e]
 rw[e2];exact h
theorem vDir_two {s:Int} (h:vDir 2 s=0):s≠1∧s≠4∧s≠5:=by
 unfold vDir at h;refine⟨?_,?_,?_⟩<;>(rintro rfl;simp at h)
theorem vDirs_nil {d:Int} {rs:List SReg} (h:∀r∈rs,vDir d r.seat.s=0) (k:Nat):vDirsN d rs k=[]:=by
 unfold vDirsN;rw[List.filterMap_eq_nil_iff];intro i hi
 cases hr:rs[i]? with
 | none=>rfl
 | some r=>simp only;rw[if_pos (h r (List.mem_of_getElem? hr))]
def vDue (S:Sto):List (Int×Int):=(S.acts.filter fun a=>decide (vDirsN a.de a.regs a.regs.length≠[])).map fun a=>(a.an,a.aq)
theorem act_once {S:Sto} (hS:StoGood S) {n q:Int} {i:Nat} {a b:SAct} (hg:lGet S n q=some (i,a)) (hb:b∈S.acts) (h1:b.an=n) (h2:b.aq=q):b=a:=by
 obtain⟨g1,g2,g3,g4,g5⟩:=lGet_some hg;have hp:=hS.sorted;rw[List.pairwise_iff_getElem] at hp;obtain⟨i,hi,rfl⟩:=List.mem_iff_getElem.1 hb;obtain⟨j,hj,rfl⟩:=List.mem_iff_getElem.1 g3;by_cases e:i=j
 · subst e;rfl
 · exfalso;rcases Nat.lt_or_gt_of_ne e with e | e
   · have:=hp i j hi hj e;omega
   · have:=hp j i hj hi e;omega
theorem decide_after {S T : Sto} (hS : StoGood S) {n q : Int} {cl : Bool} {i : Nat} {a : SAct} (hg : lGet S n q = some (i, a)) (ho : a.oc = 1) (h0 : a.de = 0) (hr : cl = true → vReady a = true)
    (hT:sfit S (fDecide n q (vDec cl)::vFs (vDec cl) a)=(T,true)):
    ∃c,lGet T n q=some (i,c)∧c.de=vDec cl∧(∀r∈c.regs,vDir c.de r.seat.s=0)∧(cl=true→(∀r∈c.regs,r.seat.s=6∨r.seat.h=1)∧c.regs.all (fun s=> !(qUndoes s))=true)∧(cl=false→∀r∈c.regs,r.seat.s≠1∧r.seat.s≠4∧r.seat.s≠5):=by
 have h1:=decide_fits (d:=vDec cl) hS hg ho h0 (by unfold vDec;cases cl<;>simp);rw[h1] at hT;injection hT with hT _
 subst hT;have hz:∀r∈a.regs.map (dReg (vDec cl)),vDir (vDec cl) r.seat.s=0:=fun r hr=>by
  obtain⟨x,hx,rfl⟩:=List.mem_map.1 hr;have:=dReg_all (regs_right hS hg x hx).1 (regs_right hS hg x hx).2
  cases cl
  · exact this.2.1
  · exact this.1
 have hq:cl=true→∀x∈a.regs,qReady x=true:=fun e x hx=>List.all_eq_true.1 (hr e) x hx
 refine⟨_,lGet_set hg rfl rfl,rfl,hz,fun e=>⟨fun r hr=> ?_,?_⟩,fun e r hr=> ?_⟩
 · subst e;obtain⟨x,hx,rfl⟩:=List.mem_map.1 hr;exact((dReg_all (regs_right hS hg x hx).1 (regs_right hS hg x hx).2).2.2 (hq rfl x hx)).1
 · subst e;rw[List.all_eq_true];intro r hr;obtain⟨x,hx,rfl⟩:=List.mem_map.1 hr;have:=((dReg_all (regs_right hS hg x hx).1 (regs_right hS hg x hx).2).2.2 (hq rfl x hx)).2;show(!qUndoes (dReg 1 x))=true
   rw[this];rfl
 · subst e;exact vDir_two (hz r hr)
theorem not_due {S:Sto} (hS:StoGood S) {n q:Int} {i:Nat} {a:SAct} (hg:lGet S n q=some (i,a)) (hz:∀r∈a.regs,vDir a.de r.seat.s=0):(n,q)∉vDue S:=by
 intro hm;unfold vDue at hm;obtain⟨b,hb,e⟩:=List.mem_map.1 hm;injection e with e1 e2
 obtain⟨hb1,hb2⟩:=List.mem_filter.1 hb;have:=act_once hS hg hb1 e1 e2;subst this;rw[vDirs_nil hz] at hb2;simp at hb2
theorem vRes_nil {S:Sto} {a:SAct} (hz:∀r∈a.regs,vDir a.de r.seat.s=0):vRes S a a.de=res0:=by
 unfold vRes vFs vMs res0;rw[vDirs_nil hz];rfl
end Go.Proofs.YtlkajejbfojkeaaGreatDoor
